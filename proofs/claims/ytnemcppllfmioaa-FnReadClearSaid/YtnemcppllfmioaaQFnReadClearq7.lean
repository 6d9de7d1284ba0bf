/- Lemmas on the printed functions for the law FnReadClear. -/
import Derived.Test.YtnemcppllfmioaaGFnReadClearg27
import Derived.Test.YtnemcppllfmioaaQFnReadClearq0
import Derived.Test.YtnemcppllfmioaaQFnReadClearq1
import Derived.Test.YtnemcppllfmioaaQFnReadClearq2
import Derived.Test.YtnemcppllfmioaaQFnReadClearq5
import Derived.Test.YtnemcppllfmioaaQFnReadClearq6
import Derived.Deep.RegionHeld3
import Derived.BigRegion
import Derived.Deep.Slices
import Derived.Laws.CopyOwn
namespace Go.Proofs.Ytnemcppllfmioaa.Pure
set_option linter.unusedVariables false
set_option linter.unusedSimpArgs false
open Go Go.RowKit Go.Proofs.Ytnemcppllfmioaa.PFnReadClear Go.Proofs.YtnemcppllfmioaaW.PrintWords Go.Proofs.YtnemcppllfmioaaW.PrintLast Go.Proofs.YtnemcppllfmioaaW.PrintMore

theorem FnReadClear_core (l0 l1 : List Int) (hm0 : l0.length ≤ maxLen) (hw : ∀ x ∈ l0, (Lit.int .u8 x).wf = true) (hm1 : l1.length ≤ maxLen) : ∃ k, laws_FnReadClear.f k l0 l1 = some true := by
  unfold maxLen at hm0 hm1
  have key : Ev (fun k => laws_FnReadClear.f k l0 l1) true := by
    unfold laws_FnReadClear.f
    have one : Ev (fun k => laws_FnReadClear.j0 k l0 l1 true) true := by
      refine Ev.succ ?_
      simp only [laws_FnReadClear.j0]
      exact Ev.pos trivial (Ev.now _)
    by_cases hb : (l0.length : Int) > 1048576
    · exact Ev.pos hb one
    refine Ev.neg hb ?_
    by_cases hb1 : (l1.length : Int) > 1048576
    · rw [decide_eq_true hb1]; exact one
    rw [decide_eq_false hb1]
    refine Ev.succ ?_
    simp only [laws_FnReadClear.j0]
    refine Ev.neg (by simp) ?_
    obtain ⟨⟨L, n⟩, hd, hD⟩ := drawClear_ev l0 hw
    have hD : DrF L := hD
    have hL3 := hD.2
    have hL7 := hD.1
    have hl : ∀ x ∈ L, x.f0.length ≤ 1000000000000 := fun x hx => by have := hL3 x hx; omega
    have hsz : FormulaSz L ≤ 1000000000000 := by have := isz_bd L hL3; unfold FormulaSz; omega
    refine Ev.bind hd (Ev.bind (impl_FormulasClear_ev L n hl) (Ev.bind (spec_FormulasClear_ev L n (by omega) hl) ?_))
    refine Ev.neg (by simp) (Ev.succ ?_)
    simp only [laws_FnReadClear.j1]
    cases hc : clearI L n
    · exact Ev.pos (by simp) (Ev.eqr (Ev.now _) (by simp))
    have hF : fsOk L = true := by unfold clearI at hc; rw [Bool.and_eq_true] at hc; exact hc.1
    have hn := ((clear_iff hF).1 hc).1
    refine Ev.neg (by simp) ?_
    by_cases hL0 : (L.length : Int) = 0
    · exact Ev.pos hL0 (Ev.now _)
    refine Ev.neg hL0 ?_
    have hm := Int.emod_nonneg (l1.length : Int) hL0
    have hm' := Int.emod_lt_of_pos (l1.length : Int) (show 0 < (L.length : Int) by omega)
    rw [w64 (x := (l1.length : Int) / 8) (by omega) (by omega)]
    have hq := Int.tmod_nonneg (L.length : Int) (show 0 ≤ (l1.length : Int) / 8 by omega)
    have hq' := Int.tmod_lt_of_pos ((l1.length : Int) / 8) (show 0 < (L.length : Int) by omega)
    generalize (l1.length : Int) % (L.length : Int) = x at hm hm' ⊢
    generalize Int.tmod ((l1.length : Int) / 8) (L.length : Int) = y at hq hq' ⊢
    have hfw : fwo L x = (L.eraseIdx x.toNat, true) := by unfold fwo; rw [if_pos ⟨hF, hm, hm'⟩]
    have hW : impl_FormulasWithout.f L x = some (L.eraseIdx x.toNat, true) := by
      unfold impl_FormulasWithout.f
      rw [if_pos hsz, hfw]
    have hsub : (L.eraseIdx x.toNat).Sublist L := List.eraseIdx_sublist _ _
    have hix : okIx L [x, y] := by
      intro i hi
      rcases List.mem_cons.1 hi with rfl | hi
      · exact ⟨hm, hm'⟩
      · rw [List.mem_singleton.1 hi]; exact ⟨hq, hq'⟩
    have f1 := rd_mem (l := L) hm hm'
    have f2 := rd_mem (l := L) hq hq'
    have g1 := hL3 _ f1
    have g2 := hL3 _ f2
    have hfl : (flatR L [x, y]).length ≤ 23 := by
      simp only [flatR, List.length_append, List.length_nil]
      omega
    have hfe : flatR L [x, y] = flatF [rd_T55 L x, rd_T55 L y] := rfl
    have hr2 : ∀ f ∈ [rd_T55 L x, rd_T55 L y], f ∈ L := by
      intro f hf
      rcases List.mem_cons.1 hf with rfl | hf
      · exact f1
      · rw [List.mem_singleton.1 hf]; exact f2
    refine Ev.conb hW (Ev.bind (impl_FormulasBuild_ev L _ hl (by simp)) ?_)
    rw [fbuild_of hF hix hfl]
    refine Ev.pos rfl (Ev.pos rfl (Ev.bind (impl_FormulasClear_ev (L.eraseIdx x.toNat) n (fun z hz => hl z (hsub.subset hz))) ?_))
    rw [clear_sub hF hsub hc]
    have hok := okR_flat hF hix hfl
    have hM : impl_FormulasMany.f L (flatR L [x, y]) = some (rdO L (flatR L [x, y])).f0 := by
      unfold impl_FormulasMany.f
      rw [if_pos ⟨hl, by omega⟩]
      unfold fMany
      rw [if_pos hok]
    refine Ev.pos rfl ?_
    by_cases hlen : ((flatR L [x, y]).length : Int) > n
    · by_cases hn0 : n = 0
      · exact Ev.pos hn0 (Ev.pos hlen (Ev.now _))
      · refine Ev.neg hn0 ?_
        rw [w64 (x := n - 1) (by omega) (by omega)]
        refine Ev.bind (impl_FormulasClear_ev L (n - 1) hl) ?_
        rw [clear_less hF hc hn0]
        exact Ev.pos rfl (Ev.pos hlen (Ev.now _))
    · have h1 : (rdO L (flatR L [x, y])).f0 = 1 := by
        rw [hfe] at hlen ⊢
        exact clear_one hF hc hr2 (by omega)
      rw [h1] at hM
      by_cases hn0 : n = 0
      · exact Ev.pos hn0 (Ev.neg hlen (Ev.conb hM (Ev.now _)))
      · refine Ev.neg hn0 ?_
        rw [w64 (x := n - 1) (by omega) (by omega)]
        refine Ev.bind (impl_FormulasClear_ev L (n - 1) hl) ?_
        rw [clear_less hF hc hn0]
        exact Ev.pos rfl (Ev.neg hlen (Ev.conb hM (Ev.now _)))
  exact Ev.rounds key
theorem FnReadClear_walk (l0 l1 : List Int) (A0 : Option Addr) (c0 : Nat) (A1 : Option Addr) (c1 : Nat) (w : World) (hr0 : Kd.C (Kd.int .u8) w A0 l0.length l0) (hc0 : l0.length ≤ c0) (hw0 : ∀ x ∈ l0, (Lit.int .u8 x).wf = true) (hm0 : l0.length ≤ maxLen) (hr1 : Kd.C (Kd.int .u8) w A1 l1.length l1) (hc1 : l1.length ≤ c1) (hw1 : ∀ x ∈ l1, (Lit.int .u8 x).wf = true) (hm1 : l1.length ≤ maxLen) :
    Calls Try.prog 5 #[.slice A0 l0.length c0, .slice A1 l1.length c1] w fun e w' => e = .returned (.bool true) ∧ Below w.heap.size w w' := by
  obtain ⟨k, h⟩ := FnReadClear_core l0 l1 hm0 hw0 hm1
  exact laws_FnReadClear.calls k A0 c0 l0 A1 c1 l1 true w hr0 hc0 hr1 hc1 h

/-! arguments that are read as data, as kinds -/
def Opn {α : Type} (P : Program) (t : TypeId) (d : Kd α) (ok : α → Prop) : Prop :=
  P.cellsOf t = d.sz ∧ ∀ {H : Type} (enc : TypeId × Value → H) (w : World) (base : Nat) (held : Bool) (fuel : Nat) (cs : List Value) (x : DataW H × List MemPlace), DataW.trod enc P w base (fun _ => true) held fuel t cs = some x → ∃ p, d.K w p cs ∧ ok p
theorem opn_int {P : Program} {t : TypeId} (k : IntKind) (ht : P.underlying t = some (.int k)) (hc : P.cellsOf t = 1) : Opn P t (Kd.int k) (fun n => (Lit.int k n).wf = true) :=
  ⟨hc, fun enc w base held fuel cs x h => by obtain ⟨n, rfl, _, hw⟩ := DataW.trod_int ht h; exact ⟨n, rfl, hw⟩⟩
theorem opn_bool {P : Program} {t : TypeId} (ht : P.underlying t = some .bool) (hc : P.cellsOf t = 1) : Opn P t Kd.bool (fun _ => True) :=
  ⟨hc, fun enc w base held fuel cs x h => by obtain ⟨n, rfl, _⟩ := DataW.trod_bool ht h; exact ⟨n, rfl, trivial⟩⟩
theorem opn_string {P : Program} {t : TypeId} (ht : P.underlying t = some .string) (hc : P.cellsOf t = 1) : Opn P t Kd.string (fun s => s.size ≤ maxLen) :=
  ⟨hc, fun enc w base held fuel cs x h => by obtain ⟨n, rfl, _, hs⟩ := DataW.trod_string ht h; exact ⟨n, rfl, hs⟩⟩
theorem opn_slice {α : Type} {P : Program} {t e : TypeId} {d : Kd α} {ok : α → Prop} (ht : P.underlying t = some (.slice e)) (hc : P.cellsOf t = 1) (he : Opn P e d ok) : Opn P t (Kd.slice e d) (fun l => (∀ x ∈ l, ok x) ∧ l.length ≤ maxLen) := by
  refine ⟨hc, fun enc w base held fuel cs x h => ?_⟩
  rcases Go.Deep.open_slice ht h with ⟨rfl, _⟩ | ⟨a, len, cap, m, n, D, Pl, rfl, _, hl, hm, hmm, _, hi⟩
  · exact ⟨[], ⟨none, 0, rfl, Nat.le_refl _, rfl, by simp, fun h => by simp at h⟩, by simp, by simp⟩
  · have hmc : m = cap := by simpa using hmm
    clear hmm
    have key : ∀ k, k ≤ len → ∃ l : List α, l.length = k ∧ (∀ x ∈ l, ok x) ∧ ∀ j p, l[j]? = some p → ∃ c, c.length = d.sz ∧ d.K w p c ∧ ∀ i u, c[i]? = some u → w.cell? (a.add (j * d.sz + i)) = some u := by
      intro k
      induction k with
      | zero => intro _; exact ⟨[], rfl, by simp, by simp⟩
      | succ k ih =>
        intro hk
        obtain ⟨l, hll, hlo, hlc⟩ := ih (by omega)
        obtain ⟨cs', hcs, ht'⟩ := hi k (by omega)
        rw [he.1] at hcs
        obtain ⟨p, hp, hop⟩ := he.2 enc w base held n cs' _ ht'
        obtain ⟨_, hcl, hat⟩ := World.cells?_some hcs
        refine ⟨l ++ [p], by simp [hll], ?_, ?_⟩
        · intro x hx
          rcases List.mem_append.1 hx with hx | hx
          · exact hlo x hx
          · rw [List.mem_singleton.1 hx]; exact hop
        · intro j q hq
          by_cases hj : j < l.length
          · rw [List.getElem?_append_left hj] at hq
            exact hlc j q hq
          · have hj2 : j = l.length := by
              have := (List.getElem?_eq_some_iff.1 hq).1
              simp at this; omega
            subst hj2
            rw [List.getElem?_append_right (Nat.le_refl _)] at hq
            simp at hq
            subst hq
            refine ⟨cs', hcl, hp, fun i u hu => ?_⟩
            have hil : i < d.sz := by rw [← hcl]; exact (List.getElem?_eq_some_iff.1 hu).1
            rw [hll, ← Go.Deep.add_add, hat i hil, hu]
    obtain ⟨l, hll, hlo, hlc⟩ := key len (Nat.le_refl _)
    subst hll
    exact ⟨l, ⟨some a, cap, rfl, hl, rfl, by unfold maxLen at hm; omega, fun _ => ⟨a, rfl, hlc⟩⟩, hlo, by omega⟩
theorem opn_iso {α β : Type} {P : Program} {t : TypeId} {d : Kd α} {ok : α → Prop} (h : Opn P t d ok) (f : β → α) (g : α → β) (hfg : ∀ x, f (g x) = x) : Opn P t (Kd.iso d f) (fun y => ok (f y)) :=
  ⟨h.1, fun enc w base held fuel cs x hx => by
    obtain ⟨p, hp, ho⟩ := h.2 enc w base held fuel cs x hx
    exact ⟨g p, by show d.K w (f (g p)) cs; rw [hfg]; exact hp, by show ok (f (g p)); rw [hfg]; exact ho⟩⟩
theorem opn_struct2 {α β : Type} {P : Program} {t : TypeId} {f0 f1 : Field} {a : Kd α} {b : Kd β} {oka : α → Prop} {okb : β → Prop} (ht : P.underlying t = some (.struct #[f0, f1])) (h0 : Opn P f0.type a oka) (h1 : Opn P f1.type b okb)
    (o0 : f0.offset = 0) (o1 : f1.offset = a.sz) (hc : P.cellsOf t = a.sz + b.sz) : Opn P t (Kd.pair a b) (fun p => oka p.1 ∧ okb p.2) := by
  refine ⟨hc, fun enc w base held fuel cs x h => ?_⟩
  obtain ⟨xs, n, _, _, hl, hxl, hg⟩ := DataW.trod_struct ht h
  have g0 := hg 0 f0 rfl
  have g1 := hg 1 f1 rfl
  rw [o0, h0.1, List.drop_zero] at g0
  rw [o1, h1.1] at g1
  rw [List.getElem?_eq_getElem (by rw [hxl]; simp)] at g0 g1
  obtain ⟨p, hp, hop⟩ := h0.2 enc w base held n _ _ g0
  obtain ⟨q, hq, hoq⟩ := h1.2 enc w base held n _ _ g1
  refine ⟨(p, q), ⟨cs.take a.sz, (cs.drop a.sz).take b.sz, ?_, hp, hq⟩, hop, hoq⟩
  rw [List.take_of_length_le (l := cs.drop a.sz) (by rw [List.length_drop, hl, hc]; omega), List.take_append_drop]
theorem opn_struct3 {α β γ : Type} {P : Program} {t : TypeId} {f0 f1 f2 : Field} {a : Kd α} {b : Kd β} {c : Kd γ} {oka : α → Prop} {okb : β → Prop} {okc : γ → Prop} (ht : P.underlying t = some (.struct #[f0, f1, f2])) (h0 : Opn P f0.type a oka) (h1 : Opn P f1.type b okb) (h2 : Opn P f2.type c okc)
    (o0 : f0.offset = 0) (o1 : f1.offset = a.sz) (o2 : f2.offset = a.sz + b.sz) (hc : P.cellsOf t = a.sz + (b.sz + c.sz)) : Opn P t (Kd.pair a (Kd.pair b c)) (fun p => oka p.1 ∧ okb p.2.1 ∧ okc p.2.2) := by
  refine ⟨hc, fun enc w base held fuel cs x h => ?_⟩
  obtain ⟨xs, n, _, _, hl, hxl, hg⟩ := DataW.trod_struct ht h
  have g0 := hg 0 f0 rfl
  have g1 := hg 1 f1 rfl
  have g2 := hg 2 f2 rfl
  rw [o0, h0.1, List.drop_zero] at g0
  rw [o1, h1.1] at g1
  rw [o2, h2.1] at g2
  rw [List.getElem?_eq_getElem (by rw [hxl]; simp)] at g0 g1 g2
  obtain ⟨p, hp, hop⟩ := h0.2 enc w base held n _ _ g0
  obtain ⟨q, hq, hoq⟩ := h1.2 enc w base held n _ _ g1
  obtain ⟨r, hr, hor⟩ := h2.2 enc w base held n _ _ g2
  refine ⟨(p, q, r), ⟨cs.take a.sz, cs.drop a.sz, by rw [List.take_append_drop], hp, (cs.drop a.sz).take b.sz, (cs.drop (a.sz + b.sz)).take c.sz, ?_, hq, hr⟩, hop, hoq, hor⟩
  rw [List.take_of_length_le (l := cs.drop (a.sz + b.sz)) (by rw [List.length_drop, hl, hc]; omega), ← List.drop_drop, List.take_append_drop]
theorem opn_struct4 {α β γ δ : Type} {P : Program} {t : TypeId} {f0 f1 f2 f3 : Field} {a : Kd α} {b : Kd β} {c : Kd γ} {d : Kd δ} {oka : α → Prop} {okb : β → Prop} {okc : γ → Prop} {okd : δ → Prop} (ht : P.underlying t = some (.struct #[f0, f1, f2, f3])) (h0 : Opn P f0.type a oka) (h1 : Opn P f1.type b okb) (h2 : Opn P f2.type c okc) (h3 : Opn P f3.type d okd)
    (o0 : f0.offset = 0) (o1 : f1.offset = a.sz) (o2 : f2.offset = a.sz + b.sz) (o3 : f3.offset = a.sz + b.sz + c.sz) (hc : P.cellsOf t = a.sz + (b.sz + (c.sz + d.sz))) : Opn P t (Kd.pair a (Kd.pair b (Kd.pair c d))) (fun p => oka p.1 ∧ okb p.2.1 ∧ okc p.2.2.1 ∧ okd p.2.2.2) := by
  refine ⟨hc, fun enc w base held fuel cs x h => ?_⟩
  obtain ⟨xs, n, _, _, hl, hxl, hg⟩ := DataW.trod_struct ht h
  have g0 := hg 0 f0 rfl
  have g1 := hg 1 f1 rfl
  have g2 := hg 2 f2 rfl
  have g3 := hg 3 f3 rfl
  rw [o0, h0.1, List.drop_zero] at g0
  rw [o1, h1.1] at g1
  rw [o2, h2.1] at g2
  rw [o3, h3.1] at g3
  rw [List.getElem?_eq_getElem (by rw [hxl]; simp)] at g0 g1 g2 g3
  obtain ⟨p, hp, hop⟩ := h0.2 enc w base held n _ _ g0
  obtain ⟨q, hq, hoq⟩ := h1.2 enc w base held n _ _ g1
  obtain ⟨r, hr, hor⟩ := h2.2 enc w base held n _ _ g2
  obtain ⟨s, hs, hos⟩ := h3.2 enc w base held n _ _ g3
  refine ⟨(p, q, r, s), ⟨cs.take a.sz, cs.drop a.sz, by rw [List.take_append_drop], hp, (cs.drop a.sz).take b.sz, cs.drop (a.sz + b.sz), by rw [← List.drop_drop, List.take_append_drop], hq, (cs.drop (a.sz + b.sz)).take c.sz, (cs.drop (a.sz + b.sz + c.sz)).take d.sz, ?_, hr, hs⟩, hop, hoq, hor, hos⟩
  rw [List.take_of_length_le (l := cs.drop (a.sz + b.sz + c.sz)) (by rw [List.length_drop, hl, hc]; omega)]
  exact (List.take_append_drop c.sz (cs.drop (a.sz + b.sz))).symm.trans (by rw [List.drop_drop])
/-- A slice argument. -/
theorem opn_arg {α : Type} {P : Program} {t e : TypeId} {d : Kd α} {ok : List α → Prop} (h : Opn P t (Kd.slice e d) ok) {H : Type} {enc : TypeId × Value → H} {w : World} {base : Nat} {held : Bool} {a : Option Addr} {len cap : Nat} {x : DataW H} {p : List MemPlace} (hr : DataW.Trod enc P w base (fun _ => true) held t (.slice a len cap) x p) :
    ∃ l : List α, len = l.length ∧ l.length ≤ cap ∧ d.C w a l.length l ∧ ok l := by
  obtain ⟨fuel, hf⟩ := hr
  obtain ⟨l, ⟨A, c, he, hc, hC⟩, ho⟩ := h.2 enc w base held fuel _ _ hf
  simp [Value.cells] at he
  obtain ⟨rfl, rfl, rfl⟩ := he
  exact ⟨l, rfl, hc, hC, ho⟩

end Go.Proofs.Ytnemcppllfmioaa.Pure
