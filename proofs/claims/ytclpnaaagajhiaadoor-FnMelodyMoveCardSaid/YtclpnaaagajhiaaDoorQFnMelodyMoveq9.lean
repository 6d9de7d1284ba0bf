/- Lemmas on the printed functions for the law FnMelodyMove. -/
import Derived.Test.YtclpnaaagajhiaaDoorGFnMelodyMoveg28
import Derived.Test.YtclpnaaagajhiaaDoorQFnMelodyMoveq0
import Derived.Test.YtclpnaaagajhiaaDoorQFnMelodyMoveq1
import Derived.Test.YtclpnaaagajhiaaDoorQFnMelodyMoveq2
import Derived.Test.YtclpnaaagajhiaaDoorQFnMelodyMoveq3
import Derived.Test.YtclpnaaagajhiaaDoorQFnMelodyMoveq4
import Derived.Test.YtclpnaaagajhiaaDoorQFnMelodyMoveq5
import Derived.Test.YtclpnaaagajhiaaDoorQFnMelodyMoveq8
import Derived.Deep.RegionHeld3
import Derived.BigRegion
import Derived.Deep.Slices
import Derived.Laws.CopyOwn
namespace Go.Proofs.YtclpnaaagajhiaaDoor.Pure
set_option linter.unusedVariables false
set_option linter.unusedSimpArgs false
open Go Go.RowKit Go.Proofs.YtclpnaaagajhiaaDoor.PFnMelodyMove Go.Proofs.YtclpnaaagajhiaaDoorW.PrintWords Go.Proofs.YtclpnaaagajhiaaDoorW.PrintLast Go.Proofs.YtclpnaaagajhiaaDoorW.PrintMore

theorem sameTones_ev (a : List S29) (ha : a.length ≤ 1000000000000) : Ev (fun k => laws_sameTones.f k a a) true := by
  unfold laws_sameTones.f
  refine Ev.pos rfl ?_
  have := Ev.over z29 a (fun k (_ : Unit) i => laws_sameTones.l0 k a a i) (fun _ _ => true) (fun _ _ => True) (by
    intro s _
    refine Ev.succ ?_
    simp only [laws_sameTones.l0]
    exact Ev.neg (by omega) (Ev.now _)) (by
    intro s i rest _ hi hdr ih
    refine Ev.succ ?_
    simp only [laws_sameTones.l0]
    rw [w64 (x := (i : Int) + 1) (by omega) (by omega)]
    refine Ev.pos (by omega) (Ev.pos (by omega) (Ev.pos (by omega) (Ev.neg (by simp) (ih () trivial))))) 0 () (Nat.zero_le _) trivial
  simpa using this
theorem drawMelodyMove_ev (l0 : List Int) (hw : ∀ x ∈ l0, (Lit.int .u8 x).wf = true) :
    ∃ m k, Ev (fun n => spec_DrawMelodyMove.f n l0) (m, k) ∧ m.length ≤ 600 := by
  obtain ⟨s, ho, hc⟩ := open_ev l0 hw
  suffices h : Evx (fun n => spec_DrawMelodyMove.f n l0) (fun r => r.1.length ≤ 600) by
    obtain ⟨⟨m, k⟩, h1, h2⟩ := h
    exact ⟨m, k, h1, h2⟩
  unfold spec_DrawMelodyMove.f
  refine Evx.conb ho ?_
  refine Evx.bind (drawMelody_ev hc 0 5 (by omega) (by omega) (by omega) (by omega)) ?_
  rintro ⟨m, q⟩ ⟨h1, h2, h3, _⟩
  have h1 : (m.length : Int) ≤ 5 := h1
  have h2 : 0 ≤ q := h2
  have h3 : q ≤ 0 + 2000 := h3
  refine Evx.bind (pick_ev hc q 20 (by omega) (by omega)) ?_
  rintro ⟨u, q'⟩ ⟨hu0, _, hq⟩
  have hq : q' = q + 1 := hq
  subst hq
  refine Evx.ite (fun _ => ?_) (fun _ => ?_)
  · refine Evx.conb rfl (Evx.bind (pick_ev hc (q + 1) 3 (by omega) (by omega)) ?_)
    rintro ⟨v, q2⟩ ⟨hv0, hv1, _⟩
    have hv0 : 0 ≤ v := hv0
    have hv1 : v < 3 ∨ v = 0 := hv1
    exact Evx.pos hv0 (Evx.pos (by show v < (3 : Int); omega) (Evx.now (by show m.length ≤ 600; omega)))
  · refine Evx.conb rfl (Evx.bind (pick_ev hc (q + 1) 10 (by omega) (by omega)) ?_)
    rintro ⟨v, q2⟩ ⟨hv0, hv1, _⟩
    have hv0 : 0 ≤ v := hv0
    have hv1 : v < 10 ∨ v = 0 := hv1
    exact Evx.pos hv0 (Evx.pos (by show v < (10 : Int); omega) (Evx.now (by show m.length ≤ 600; omega)))
theorem FnMelodyMove_core (l0 : List Int) (hm0 : l0.length ≤ maxLen) (hw : ∀ x ∈ l0, (Lit.int .u8 x).wf = true) : ∃ k, laws_FnMelodyMove.f k l0 = some true := by
  unfold maxLen at hm0
  have key : Ev (fun k => laws_FnMelodyMove.f k l0) true := by
    unfold laws_FnMelodyMove.f
    by_cases hb : (l0.length : Int) > 1048576
    · exact Ev.pos hb (Ev.now _)
    refine Ev.neg hb ?_
    obtain ⟨m, k, hd, hm⟩ := drawMelodyMove_ev l0 hw
    obtain ⟨⟨M, ok⟩, hmv⟩ : ∃ R, R = mmove m k := ⟨_, rfl⟩
    have hmm : impl_MelodyMove.f m k = some (M, ok) := by
      unfold impl_MelodyMove.f
      rw [if_pos (by omega), hmv]
    have hsp : Ev (fun n => spec_MelodyMove.f n m k) (M, ok) := by
      rw [hmv]; exact spec_MelodyMove_ev m k (by omega)
    have hML : M.length ≤ 24 := by have := mmove_len m k; rw [← hmv] at this; exact this
    refine Ev.bind hd (Ev.conb hmm (Ev.bind hsp (Ev.neg (by simp) (Ev.bind (sameTones_ev M (by omega)) (Ev.pos rfl (Ev.succ ?_))))))
    simp only [laws_FnMelodyMove.j0]
    cases ok
    · refine Ev.pos (by simp) (Ev.pos (by simp) (Ev.bind (sameTones_ev M (by omega)) (Ev.now _)))
    refine Ev.neg (by simp) ?_
    obtain ⟨hok, hc⟩ := mmove_spec hmv.symm
    have sm : ∀ a b : List S29, a.length ≤ 1000 → b.length ≤ 1000 → msame a b = true → impl_MelodySame.f a b = some true := by
      intro a b h1 h2 h3
      unfold impl_MelodySame.f
      rw [if_pos ⟨by omega, by omega⟩, h3]
    rcases hc with ⟨rfl, rfl⟩ | ⟨hne, hk, s, hMV⟩
    · have hb : impl_MelodyMove.f [] (wrap64 (-k)) = some ([], true) := rfl
      refine Ev.conb hb (Ev.succ ?_)
      simp only [laws_FnMelodyMove.l0]
      refine Ev.neg (by simp) ?_
      have e : impl_MelodySame.f [] [] = some true := rfl
      exact Ev.conb e (Ev.pos rfl (Ev.pos trivial (Ev.conb e (Ev.now _))))
    obtain ⟨B, hB⟩ := mmove_back hmv.symm hne
    have hBL : B.length ≤ 24 := by have := mmove_len M (-k); rw [hB] at this; exact this
    have hb : impl_MelodyMove.f M (wrap64 (-k)) = some (B, true) := by
      unfold impl_MelodyMove.f
      rw [if_pos (by omega), w64 (x := -k) (by omega) (by omega), hB]
    have hlen := MV_len hMV
    have hpos : 0 < m.length := List.length_pos_iff.2 hne
    obtain ⟨hokM, hcB⟩ := mmove_spec hB
    rcases hcB with ⟨hM0, _⟩ | ⟨_, _, s', hBV⟩
    · rw [hM0] at hlen; simp at hlen; omega
    have hlB := MV_len hBV
    have hMB := MV_trans hMV hBV
    refine Ev.conb hb ?_
    have hfin : Ev (fun n => laws_FnMelodyMove.l0 n m k M B true (m.length : Int)) true := by
      refine Ev.succ ?_
      simp only [laws_FnMelodyMove.l0]
      refine Ev.neg (by omega) ?_
      exact Ev.conb (sm m M (by omega) (by omega) (MV_same hok hMV)) (Ev.pos rfl (Ev.pos trivial (Ev.conb (sm m B (by omega) (by omega) (MV_same hok hMB)) (Ev.now _))))
    have := Ev.over z29 m (fun n (_ : Unit) i => laws_FnMelodyMove.l0 n m k M B true i) (fun _ _ => true) (fun _ _ => True) (by
      intro s _
      exact hfin) (by
      intro _ i rest _ hi hdr ih
      have e1 : rd_T29 m (i : Int) = m.getD i z29 := rfl
      have e2 : rd_T29 M (i : Int) = M.getD i z29 := rfl
      have e3 : rd_T29 B (i : Int) = B.getD i z29 := rfl
      have ht : toneOk (m.getD i z29) = true := by
        refine List.all_eq_true.1 (melOk_all hok) _ ?_
        rw [List.getD_eq_getElem?_getD, List.getElem?_eq_getElem hi]; exact List.getElem_mem hi
      have hbd := toneOk_bd ht
      have g1 := MV_get hMV i hi
      have g2 := MV_get hMB i hi
      refine Ev.succ ?_
      simp only [laws_FnMelodyMove.l0]
      rw [e1, e2, e3, w64 (x := (i : Int) + 1) (by omega) (by omega), w64 (x := (m.getD i z29).f0 + k) (by omega) (by omega)]
      refine Ev.pos (by omega) (Ev.pos (by omega) (Ev.pos (by omega) (Ev.pos g1 (Ev.pos (by omega) (Ev.pos (by omega) (Ev.pos (by omega) (ih () trivial)))))))) 0 () (Nat.zero_le _) trivial
    simpa using this
  exact Ev.rounds key
theorem FnMelodyMove_walk (l0 : List Int) (A0 : Option Addr) (c0 : Nat) (w : World) (ht : HTab w) (hr0 : Kd.C (Kd.int .u8) w A0 l0.length l0) (hc0 : l0.length ≤ c0) (hw0 : ∀ x ∈ l0, (Lit.int .u8 x).wf = true) (hm0 : l0.length ≤ maxLen) :
    Calls Tryd.prog 6 #[.slice A0 l0.length c0] w fun e w' => e = .returned (.bool true) ∧ Below w.heap.size w w' := by
  obtain ⟨k, h⟩ := FnMelodyMove_core l0 hm0 hw0
  exact laws_FnMelodyMove.calls k A0 c0 l0 true w ht hr0 hc0 h

/-! arguments that are read as data, as kinds -/
def Opn {α : Type} (P : Program) (t : TypeId) (d : Kd α) (ok : α → Prop) : Prop :=
  P.cellsOf t = d.sz ∧ ∀ {H : Type} (enc : TypeId × Value → H) (w : World) (base : Nat) (held : Bool) (fuel : Nat) (cs : List Value) (x : DataW H × List MemPlace), DataW.trod enc P w base (fun _ => true) held fuel t cs = some x → ∃ p, d.K w p cs ∧ ok p
theorem opn_int {P : Program} {t : TypeId} (k : IntKind) (ht : P.underlying t = some (.int k)) (hc : P.cellsOf t = 1) : Opn P t (Kd.int k) (fun n => (Lit.int k n).wf = true) :=
  ⟨hc, fun enc w base held fuel cs x h => by obtain ⟨n, rfl, _, hw⟩ := DataW.trod_int ht h; exact ⟨n, rfl, hw⟩⟩
theorem opn_bool {P : Program} {t : TypeId} (ht : P.underlying t = some .bool) (hc : P.cellsOf t = 1) : Opn P t Kd.bool (fun _ => True) :=
  ⟨hc, fun enc w base held fuel cs x h => by obtain ⟨n, rfl, _⟩ := DataW.trod_bool ht h; exact ⟨n, rfl, trivial⟩⟩
theorem opn_string {P : Program} {t : TypeId} (ht : P.underlying t = some .string) (hc : P.cellsOf t = 1) : Opn P t Kd.string (fun s => s.size ≤ maxLen) :=
  ⟨hc, fun enc w base held fuel cs x h => by obtain ⟨n, rfl, _, hs⟩ := DataW.trod_string ht h; exact ⟨n, rfl, hs⟩⟩
theorem opn_slice {α : Type} {P : Program} {t e : TypeId} {d : Kd α} {ok : α → Prop} (ht : P.underlying t = some (.slice e)) (hc : P.cellsOf t = 1) (he : Opn P e d ok) : Opn P t (Kd.slice e d) (fun l => (∀ x ∈ l, ok x) ∧ l.length ≤ maxLen) := by
  refine ⟨hc, fun enc w base held fuel cs x h => ?_⟩
  rcases Go.Deep.open_slice ht h with ⟨rfl, _⟩ | ⟨a, len, cap, m, n, D, Pl, rfl, _, hl, hm, hmm, _, hi⟩
  · exact ⟨[], ⟨none, 0, rfl, Nat.le_refl _, rfl, by simp, fun h => by simp at h⟩, by simp, by simp⟩
  · have hmc : m = cap := by simpa using hmm
    clear hmm
    have key : ∀ k, k ≤ len → ∃ l : List α, l.length = k ∧ (∀ x ∈ l, ok x) ∧ ∀ j p, l[j]? = some p → ∃ c, c.length = d.sz ∧ d.K w p c ∧ ∀ i u, c[i]? = some u → w.cell? (a.add (j * d.sz + i)) = some u := by
      intro k
      induction k with
      | zero => intro _; exact ⟨[], rfl, by simp, by simp⟩
      | succ k ih =>
        intro hk
        obtain ⟨l, hll, hlo, hlc⟩ := ih (by omega)
        obtain ⟨cs', hcs, ht'⟩ := hi k (by omega)
        rw [he.1] at hcs
        obtain ⟨p, hp, hop⟩ := he.2 enc w base held n cs' _ ht'
        obtain ⟨_, hcl, hat⟩ := World.cells?_some hcs
        refine ⟨l ++ [p], by simp [hll], ?_, ?_⟩
        · intro x hx
          rcases List.mem_append.1 hx with hx | hx
          · exact hlo x hx
          · rw [List.mem_singleton.1 hx]; exact hop
        · intro j q hq
          by_cases hj : j < l.length
          · rw [List.getElem?_append_left hj] at hq
            exact hlc j q hq
          · have hj2 : j = l.length := by
              have := (List.getElem?_eq_some_iff.1 hq).1
              simp at this; omega
            subst hj2
            rw [List.getElem?_append_right (Nat.le_refl _)] at hq
            simp at hq
            subst hq
            refine ⟨cs', hcl, hp, fun i u hu => ?_⟩
            have hil : i < d.sz := by rw [← hcl]; exact (List.getElem?_eq_some_iff.1 hu).1
            rw [hll, ← Go.Deep.add_add, hat i hil, hu]
    obtain ⟨l, hll, hlo, hlc⟩ := key len (Nat.le_refl _)
    subst hll
    exact ⟨l, ⟨some a, cap, rfl, hl, rfl, by unfold maxLen at hm; omega, fun _ => ⟨a, rfl, hlc⟩⟩, hlo, by omega⟩
theorem opn_iso {α β : Type} {P : Program} {t : TypeId} {d : Kd α} {ok : α → Prop} (h : Opn P t d ok) (f : β → α) (g : α → β) (hfg : ∀ x, f (g x) = x) : Opn P t (Kd.iso d f) (fun y => ok (f y)) :=
  ⟨h.1, fun enc w base held fuel cs x hx => by
    obtain ⟨p, hp, ho⟩ := h.2 enc w base held fuel cs x hx
    exact ⟨g p, by show d.K w (f (g p)) cs; rw [hfg]; exact hp, by show ok (f (g p)); rw [hfg]; exact ho⟩⟩
theorem opn_struct2 {α β : Type} {P : Program} {t : TypeId} {f0 f1 : Field} {a : Kd α} {b : Kd β} {oka : α → Prop} {okb : β → Prop} (ht : P.underlying t = some (.struct #[f0, f1])) (h0 : Opn P f0.type a oka) (h1 : Opn P f1.type b okb)
    (o0 : f0.offset = 0) (o1 : f1.offset = a.sz) (hc : P.cellsOf t = a.sz + b.sz) : Opn P t (Kd.pair a b) (fun p => oka p.1 ∧ okb p.2) := by
  refine ⟨hc, fun enc w base held fuel cs x h => ?_⟩
  obtain ⟨xs, n, _, _, hl, hxl, hg⟩ := DataW.trod_struct ht h
  have g0 := hg 0 f0 rfl
  have g1 := hg 1 f1 rfl
  rw [o0, h0.1, List.drop_zero] at g0
  rw [o1, h1.1] at g1
  rw [List.getElem?_eq_getElem (by rw [hxl]; simp)] at g0 g1
  obtain ⟨p, hp, hop⟩ := h0.2 enc w base held n _ _ g0
  obtain ⟨q, hq, hoq⟩ := h1.2 enc w base held n _ _ g1
  refine ⟨(p, q), ⟨cs.take a.sz, (cs.drop a.sz).take b.sz, ?_, hp, hq⟩, hop, hoq⟩
  rw [List.take_of_length_le (l := cs.drop a.sz) (by rw [List.length_drop, hl, hc]; omega), List.take_append_drop]
theorem opn_struct3 {α β γ : Type} {P : Program} {t : TypeId} {f0 f1 f2 : Field} {a : Kd α} {b : Kd β} {c : Kd γ} {oka : α → Prop} {okb : β → Prop} {okc : γ → Prop} (ht : P.underlying t = some (.struct #[f0, f1, f2])) (h0 : Opn P f0.type a oka) (h1 : Opn P f1.type b okb) (h2 : Opn P f2.type c okc)
    (o0 : f0.offset = 0) (o1 : f1.offset = a.sz) (o2 : f2.offset = a.sz + b.sz) (hc : P.cellsOf t = a.sz + (b.sz + c.sz)) : Opn P t (Kd.pair a (Kd.pair b c)) (fun p => oka p.1 ∧ okb p.2.1 ∧ okc p.2.2) := by
  refine ⟨hc, fun enc w base held fuel cs x h => ?_⟩
  obtain ⟨xs, n, _, _, hl, hxl, hg⟩ := DataW.trod_struct ht h
  have g0 := hg 0 f0 rfl
  have g1 := hg 1 f1 rfl
  have g2 := hg 2 f2 rfl
  rw [o0, h0.1, List.drop_zero] at g0
  rw [o1, h1.1] at g1
  rw [o2, h2.1] at g2
  rw [List.getElem?_eq_getElem (by rw [hxl]; simp)] at g0 g1 g2
  obtain ⟨p, hp, hop⟩ := h0.2 enc w base held n _ _ g0
  obtain ⟨q, hq, hoq⟩ := h1.2 enc w base held n _ _ g1
  obtain ⟨r, hr, hor⟩ := h2.2 enc w base held n _ _ g2
  refine ⟨(p, q, r), ⟨cs.take a.sz, cs.drop a.sz, by rw [List.take_append_drop], hp, (cs.drop a.sz).take b.sz, (cs.drop (a.sz + b.sz)).take c.sz, ?_, hq, hr⟩, hop, hoq, hor⟩
  rw [List.take_of_length_le (l := cs.drop (a.sz + b.sz)) (by rw [List.length_drop, hl, hc]; omega), ← List.drop_drop, List.take_append_drop]
theorem opn_struct4 {α β γ δ : Type} {P : Program} {t : TypeId} {f0 f1 f2 f3 : Field} {a : Kd α} {b : Kd β} {c : Kd γ} {d : Kd δ} {oka : α → Prop} {okb : β → Prop} {okc : γ → Prop} {okd : δ → Prop} (ht : P.underlying t = some (.struct #[f0, f1, f2, f3])) (h0 : Opn P f0.type a oka) (h1 : Opn P f1.type b okb) (h2 : Opn P f2.type c okc) (h3 : Opn P f3.type d okd)
    (o0 : f0.offset = 0) (o1 : f1.offset = a.sz) (o2 : f2.offset = a.sz + b.sz) (o3 : f3.offset = a.sz + b.sz + c.sz) (hc : P.cellsOf t = a.sz + (b.sz + (c.sz + d.sz))) : Opn P t (Kd.pair a (Kd.pair b (Kd.pair c d))) (fun p => oka p.1 ∧ okb p.2.1 ∧ okc p.2.2.1 ∧ okd p.2.2.2) := by
  refine ⟨hc, fun enc w base held fuel cs x h => ?_⟩
  obtain ⟨xs, n, _, _, hl, hxl, hg⟩ := DataW.trod_struct ht h
  have g0 := hg 0 f0 rfl
  have g1 := hg 1 f1 rfl
  have g2 := hg 2 f2 rfl
  have g3 := hg 3 f3 rfl
  rw [o0, h0.1, List.drop_zero] at g0
  rw [o1, h1.1] at g1
  rw [o2, h2.1] at g2
  rw [o3, h3.1] at g3
  rw [List.getElem?_eq_getElem (by rw [hxl]; simp)] at g0 g1 g2 g3
  obtain ⟨p, hp, hop⟩ := h0.2 enc w base held n _ _ g0
  obtain ⟨q, hq, hoq⟩ := h1.2 enc w base held n _ _ g1
  obtain ⟨r, hr, hor⟩ := h2.2 enc w base held n _ _ g2
  obtain ⟨s, hs, hos⟩ := h3.2 enc w base held n _ _ g3
  refine ⟨(p, q, r, s), ⟨cs.take a.sz, cs.drop a.sz, by rw [List.take_append_drop], hp, (cs.drop a.sz).take b.sz, cs.drop (a.sz + b.sz), by rw [← List.drop_drop, List.take_append_drop], hq, (cs.drop (a.sz + b.sz)).take c.sz, (cs.drop (a.sz + b.sz + c.sz)).take d.sz, ?_, hr, hs⟩, hop, hoq, hor, hos⟩
  rw [List.take_of_length_le (l := cs.drop (a.sz + b.sz + c.sz)) (by rw [List.length_drop, hl, hc]; omega)]
  exact (List.take_append_drop c.sz (cs.drop (a.sz + b.sz))).symm.trans (by rw [List.drop_drop])
/-- A slice argument. -/
theorem opn_arg {α : Type} {P : Program} {t e : TypeId} {d : Kd α} {ok : List α → Prop} (h : Opn P t (Kd.slice e d) ok) {H : Type} {enc : TypeId × Value → H} {w : World} {base : Nat} {held : Bool} {a : Option Addr} {len cap : Nat} {x : DataW H} {p : List MemPlace} (hr : DataW.Trod enc P w base (fun _ => true) held t (.slice a len cap) x p) :
    ∃ l : List α, len = l.length ∧ l.length ≤ cap ∧ d.C w a l.length l ∧ ok l := by
  obtain ⟨fuel, hf⟩ := hr
  obtain ⟨l, ⟨A, c, he, hc, hC⟩, ho⟩ := h.2 enc w base held fuel _ _ hf
  simp [Value.cells] at he
  obtain ⟨rfl, rfl, rfl⟩ := he
  exact ⟨l, rfl, hc, hC, ho⟩

end Go.Proofs.YtclpnaaagajhiaaDoor.Pure
