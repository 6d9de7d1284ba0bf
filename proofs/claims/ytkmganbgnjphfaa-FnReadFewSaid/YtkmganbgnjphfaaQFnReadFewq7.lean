/- Lemmas on the printed functions for the law FnReadFew. -/
import Derived.Test.YtkmganbgnjphfaaGFnReadFewg29
import Derived.Test.YtkmganbgnjphfaaQFnReadFewq0
import Derived.Test.YtkmganbgnjphfaaQFnReadFewq1
import Derived.Test.YtkmganbgnjphfaaQFnReadFewq2
import Derived.Test.YtkmganbgnjphfaaQFnReadFewq6
import Derived.Deep.RegionHeld3
import Derived.BigRegion
import Derived.Deep.Slices
import Derived.Laws.CopyOwn
namespace Go.Proofs.Ytkmganbgnjphfaa.Pure
set_option linter.unusedVariables false
set_option linter.unusedSimpArgs false
open Go Go.RowKit Go.Proofs.Ytkmganbgnjphfaa.PFnReadFew Go.Proofs.YtkmganbgnjphfaaW.PrintWords Go.Proofs.YtkmganbgnjphfaaW.PrintLast Go.Proofs.YtkmganbgnjphfaaW.PrintMore

theorem lA_att {c : S37 → Int} {g : List Int → Int} {s : List Int} : ∀ (l : List S37) (a : Int), lA c g s l a = a ∨ ∃ f ∈ l, isPre f.f0 s = true ∧ 0 ≤ g (s.drop f.f0.length) ∧ lA c g s l a = g (s.drop f.f0.length) + c f
  | [], a => Or.inl rfl
  | f :: fs, a => by
    have tl : ∀ b, lA c g s fs b = b ∨ ∃ f' ∈ f :: fs, isPre f'.f0 s = true ∧ 0 ≤ g (s.drop f'.f0.length) ∧ lA c g s fs b = g (s.drop f'.f0.length) + c f' := by
      intro b
      rcases lA_att fs b with h | ⟨f', hf', h⟩
      · exact Or.inl h
      · exact Or.inr ⟨f', List.mem_cons_of_mem _ hf', h⟩
    simp only [lA]
    by_cases hp : isPre f.f0 s = true
    · rw [if_pos hp]
      by_cases hg : g (s.drop f.f0.length) < 0
      · rw [if_pos hg]; exact tl a
      · rw [if_neg hg]
        by_cases hb : a < 0 ∨ g (s.drop f.f0.length) + c f < a
        · rw [if_pos hb]
          rcases tl (g (s.drop f.f0.length) + c f) with h | h
          · exact Or.inr ⟨f, List.mem_cons_self, hp, by omega, h⟩
          · exact Or.inr h
        · rw [if_neg hb]; exact tl a
    · rw [if_neg hp]; exact tl a
theorem few_long {L : List S37} (hv : FsV L) (M : Int) (hM : ∀ f ∈ L, (f.f0.length : Int) ≤ M) : ∀ (n : Nat) (s : List Int), s.length ≤ n → s.length ≤ 23 → 0 ≤ oF (rdO L s) → (s.length : Int) ≤ oF (rdO L s) * M
  | 0, s, h, _, _ => by
    obtain rfl : s = [] := List.eq_nil_of_length_eq_zero (by omega)
    rw [rdO_nil]; simp [oF]
  | n + 1, s, h, h', h0 => by
    by_cases hs : s = []
    · subst hs; rw [rdO_nil]; simp [oF]
    rw [(rdO_least hv h' hs).2] at h0 ⊢
    rcases lA_att (c := fun _ => 1) (g := fun t => oF (rdO L t)) (s := s) L (-1) with e | ⟨f, hf, hp, hg, e⟩
    · omega
    · rw [e]
      have h1 := hM f hf
      have h2 := isPre_len hp
      have h3 := (hv.one f hf).1
      have ih := few_long hv M hM n (s.drop f.f0.length) (by rw [List.length_drop]; omega) (by rw [List.length_drop]; omega) hg
      rw [List.length_drop] at ih
      simp only [Int.add_mul, Int.one_mul]
      generalize oF (rdO L (s.drop f.f0.length)) * M = p at ih ⊢
      omega
theorem FnReadFew_core (l0 : List Int) (hm0 : l0.length ≤ maxLen) (hw : ∀ x ∈ l0, (Lit.int .u8 x).wf = true) : ∃ k, laws_FnReadFew.f k l0 = some true := by
  unfold maxLen at hm0
  have key : Ev (fun k => laws_FnReadFew.f k l0) true := by
    unfold laws_FnReadFew.f
    by_cases hb : (l0.length : Int) > 1048576
    · exact Ev.pos hb (Ev.now _)
    refine Ev.neg hb ?_
    obtain ⟨⟨L, S⟩, hd, hD, hS⟩ := drawBuilt_open l0 hw
    have hS : S.length ≤ 23 := hS
    have hD : DrF L := hD
    have hl : ∀ x ∈ L, x.f0.length ≤ 1000000000000 := fun x hx => by have := hD.2 x hx; omega
    have hll : L.length ≤ 1000000000000 := by have := hD.1; omega
    refine Ev.bind hd ?_
    have hF : impl_FormulasFew.f L S = some (fFew L S) := by
      unfold impl_FormulasFew.f
      rw [if_pos ⟨hl, by omega⟩]
    refine Ev.conb hF (Ev.bind (spec_FormulasFew_ev L S hll hl (by omega)) (Ev.pos rfl (Ev.succ ?_)))
    simp only [laws_FnReadFew.j0]
    by_cases hneg : fFew L S < 0
    · exact Ev.pos (decide_eq_true hneg) (Ev.eqr (Ev.now _) (by simp))
    refine Ev.neg (by simpa using hneg) ?_
    have hok : okR L S = true := by
      cases h : okR L S
      · exfalso; apply hneg; unfold fFew; rw [if_neg (by rw [h]; simp)]; decide
      · rfl
    have hv := FsV.of (okR_of hok).1
    have eF : fFew L S = oF (rdO L S) := by unfold fFew oF; rw [if_pos hok]
    have hne : (rdO L S).f0 ≠ 0 := by
      intro hz; apply hneg; unfold fFew; rw [if_pos hok, if_pos hz]; decide
    have hbd := rdO_bd hv S.length S rfl hS
    obtain ⟨g1, g2, g3⟩ := bestGo_reads hv S.length S (Nat.le_refl _) hS hne
    have hB : impl_FormulasBest.f L S = some (bestGo L S.length S, true) := by
      unfold impl_FormulasBest.f
      rw [if_pos ⟨hl, by omega⟩]
      unfold fBest
      rw [if_pos hok, if_neg hne]
    obtain ⟨_, ⟨w3, w4⟩⟩ := reads_least hv (bestGo L S.length S) g1 (by rw [g2]; exact hS)
    rw [g2] at w3 w4
    have w5 := hbd.oF.2
    have hM : impl_FormulasMany.f L S = some (rdO L S).f0 := by
      unfold impl_FormulasMany.f
      rw [if_pos ⟨hl, by omega⟩]
      unfold fMany
      rw [if_pos hok]
    refine Ev.conb hB ?_
    show Ev (fun k => laws_FnReadFew.l0 k L S (fFew L S) (bestGo L S.length S) true 1 0) true
    rw [eF]
    have := Ev.over z37 L (fun k (y : Int) q => laws_FnReadFew.l0 k L S (oF (rdO L S)) (bestGo L S.length S) true y q) (fun _ _ => true) (fun q y => 1 ≤ y ∧ y ≤ 3 ∧ ∀ j, j < q → ((L.getD j z37).f0.length : Int) ≤ y) (by
      rintro y ⟨h1, h2, h3⟩
      refine Ev.succ ?_
      simp only [laws_FnReadFew.l0]
      have hlong := few_long hv y (fun f hf => by
        obtain ⟨j, hj, rfl⟩ := List.getElem_of_mem hf
        have := h3 j hj
        rwa [List.getD_eq_getElem?_getD, List.getElem?_eq_getElem hj] at this) S.length S (Nat.le_refl _) hS w3
      have hmul : oF (rdO L S) * y ≤ 23 * 3 := Int.mul_le_mul (by omega) h2 (by omega) (by omega)
      have hmul0 : 0 ≤ oF (rdO L S) * y := Int.mul_nonneg w3 (by omega)
      rw [w64 (x := oF (rdO L S) * y) (by omega) (by omega)]
      have hlo := hbd.lo
      exact Ev.neg (by omega) (Ev.pos trivial (Ev.pos w4 (Ev.pos hlong (Ev.conb hM (Ev.eqr (Ev.now _) (decide_eq_true (by omega))))))) ) (by
      rintro y q rest ⟨h1, h2, h3⟩ hq hdr ih
      have hm : L.getD q z37 ∈ L := by
        rw [List.getD_eq_getElem?_getD, List.getElem?_eq_getElem hq]; exact List.getElem_mem hq
      have hf := hD.2 _ hm
      have hlq := hD.1
      refine Ev.succ ?_
      simp only [laws_FnReadFew.l0]
      rw [w64 (x := (q : Int) + 1) (by omega) (by omega)]
      have hrd : rd_T37 L (q : Int) = L.getD q z37 := rfl
      rw [hrd]
      have hmx := mx_le y (((L.getD q z37).f0.length : Int))
      refine Ev.pos (by omega) (Ev.pos (by omega) (ih _ ⟨by omega, by omega, ?_⟩))
      intro j hj
      rcases Nat.lt_succ_iff_lt_or_eq.mp hj with h | rfl
      · have := h3 j h; omega
      · exact hmx.2.1) 0 1 (Nat.zero_le _) ⟨by omega, by omega, fun j hj => absurd hj (Nat.not_lt_zero _)⟩
    simpa using this
  exact Ev.rounds key
theorem FnReadFew_walk (l0 : List Int) (A0 : Option Addr) (c0 : Nat) (w : World) (hr0 : Kd.C (Kd.int .u8) w A0 l0.length l0) (hc0 : l0.length ≤ c0) (hw0 : ∀ x ∈ l0, (Lit.int .u8 x).wf = true) (hm0 : l0.length ≤ maxLen) :
    Calls Try.prog 5 #[.slice A0 l0.length c0] w fun e w' => e = .returned (.bool true) ∧ Below w.heap.size w w' := by
  obtain ⟨k, h⟩ := FnReadFew_core l0 hm0 hw0
  exact laws_FnReadFew.calls k A0 c0 l0 true w hr0 hc0 h

/-! arguments that are read as data, as kinds -/
def Opn {α : Type} (P : Program) (t : TypeId) (d : Kd α) (ok : α → Prop) : Prop :=
  P.cellsOf t = d.sz ∧ ∀ {H : Type} (enc : TypeId × Value → H) (w : World) (base : Nat) (held : Bool) (fuel : Nat) (cs : List Value) (x : DataW H × List MemPlace), DataW.trod enc P w base (fun _ => true) held fuel t cs = some x → ∃ p, d.K w p cs ∧ ok p
theorem opn_int {P : Program} {t : TypeId} (k : IntKind) (ht : P.underlying t = some (.int k)) (hc : P.cellsOf t = 1) : Opn P t (Kd.int k) (fun n => (Lit.int k n).wf = true) :=
  ⟨hc, fun enc w base held fuel cs x h => by obtain ⟨n, rfl, _, hw⟩ := DataW.trod_int ht h; exact ⟨n, rfl, hw⟩⟩
theorem opn_bool {P : Program} {t : TypeId} (ht : P.underlying t = some .bool) (hc : P.cellsOf t = 1) : Opn P t Kd.bool (fun _ => True) :=
  ⟨hc, fun enc w base held fuel cs x h => by obtain ⟨n, rfl, _⟩ := DataW.trod_bool ht h; exact ⟨n, rfl, trivial⟩⟩
theorem opn_string {P : Program} {t : TypeId} (ht : P.underlying t = some .string) (hc : P.cellsOf t = 1) : Opn P t Kd.string (fun s => s.size ≤ maxLen) :=
  ⟨hc, fun enc w base held fuel cs x h => by obtain ⟨n, rfl, _, hs⟩ := DataW.trod_string ht h; exact ⟨n, rfl, hs⟩⟩
theorem opn_slice {α : Type} {P : Program} {t e : TypeId} {d : Kd α} {ok : α → Prop} (ht : P.underlying t = some (.slice e)) (hc : P.cellsOf t = 1) (he : Opn P e d ok) : Opn P t (Kd.slice e d) (fun l => (∀ x ∈ l, ok x) ∧ l.length ≤ maxLen) := by
  refine ⟨hc, fun enc w base held fuel cs x h => ?_⟩
  rcases Go.Deep.open_slice ht h with ⟨rfl, _⟩ | ⟨a, len, cap, m, n, D, Pl, rfl, _, hl, hm, hmm, _, hi⟩
  · exact ⟨[], ⟨none, 0, rfl, Nat.le_refl _, rfl, by simp, fun h => by simp at h⟩, by simp, by simp⟩
  · have hmc : m = cap := by simpa using hmm
    clear hmm
    have key : ∀ k, k ≤ len → ∃ l : List α, l.length = k ∧ (∀ x ∈ l, ok x) ∧ ∀ j p, l[j]? = some p → ∃ c, c.length = d.sz ∧ d.K w p c ∧ ∀ i u, c[i]? = some u → w.cell? (a.add (j * d.sz + i)) = some u := by
      intro k
      induction k with
      | zero => intro _; exact ⟨[], rfl, by simp, by simp⟩
      | succ k ih =>
        intro hk
        obtain ⟨l, hll, hlo, hlc⟩ := ih (by omega)
        obtain ⟨cs', hcs, ht'⟩ := hi k (by omega)
        rw [he.1] at hcs
        obtain ⟨p, hp, hop⟩ := he.2 enc w base held n cs' _ ht'
        obtain ⟨_, hcl, hat⟩ := World.cells?_some hcs
        refine ⟨l ++ [p], by simp [hll], ?_, ?_⟩
        · intro x hx
          rcases List.mem_append.1 hx with hx | hx
          · exact hlo x hx
          · rw [List.mem_singleton.1 hx]; exact hop
        · intro j q hq
          by_cases hj : j < l.length
          · rw [List.getElem?_append_left hj] at hq
            exact hlc j q hq
          · have hj2 : j = l.length := by
              have := (List.getElem?_eq_some_iff.1 hq).1
              simp at this; omega
            subst hj2
            rw [List.getElem?_append_right (Nat.le_refl _)] at hq
            simp at hq
            subst hq
            refine ⟨cs', hcl, hp, fun i u hu => ?_⟩
            have hil : i < d.sz := by rw [← hcl]; exact (List.getElem?_eq_some_iff.1 hu).1
            rw [hll, ← Go.Deep.add_add, hat i hil, hu]
    obtain ⟨l, hll, hlo, hlc⟩ := key len (Nat.le_refl _)
    subst hll
    exact ⟨l, ⟨some a, cap, rfl, hl, rfl, by unfold maxLen at hm; omega, fun _ => ⟨a, rfl, hlc⟩⟩, hlo, by omega⟩
theorem opn_iso {α β : Type} {P : Program} {t : TypeId} {d : Kd α} {ok : α → Prop} (h : Opn P t d ok) (f : β → α) (g : α → β) (hfg : ∀ x, f (g x) = x) : Opn P t (Kd.iso d f) (fun y => ok (f y)) :=
  ⟨h.1, fun enc w base held fuel cs x hx => by
    obtain ⟨p, hp, ho⟩ := h.2 enc w base held fuel cs x hx
    exact ⟨g p, by show d.K w (f (g p)) cs; rw [hfg]; exact hp, by show ok (f (g p)); rw [hfg]; exact ho⟩⟩
theorem opn_struct2 {α β : Type} {P : Program} {t : TypeId} {f0 f1 : Field} {a : Kd α} {b : Kd β} {oka : α → Prop} {okb : β → Prop} (ht : P.underlying t = some (.struct #[f0, f1])) (h0 : Opn P f0.type a oka) (h1 : Opn P f1.type b okb)
    (o0 : f0.offset = 0) (o1 : f1.offset = a.sz) (hc : P.cellsOf t = a.sz + b.sz) : Opn P t (Kd.pair a b) (fun p => oka p.1 ∧ okb p.2) := by
  refine ⟨hc, fun enc w base held fuel cs x h => ?_⟩
  obtain ⟨xs, n, _, _, hl, hxl, hg⟩ := DataW.trod_struct ht h
  have g0 := hg 0 f0 rfl
  have g1 := hg 1 f1 rfl
  rw [o0, h0.1, List.drop_zero] at g0
  rw [o1, h1.1] at g1
  rw [List.getElem?_eq_getElem (by rw [hxl]; simp)] at g0 g1
  obtain ⟨p, hp, hop⟩ := h0.2 enc w base held n _ _ g0
  obtain ⟨q, hq, hoq⟩ := h1.2 enc w base held n _ _ g1
  refine ⟨(p, q), ⟨cs.take a.sz, (cs.drop a.sz).take b.sz, ?_, hp, hq⟩, hop, hoq⟩
  rw [List.take_of_length_le (l := cs.drop a.sz) (by rw [List.length_drop, hl, hc]; omega), List.take_append_drop]
theorem opn_struct3 {α β γ : Type} {P : Program} {t : TypeId} {f0 f1 f2 : Field} {a : Kd α} {b : Kd β} {c : Kd γ} {oka : α → Prop} {okb : β → Prop} {okc : γ → Prop} (ht : P.underlying t = some (.struct #[f0, f1, f2])) (h0 : Opn P f0.type a oka) (h1 : Opn P f1.type b okb) (h2 : Opn P f2.type c okc)
    (o0 : f0.offset = 0) (o1 : f1.offset = a.sz) (o2 : f2.offset = a.sz + b.sz) (hc : P.cellsOf t = a.sz + (b.sz + c.sz)) : Opn P t (Kd.pair a (Kd.pair b c)) (fun p => oka p.1 ∧ okb p.2.1 ∧ okc p.2.2) := by
  refine ⟨hc, fun enc w base held fuel cs x h => ?_⟩
  obtain ⟨xs, n, _, _, hl, hxl, hg⟩ := DataW.trod_struct ht h
  have g0 := hg 0 f0 rfl
  have g1 := hg 1 f1 rfl
  have g2 := hg 2 f2 rfl
  rw [o0, h0.1, List.drop_zero] at g0
  rw [o1, h1.1] at g1
  rw [o2, h2.1] at g2
  rw [List.getElem?_eq_getElem (by rw [hxl]; simp)] at g0 g1 g2
  obtain ⟨p, hp, hop⟩ := h0.2 enc w base held n _ _ g0
  obtain ⟨q, hq, hoq⟩ := h1.2 enc w base held n _ _ g1
  obtain ⟨r, hr, hor⟩ := h2.2 enc w base held n _ _ g2
  refine ⟨(p, q, r), ⟨cs.take a.sz, cs.drop a.sz, by rw [List.take_append_drop], hp, (cs.drop a.sz).take b.sz, (cs.drop (a.sz + b.sz)).take c.sz, ?_, hq, hr⟩, hop, hoq, hor⟩
  rw [List.take_of_length_le (l := cs.drop (a.sz + b.sz)) (by rw [List.length_drop, hl, hc]; omega), ← List.drop_drop, List.take_append_drop]
theorem opn_struct4 {α β γ δ : Type} {P : Program} {t : TypeId} {f0 f1 f2 f3 : Field} {a : Kd α} {b : Kd β} {c : Kd γ} {d : Kd δ} {oka : α → Prop} {okb : β → Prop} {okc : γ → Prop} {okd : δ → Prop} (ht : P.underlying t = some (.struct #[f0, f1, f2, f3])) (h0 : Opn P f0.type a oka) (h1 : Opn P f1.type b okb) (h2 : Opn P f2.type c okc) (h3 : Opn P f3.type d okd)
    (o0 : f0.offset = 0) (o1 : f1.offset = a.sz) (o2 : f2.offset = a.sz + b.sz) (o3 : f3.offset = a.sz + b.sz + c.sz) (hc : P.cellsOf t = a.sz + (b.sz + (c.sz + d.sz))) : Opn P t (Kd.pair a (Kd.pair b (Kd.pair c d))) (fun p => oka p.1 ∧ okb p.2.1 ∧ okc p.2.2.1 ∧ okd p.2.2.2) := by
  refine ⟨hc, fun enc w base held fuel cs x h => ?_⟩
  obtain ⟨xs, n, _, _, hl, hxl, hg⟩ := DataW.trod_struct ht h
  have g0 := hg 0 f0 rfl
  have g1 := hg 1 f1 rfl
  have g2 := hg 2 f2 rfl
  have g3 := hg 3 f3 rfl
  rw [o0, h0.1, List.drop_zero] at g0
  rw [o1, h1.1] at g1
  rw [o2, h2.1] at g2
  rw [o3, h3.1] at g3
  rw [List.getElem?_eq_getElem (by rw [hxl]; simp)] at g0 g1 g2 g3
  obtain ⟨p, hp, hop⟩ := h0.2 enc w base held n _ _ g0
  obtain ⟨q, hq, hoq⟩ := h1.2 enc w base held n _ _ g1
  obtain ⟨r, hr, hor⟩ := h2.2 enc w base held n _ _ g2
  obtain ⟨s, hs, hos⟩ := h3.2 enc w base held n _ _ g3
  refine ⟨(p, q, r, s), ⟨cs.take a.sz, cs.drop a.sz, by rw [List.take_append_drop], hp, (cs.drop a.sz).take b.sz, cs.drop (a.sz + b.sz), by rw [← List.drop_drop, List.take_append_drop], hq, (cs.drop (a.sz + b.sz)).take c.sz, (cs.drop (a.sz + b.sz + c.sz)).take d.sz, ?_, hr, hs⟩, hop, hoq, hor, hos⟩
  rw [List.take_of_length_le (l := cs.drop (a.sz + b.sz + c.sz)) (by rw [List.length_drop, hl, hc]; omega)]
  exact (List.take_append_drop c.sz (cs.drop (a.sz + b.sz))).symm.trans (by rw [List.drop_drop])
/-- A slice argument. -/
theorem opn_arg {α : Type} {P : Program} {t e : TypeId} {d : Kd α} {ok : List α → Prop} (h : Opn P t (Kd.slice e d) ok) {H : Type} {enc : TypeId × Value → H} {w : World} {base : Nat} {held : Bool} {a : Option Addr} {len cap : Nat} {x : DataW H} {p : List MemPlace} (hr : DataW.Trod enc P w base (fun _ => true) held t (.slice a len cap) x p) :
    ∃ l : List α, len = l.length ∧ l.length ≤ cap ∧ d.C w a l.length l ∧ ok l := by
  obtain ⟨fuel, hf⟩ := hr
  obtain ⟨l, ⟨A, c, he, hc, hC⟩, ho⟩ := h.2 enc w base held fuel _ _ hf
  simp [Value.cells] at he
  obtain ⟨rfl, rfl, rfl⟩ := he
  exact ⟨l, rfl, hc, hC, ho⟩

end Go.Proofs.Ytkmganbgnjphfaa.Pure
