/- Lemmas on the printed functions for the law FnBuild. -/
import Derived.Test.YtohnkicfnfejnaaGFnBuildg12
import Derived.Test.YtohnkicfnfejnaaGFnBuildg13
import Derived.Test.YtohnkicfnfejnaaGFnBuildg14
import Derived.Test.YtohnkicfnfejnaaGFnBuildg15
import Derived.Test.YtohnkicfnfejnaaQFnBuildq0
import Derived.Test.YtohnkicfnfejnaaQFnBuildq1
import Derived.Test.YtohnkicfnfejnaaQFnBuildq2
import Derived.Test.YtohnkicfnfejnaaQFnBuildq3
import Derived.Test.YtohnkicfnfejnaaQFnBuildq4
import Derived.Test.YtohnkicfnfejnaaQFnBuildq5
import Derived.Deep.RegionHeld3
import Derived.BigRegion
import Derived.Deep.Slices
import Derived.Laws.CopyOwn
namespace Go.Proofs.Ytohnkicfnfejnaa.Pure
set_option linter.unusedVariables false
set_option linter.unusedSimpArgs false
open Go Go.RowKit Go.Proofs.Ytohnkicfnfejnaa.PFnBuild Go.Proofs.YtohnkicfnfejnaaW.PrintWords Go.Proofs.YtohnkicfnfejnaaW.PrintLast Go.Proofs.YtohnkicfnfejnaaW.PrintMore

/-! pick: a number from 0 to n-1 -/
structure Code (s : List Int) : Prop where
  b : ∀ x ∈ s, 0 ≤ x ∧ x ≤ 255
  l : s.length ≤ 2000
theorem open_ev (l0 : List Int) (hw : ∀ x ∈ l0, (Lit.int .u8 x).wf = true) : ∃ s, spec_l6Open.f l0 = some (s, 0) ∧ Code s := by
  have hb : ∀ x ∈ l0, 0 ≤ x ∧ x ≤ 255 := by
    intro x hx
    have := hw x hx
    have e1 : IntKind.u8.min = 0 := by decide
    have e2 : IntKind.u8.max = 255 := by decide
    simp only [Lit.wf, e1, e2] at this
    simpa using this
  unfold spec_l6Open.f
  by_cases h : (l0.length : Int) > 2000
  · refine ⟨l0.take 2000, by rw [if_pos h, if_pos (by omega)], ⟨fun x hx => hb x (List.mem_of_mem_take hx), by rw [List.length_take]; omega⟩⟩
  · exact ⟨l0, by rw [if_neg h], ⟨hb, by omega⟩⟩
theorem pick_ev {s : List Int} (hc : Code s) (p n : Int) (hp : 0 ≤ p) (hp' : p ≤ 1000000000) :
    Evx (fun k => spec_l6Rd_pick.f k s p n) (fun r => 0 ≤ r.1 ∧ (r.1 < n ∨ r.1 = 0) ∧ r.2 = p + 1) := by
  have hw : wrap64 (p + 1) = p + 1 := w64 (by omega) (by omega)
  have hw' : wrap64 (p + 1 - 1) = p := by rw [w64 (by omega) (by omega)]; omega
  have hl := hc.l
  unfold spec_l6Rd_pick.f
  rw [hw]
  by_cases hn : n < 1
  · refine Evx.pos hn (Evx.succ ?_)
    simp only [spec_l6Rd_pick.j0, if_true]
    exact Evx.now ⟨by simp, by simp, rfl⟩
  · refine Evx.neg hn (Evx.succ ?_)
    have tm : ∀ x : Int, 0 ≤ x → 0 ≤ Int.tmod x n ∧ Int.tmod x n < n := fun x hx => ⟨Int.tmod_nonneg n hx, Int.tmod_lt_of_pos x (by omega)⟩
    by_cases h0 : s.length = 0
    · have e : ((s.length : Int) == 0) = true := by simp [h0]
      simp only [spec_l6Rd_pick.j0, e, if_true]
      exact Evx.now ⟨by simp, by simp, rfl⟩
    · have e : ((s.length : Int) == 0) = false := by rw [beq_eq_false_iff_ne]; omega
      simp only [spec_l6Rd_pick.j0, e, hw']
      refine Evx.neg (by simp) ?_
      by_cases hlt : p < (s.length : Int)
      · refine Evx.pos hlt (Evx.pos hp (Evx.neg (by omega) (Evx.now ?_)))
        have hb := rd_bd hc.b p
        rw [w64 (x := rd s p) (by omega) (by omega)]
        have := tm (rd s p) hb.1
        exact ⟨this.1, .inl this.2, rfl⟩
      · refine Evx.neg hlt (Evx.neg (by omega) ?_)
        have t1 : 0 ≤ Int.tmod p s.length := Int.tmod_nonneg _ hp
        have t1' : Int.tmod p s.length < s.length := Int.tmod_lt_of_pos p (by omega)
        rw [w64 (x := p * 7) (by omega) (by omega), w64 (x := p * 7 + 3) (by omega) (by omega)]
        have t2 : 0 ≤ Int.tmod (p * 7 + 3) s.length := Int.tmod_nonneg _ (by omega)
        have t2' : Int.tmod (p * 7 + 3) s.length < s.length := Int.tmod_lt_of_pos _ (by omega)
        refine Evx.pos t1 (Evx.pos t1' (Evx.pos t2 (Evx.pos t2' (Evx.neg (by omega) (Evx.now ?_)))))
        have hb1 := rd_bd hc.b (Int.tmod p s.length)
        have hb2 := rd_bd hc.b (Int.tmod (p * 7 + 3) s.length)
        have hd : 0 ≤ Int.tdiv p s.length ∧ Int.tdiv p s.length ≤ p := by
          rw [Int.tdiv_eq_ediv_of_nonneg hp]
          exact ⟨Int.ediv_nonneg hp (by omega), Int.ediv_le_self _ hp⟩
        generalize rd s (Int.tmod p s.length) = a at *
        generalize rd s (Int.tmod (p * 7 + 3) s.length) = b at *
        generalize Int.tdiv p s.length = c at *
        obtain ⟨X, hX, hX0, hX1⟩ : ∃ X : Int, wrap64 (wrap64 (wrap64 (wrap64 (wrap64 a * 131) + wrap64 (wrap64 b * 1117)) + wrap64 (p * 29)) + wrap64 (wrap64 c * 53)) = X ∧ 0 ≤ X ∧ X < 1000000000000 := by
          refine ⟨a * 131 + b * 1117 + p * 29 + c * 53, ?_, by omega, by omega⟩
          rw [w64 (x := a) (by omega) (by omega), w64 (x := b) (by omega) (by omega), w64 (x := c) (by omega) (by omega), w64 (x := a * 131) (by omega) (by omega), w64 (x := b * 1117) (by omega) (by omega), w64 (x := p * 29) (by omega) (by omega), w64 (x := c * 53) (by omega) (by omega), w64 (x := a * 131 + b * 1117) (by omega) (by omega), w64 (x := a * 131 + b * 1117 + p * 29) (by omega) (by omega), w64 (by omega) (by omega)]
        rw [hX]
        have hq : 0 ≤ Int.tdiv X 64 ∧ Int.tdiv X 64 ≤ X := by
          rw [Int.tdiv_eq_ediv_of_nonneg hX0]; omega
        rw [w64 (x := Int.tdiv X 64) (by omega) (by omega)]
        have := tm _ (xor_bd X (Int.tdiv X 64) hX0 (by omega) hq.1 (by omega))
        exact ⟨this.1, .inl this.2, rfl⟩

theorem spec_l2Same_ev (a b : List Int) (hl : a.length ≤ 1000000000000) : Ev (fun k => spec_l2Same.f k a b) (a == b) := by
  unfold spec_l2Same.f
  by_cases hlen : (a.length : Int) = (b.length : Int)
  · refine Ev.pos hlen ?_
    have := Ev.over (0 : Int) a (fun k (_ : Unit) i => spec_l2Same.l0 k a b i) (fun _ rest => rest == b.drop (a.length - rest.length)) (fun _ _ => True) (by
      intro s _
      refine Ev.succ ?_
      simp only [spec_l2Same.l0]
      refine Ev.eqr (Ev.neg (by omega) (Ev.now _)) ?_
      have : b.drop a.length = [] := List.drop_eq_nil_of_le (by omega)
      simp [this]) (by
      intro s i rest _ hi hdr ih
      have hrl : rest.length + 1 + i = a.length := by
        have := congrArg List.length hdr
        simp at this; omega
      refine Ev.succ ?_
      simp only [spec_l2Same.l0]
      rw [w64 (by omega) (by omega)]
      refine Ev.pos (by omega) (Ev.pos (by omega) (Ev.pos (by omega) ?_))
      have hra : rd a (i : Int) = a.getD i 0 := rfl
      have hrb : rd b (i : Int) = b.getD i 0 := rfl
      rw [hra, hrb]
      have e2 : a.length - (a.getD i 0 :: rest).length = i := by simp; omega
      have e1 : a.length - rest.length = i + 1 := by omega
      have e3 : b.drop i = b.getD i 0 :: b.drop (i + 1) := by
        rw [List.drop_eq_getElem_cons (by omega), List.getD_eq_getElem?_getD, List.getElem?_eq_getElem (by omega)]; rfl
      rw [e2, e3]
      have ih := ih () trivial
      rw [e1] at ih
      by_cases h : a.getD i 0 = b.getD i 0
      · refine Ev.pos h (Ev.eqr ih ?_)
        rw [h, Bool.eq_iff_iff]; simp
      · refine Ev.neg h (Ev.eqr (Ev.now _) ?_)
        symm; rw [beq_eq_false_iff_ne]; intro hc; exact h (List.cons.inj hc).1) 0 () (Nat.zero_le _) trivial
    simpa using this
  · refine Ev.neg hlen (Ev.eqr (Ev.now _) ?_)
    symm; rw [beq_eq_false_iff_ne]; rintro rfl; exact hlen rfl

/-! drawn formulas -/
def DrF (l : List S40) : Prop := l.length ≤ 7 ∧ ∀ x ∈ l, x.f0.length ≤ 3
theorem l92_two {s : List Int} {Q : List S40 × Int → Prop} (out : List S40) (n i p w : Int) (fs : List Int) (ho : ∀ x ∈ out, x.f0.length ≤ 3) (hol : out.length ≤ 100)
    (hk : Evx (fun k => spec_l92Formulas.l0 k out n (wrap64 (i + 1)) s p) Q) (hk' : Evx (fun k => spec_l92Formulas.l0 k (out ++ [⟨fs, w⟩]) n (wrap64 (i + 1)) s p) Q) (d : Nat) :
    ∀ (x9 : Bool) (j : Nat), j + d = out.length → Evx (fun k => spec_l92Formulas.l2 k out n i x9 (j : Int) s p fs w) Q := by
  induction d with
  | zero =>
    intro x9 j hj
    refine Evx.succ ?_
    simp only [spec_l92Formulas.l2]
    refine Evx.neg (by omega) ?_
    cases x9
    · exact Evx.neg (by simp) hk
    · exact Evx.pos rfl (Evx.pos (by omega) hk')
  | succ d ih =>
    intro x9 j hj
    refine Evx.succ ?_
    simp only [spec_l92Formulas.l2]
    rw [w64 (x := (j : Int) + 1) (by omega) (by omega)]
    have e : ((j : Int) + 1) = ((j + 1 : Nat) : Int) := by omega
    rw [e]
    refine Evx.pos (by omega) ?_
    cases x9
    · exact Evx.neg (by simp) (ih false (j + 1) (by omega))
    · refine Evx.pos rfl (Evx.pos (by omega) (Evx.bind1 (spec_l2Same_ev _ fs ?_) (ih _ (j + 1) (by omega))))
      have := ho _ (rd_mem (l := out) (k := (j : Int)) (by omega) (by omega))
      omega
theorem l92_one {s : List Int} (hc : Code s) {Q : List S40 × Int → Prop} (out : List S40) (n i x7 w : Int) (P : Int) (hP : P ≤ 1000000000)
    (hk : ∀ (fs : List Int) (p : Int), fs.length ≤ 3 → 0 ≤ p → p ≤ P → Evx (fun k => spec_l92Formulas.l2 k out n i true 0 s p fs w) Q) (d : Nat) :
    ∀ (x8 p : Int) (fs : List Int), 0 ≤ x8 → x7 - x8 = d → x7 ≤ 3 → fs.length + d ≤ 3 → 0 ≤ p → p + d ≤ P → Evx (fun k => spec_l92Formulas.l1 k out n i x7 x8 s p fs w) Q := by
  induction d with
  | zero =>
    intro x8 p fs h0 h1 h2 h3 h4 h5
    refine Evx.succ ?_
    simp only [spec_l92Formulas.l1]
    exact Evx.neg (by omega) (hk fs p (by omega) h4 (by omega))
  | succ d ih =>
    intro x8 p fs h0 h1 h2 h3 h4 h5
    refine Evx.succ ?_
    simp only [spec_l92Formulas.l1]
    rw [w64 (x := x8 + 1) (by omega) (by omega)]
    refine Evx.pos (by omega) (Evx.bind (pick_ev hc p 3 h4 (by omega)) ?_)
    rintro ⟨r, q⟩ ⟨hr0, hr1, rfl⟩
    exact Evx.pos (by omega) (ih (x8 + 1) (p + 1) _ (by omega) (by omega) h2 (by rw [List.length_append, List.length_singleton]; omega) (by omega) (by omega))
theorem DrF.set {l : List S40} (h : DrF l) (j : Nat) {x : S40} (hx : x.f0.length ≤ 3) : DrF (l.set j x) := by
  refine ⟨by rw [List.length_set]; exact h.1, fun y hy => ?_⟩
  rcases List.mem_or_eq_of_mem_set hy with hy | rfl
  · exact h.2 y hy
  · exact hx
theorem drawFormulas_loop {s : List Int} (hc : Code s) (n : Int) (hn : n ≤ 5) (d : Nat) : ∀ (out : List S40) (i p : Int), 0 ≤ i → n - i = d → (out.length : Int) ≤ i → (1 ≤ i → 1 ≤ out.length) → 1 ≤ n → (∀ x ∈ out, x.f0.length ≤ 3) → 0 ≤ p → p + 10 * d ≤ 1000000 →
    Evx (fun k => spec_l92Formulas.l0 k out n i s p) (fun r => DrF r.1 ∧ 0 ≤ r.2 ∧ r.2 ≤ p + 10 * d + 2) := by
  induction d with
  | zero =>
    intro out i p h0 h1 h2 h3 h4 h5 h6 h7
    have hne := h3 (by omega)
    have hD : DrF out := ⟨by omega, h5⟩
    have hz : (rd_T40 out 0).f0.length ≤ 3 := h5 _ (rd_mem (k := 0) (by omega) (by omega))
    refine Evx.succ ?_
    simp only [spec_l92Formulas.l0]
    refine Evx.neg (by omega) (Evx.bind (pick_ev hc p 40 h6 (by omega)) ?_)
    rintro ⟨r, q⟩ ⟨hr0, hr1, rfl⟩
    refine Evx.ite (fun _ => ?_) (fun _ => Evx.ite (fun _ => ?_) (fun _ => Evx.ite (fun _ => ?_) (fun _ => Evx.ite (fun _ => ?_) (fun _ => ?_))))
    · refine Evx.someb (Evx.bind (pick_ev hc (p + 1) 2 (by omega) (by omega)) ?_)
      rintro ⟨u, q⟩ ⟨hu0, hu1, rfl⟩
      have hu0 : 0 ≤ u := hu0
      have hu1 : u < 2 ∨ u = 0 := hu1
      exact Evx.pos hu0 (Evx.pos (by simp; omega) (Evx.pos (by omega) (Evx.now ⟨hD.set _ hz, by show 0 ≤ p + 1 + 1; omega, by show p + 1 + 1 ≤ _; omega⟩)))
    · refine Evx.pos (by omega) (Evx.pos (by omega) (Evx.now ⟨⟨by rw [List.length_append, List.length_singleton]; omega, fun x hx => ?_⟩, by show 0 ≤ p + 1; omega, by show p + 1 ≤ _; omega⟩))
      rcases List.mem_append.1 hx with hx | hx
      · exact h5 x hx
      · rw [List.mem_singleton.1 hx]; exact hz
    · exact Evx.pos (by omega) (Evx.now ⟨hD.set _ (by simp), by show 0 ≤ p + 1; omega, by show p + 1 ≤ _; omega⟩)
    · exact Evx.now ⟨⟨by simp, by simp⟩, by show 0 ≤ p + 1; omega, by show p + 1 ≤ _; omega⟩
    · exact Evx.now ⟨hD, by show 0 ≤ p + 1; omega, by show p + 1 ≤ _; omega⟩
  | succ d ih =>
    intro out i p h0 h1 h2 h3 h4 h5 h6 h7
    refine Evx.succ ?_
    simp only [spec_l92Formulas.l0]
    refine Evx.pos (by omega) (Evx.bind (pick_ev hc p 5 h6 (by omega)) ?_)
    rintro ⟨u, q⟩ ⟨hu0, hu1, rfl⟩
    refine Evx.bind (pick_ev hc (p + 1) 3 (by omega) (by omega)) ?_
    rintro ⟨v, q⟩ ⟨hv0, hv1, rfl⟩
    have hv0 : 0 ≤ v := hv0
    have hv1 : v < 3 ∨ v = 0 := hv1
    rw [w64 (x := 1 + v) (by omega) (by omega)]
    have nxt : ∀ out' : List S40, (out'.length : Int) ≤ i + 1 → 1 ≤ out'.length → (∀ x ∈ out', x.f0.length ≤ 3) → ∀ q, 0 ≤ q → q ≤ p + 6 → Evx (fun k => spec_l92Formulas.l0 k out' n (wrap64 (i + 1)) s q) (fun r => DrF r.1 ∧ 0 ≤ r.2 ∧ r.2 ≤ p + 10 * ((d + 1 : Nat) : Int) + 2) := by
      intro out' a1 a2 a3 q a4 a5
      rw [w64 (x := i + 1) (by omega) (by omega)]
      exact (ih out' (i + 1) q (by omega) (by omega) a1 (fun _ => a2) h4 a3 a4 (by omega)).mono (fun r h => ⟨h.1, h.2.1, by have := h.2.2; omega⟩)
    obtain ⟨e, he⟩ : ∃ e : Nat, (1 + v) - 0 = e := ⟨(1 + v).toNat, by omega⟩
    refine l92_one hc out n i (1 + v) _ (p + 6) (by omega) (fun fs q hf hq hq' => ?_) e 0 (p + 1 + 1) [] (by omega) he (by omega) (by simp; omega) (by omega) (by omega)
    by_cases hz : out = []
    · subst hz
      refine Evx.succ ?_
      simp only [spec_l92Formulas.l2]
      refine Evx.neg (by simp) (Evx.pos trivial (Evx.pos (by simp) (nxt _ (by simp; omega) (by simp) (by simpa using hf) q hq hq')))
    · have hlz : 1 ≤ out.length := List.length_pos_iff.2 hz
      refine l92_two out n i q _ fs h5 (by omega) (nxt out (by omega) hlz h5 q hq hq') (nxt _ (by rw [List.length_append, List.length_singleton]; omega) (by rw [List.length_append, List.length_singleton]; omega) (fun x hx => ?_) q hq hq') out.length true 0 (by omega)
      rcases List.mem_append.1 hx with hx | hx
      · exact h5 x hx
      · rw [List.mem_singleton.1 hx]; exact hf
theorem drawFormulas_ev {s : List Int} (hc : Code s) (p : Int) (hp : 0 ≤ p) (hp' : p ≤ 10000) : Evx (fun k => spec_l92Formulas.f k s p) (fun r => DrF r.1 ∧ 0 ≤ r.2 ∧ r.2 ≤ p + 53) := by
  unfold spec_l92Formulas.f
  refine Evx.bind (pick_ev hc p 5 hp (by omega)) ?_
  rintro ⟨u, q⟩ ⟨hu0, hu1, rfl⟩
  have hu0 : 0 ≤ u := hu0
  have hu1 : u < 5 ∨ u = 0 := hu1
  rw [w64 (x := 1 + u) (by omega) (by omega)]
  obtain ⟨e, he⟩ : ∃ e : Nat, (1 + u) - 0 = e := ⟨(1 + u).toNat, by omega⟩
  exact (drawFormulas_loop hc (1 + u) (by omega) e [] 0 (p + 1) (by omega) he (by simp) (by omega) (by omega) (by simp) (by omega) (by omega)).mono (fun r h => ⟨h.1, h.2.1, by have := h.2.2; omega⟩)

end Go.Proofs.Ytohnkicfnfejnaa.Pure
