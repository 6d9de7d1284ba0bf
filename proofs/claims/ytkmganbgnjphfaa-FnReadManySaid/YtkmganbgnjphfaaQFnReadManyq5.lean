/- Lemmas on the printed functions for the law FnReadMany. -/
import Derived.Test.YtkmganbgnjphfaaGFnReadManyg10
import Derived.Test.YtkmganbgnjphfaaGFnReadManyg12
import Derived.Test.YtkmganbgnjphfaaGFnReadManyg11
import Derived.Test.YtkmganbgnjphfaaGFnReadManyg13
import Derived.Test.YtkmganbgnjphfaaGFnReadManyg17
import Derived.Test.YtkmganbgnjphfaaGFnReadManyg15
import Derived.Test.YtkmganbgnjphfaaGFnReadManyg18
import Derived.Test.YtkmganbgnjphfaaGFnReadManyg19
import Derived.Test.YtkmganbgnjphfaaGFnReadManyg20
import Derived.Test.YtkmganbgnjphfaaGFnReadManyg21
import Derived.Test.YtkmganbgnjphfaaGFnReadManyg22
import Derived.Test.YtkmganbgnjphfaaGFnReadManyg23
import Derived.Test.YtkmganbgnjphfaaGFnReadManyg24
import Derived.Test.YtkmganbgnjphfaaGFnReadManyg25
import Derived.Test.YtkmganbgnjphfaaGFnReadManyg26
import Derived.Test.YtkmganbgnjphfaaQFnReadManyq0
import Derived.Test.YtkmganbgnjphfaaQFnReadManyq1
import Derived.Test.YtkmganbgnjphfaaQFnReadManyq2
import Derived.Deep.RegionHeld3
import Derived.BigRegion
import Derived.Deep.Slices
import Derived.Laws.CopyOwn
namespace Go.Proofs.Ytkmganbgnjphfaa.Pure
set_option linter.unusedVariables false
set_option linter.unusedSimpArgs false
open Go Go.RowKit Go.Proofs.Ytkmganbgnjphfaa.PFnReadMany Go.Proofs.YtkmganbgnjphfaaW.PrintWords Go.Proofs.YtkmganbgnjphfaaW.PrintLast Go.Proofs.YtkmganbgnjphfaaW.PrintMore

/-! pick: a number from 0 to n-1 -/
structure Code (s : List Int) : Prop where
  b : ∀ x ∈ s, 0 ≤ x ∧ x ≤ 255
  l : s.length ≤ 2000
theorem open_ev (l0 : List Int) (hw : ∀ x ∈ l0, (Lit.int .u8 x).wf = true) : ∃ s, spec_l6Open.f l0 = some (s, 0) ∧ Code s := by
  have hb : ∀ x ∈ l0, 0 ≤ x ∧ x ≤ 255 := by
    intro x hx
    have := hw x hx
    have e1 : IntKind.u8.min = 0 := by decide
    have e2 : IntKind.u8.max = 255 := by decide
    simp only [Lit.wf, e1, e2] at this
    simpa using this
  unfold spec_l6Open.f
  by_cases h : (l0.length : Int) > 2000
  · refine ⟨l0.take 2000, by rw [if_pos h, if_pos (by omega)], ⟨fun x hx => hb x (List.mem_of_mem_take hx), by rw [List.length_take]; omega⟩⟩
  · exact ⟨l0, by rw [if_neg h], ⟨hb, by omega⟩⟩
theorem pick_ev {s : List Int} (hc : Code s) (p n : Int) (hp : 0 ≤ p) (hp' : p ≤ 1000000000) :
    Evx (fun k => spec_l6Rd_pick.f k s p n) (fun r => 0 ≤ r.1 ∧ (r.1 < n ∨ r.1 = 0) ∧ r.2 = p + 1) := by
  have hw : wrap64 (p + 1) = p + 1 := w64 (by omega) (by omega)
  have hw' : wrap64 (p + 1 - 1) = p := by rw [w64 (by omega) (by omega)]; omega
  have hl := hc.l
  unfold spec_l6Rd_pick.f
  rw [hw]
  by_cases hn : n < 1
  · refine Evx.pos hn (Evx.succ ?_)
    simp only [spec_l6Rd_pick.j0, if_true]
    exact Evx.now ⟨by simp, by simp, rfl⟩
  · refine Evx.neg hn (Evx.succ ?_)
    have tm : ∀ x : Int, 0 ≤ x → 0 ≤ Int.tmod x n ∧ Int.tmod x n < n := fun x hx => ⟨Int.tmod_nonneg n hx, Int.tmod_lt_of_pos x (by omega)⟩
    by_cases h0 : s.length = 0
    · have e : ((s.length : Int) == 0) = true := by simp [h0]
      simp only [spec_l6Rd_pick.j0, e, if_true]
      exact Evx.now ⟨by simp, by simp, rfl⟩
    · have e : ((s.length : Int) == 0) = false := by rw [beq_eq_false_iff_ne]; omega
      simp only [spec_l6Rd_pick.j0, e, hw']
      refine Evx.neg (by simp) ?_
      by_cases hlt : p < (s.length : Int)
      · refine Evx.pos hlt (Evx.pos hp (Evx.neg (by omega) (Evx.now ?_)))
        have hb := rd_bd hc.b p
        rw [w64 (x := rd s p) (by omega) (by omega)]
        have := tm (rd s p) hb.1
        exact ⟨this.1, .inl this.2, rfl⟩
      · refine Evx.neg hlt (Evx.neg (by omega) ?_)
        have t1 : 0 ≤ Int.tmod p s.length := Int.tmod_nonneg _ hp
        have t1' : Int.tmod p s.length < s.length := Int.tmod_lt_of_pos p (by omega)
        rw [w64 (x := p * 7) (by omega) (by omega), w64 (x := p * 7 + 3) (by omega) (by omega)]
        have t2 : 0 ≤ Int.tmod (p * 7 + 3) s.length := Int.tmod_nonneg _ (by omega)
        have t2' : Int.tmod (p * 7 + 3) s.length < s.length := Int.tmod_lt_of_pos _ (by omega)
        refine Evx.pos t1 (Evx.pos t1' (Evx.pos t2 (Evx.pos t2' (Evx.neg (by omega) (Evx.now ?_)))))
        have hb1 := rd_bd hc.b (Int.tmod p s.length)
        have hb2 := rd_bd hc.b (Int.tmod (p * 7 + 3) s.length)
        have hd : 0 ≤ Int.tdiv p s.length ∧ Int.tdiv p s.length ≤ p := by
          rw [Int.tdiv_eq_ediv_of_nonneg hp]
          exact ⟨Int.ediv_nonneg hp (by omega), Int.ediv_le_self _ hp⟩
        generalize rd s (Int.tmod p s.length) = a at *
        generalize rd s (Int.tmod (p * 7 + 3) s.length) = b at *
        generalize Int.tdiv p s.length = c at *
        obtain ⟨X, hX, hX0, hX1⟩ : ∃ X : Int, wrap64 (wrap64 (wrap64 (wrap64 (wrap64 a * 131) + wrap64 (wrap64 b * 1117)) + wrap64 (p * 29)) + wrap64 (wrap64 c * 53)) = X ∧ 0 ≤ X ∧ X < 1000000000000 := by
          refine ⟨a * 131 + b * 1117 + p * 29 + c * 53, ?_, by omega, by omega⟩
          rw [w64 (x := a) (by omega) (by omega), w64 (x := b) (by omega) (by omega), w64 (x := c) (by omega) (by omega), w64 (x := a * 131) (by omega) (by omega), w64 (x := b * 1117) (by omega) (by omega), w64 (x := p * 29) (by omega) (by omega), w64 (x := c * 53) (by omega) (by omega), w64 (x := a * 131 + b * 1117) (by omega) (by omega), w64 (x := a * 131 + b * 1117 + p * 29) (by omega) (by omega), w64 (by omega) (by omega)]
        rw [hX]
        have hq : 0 ≤ Int.tdiv X 64 ∧ Int.tdiv X 64 ≤ X := by
          rw [Int.tdiv_eq_ediv_of_nonneg hX0]; omega
        rw [w64 (x := Int.tdiv X 64) (by omega) (by omega)]
        have := tm _ (xor_bd X (Int.tdiv X 64) hX0 (by omega) hq.1 (by omega))
        exact ⟨this.1, .inl this.2, rfl⟩

theorem spec_l2Same_ev (a b : List Int) (hl : a.length ≤ 1000000000000) : Ev (fun k => spec_l2Same.f k a b) (a == b) := by
  unfold spec_l2Same.f
  by_cases hlen : (a.length : Int) = (b.length : Int)
  · refine Ev.pos hlen ?_
    have := Ev.over (0 : Int) a (fun k (_ : Unit) i => spec_l2Same.l0 k a b i) (fun _ rest => rest == b.drop (a.length - rest.length)) (fun _ _ => True) (by
      intro s _
      refine Ev.succ ?_
      simp only [spec_l2Same.l0]
      refine Ev.eqr (Ev.neg (by omega) (Ev.now _)) ?_
      have : b.drop a.length = [] := List.drop_eq_nil_of_le (by omega)
      simp [this]) (by
      intro s i rest _ hi hdr ih
      have hrl : rest.length + 1 + i = a.length := by
        have := congrArg List.length hdr
        simp at this; omega
      refine Ev.succ ?_
      simp only [spec_l2Same.l0]
      rw [w64 (by omega) (by omega)]
      refine Ev.pos (by omega) (Ev.pos (by omega) (Ev.pos (by omega) ?_))
      have hra : rd a (i : Int) = a.getD i 0 := rfl
      have hrb : rd b (i : Int) = b.getD i 0 := rfl
      rw [hra, hrb]
      have e2 : a.length - (a.getD i 0 :: rest).length = i := by simp; omega
      have e1 : a.length - rest.length = i + 1 := by omega
      have e3 : b.drop i = b.getD i 0 :: b.drop (i + 1) := by
        rw [List.drop_eq_getElem_cons (by omega), List.getD_eq_getElem?_getD, List.getElem?_eq_getElem (by omega)]; rfl
      rw [e2, e3]
      have ih := ih () trivial
      rw [e1] at ih
      by_cases h : a.getD i 0 = b.getD i 0
      · refine Ev.pos h (Ev.eqr ih ?_)
        rw [h, Bool.eq_iff_iff]; simp
      · refine Ev.neg h (Ev.eqr (Ev.now _) ?_)
        symm; rw [beq_eq_false_iff_ne]; intro hc; exact h (List.cons.inj hc).1) 0 () (Nat.zero_le _) trivial
    simpa using this
  · refine Ev.neg hlen (Ev.eqr (Ev.now _) ?_)
    symm; rw [beq_eq_false_iff_ne]; rintro rfl; exact hlen rfl

/-! drawn formulas -/
def DrF (l : List S37) : Prop := l.length ≤ 7 ∧ ∀ x ∈ l, x.f0.length ≤ 3
theorem l92_two {s : List Int} {Q : List S37 × Int → Prop} (out : List S37) (n i p w : Int) (fs : List Int) (ho : ∀ x ∈ out, x.f0.length ≤ 3) (hol : out.length ≤ 100)
    (hk : Evx (fun k => spec_l92Formulas.l0 k out n (wrap64 (i + 1)) s p) Q) (hk' : Evx (fun k => spec_l92Formulas.l0 k (out ++ [⟨fs, w⟩]) n (wrap64 (i + 1)) s p) Q) (d : Nat) :
    ∀ (x9 : Bool) (j : Nat), j + d = out.length → Evx (fun k => spec_l92Formulas.l2 k out n i x9 (j : Int) s p fs w) Q := by
  induction d with
  | zero =>
    intro x9 j hj
    refine Evx.succ ?_
    simp only [spec_l92Formulas.l2]
    refine Evx.neg (by omega) ?_
    cases x9
    · exact Evx.neg (by simp) hk
    · exact Evx.pos rfl (Evx.pos (by omega) hk')
  | succ d ih =>
    intro x9 j hj
    refine Evx.succ ?_
    simp only [spec_l92Formulas.l2]
    rw [w64 (x := (j : Int) + 1) (by omega) (by omega)]
    have e : ((j : Int) + 1) = ((j + 1 : Nat) : Int) := by omega
    rw [e]
    refine Evx.pos (by omega) ?_
    cases x9
    · exact Evx.neg (by simp) (ih false (j + 1) (by omega))
    · refine Evx.pos rfl (Evx.pos (by omega) (Evx.bind1 (spec_l2Same_ev _ fs ?_) (ih _ (j + 1) (by omega))))
      have := ho _ (rd_mem (l := out) (k := (j : Int)) (by omega) (by omega))
      omega
theorem l92_one {s : List Int} (hc : Code s) {Q : List S37 × Int → Prop} (out : List S37) (n i x7 w : Int) (P : Int) (hP : P ≤ 1000000000)
    (hk : ∀ (fs : List Int) (p : Int), fs.length ≤ 3 → 0 ≤ p → p ≤ P → Evx (fun k => spec_l92Formulas.l2 k out n i true 0 s p fs w) Q) (d : Nat) :
    ∀ (x8 p : Int) (fs : List Int), 0 ≤ x8 → x7 - x8 = d → x7 ≤ 3 → fs.length + d ≤ 3 → 0 ≤ p → p + d ≤ P → Evx (fun k => spec_l92Formulas.l1 k out n i x7 x8 s p fs w) Q := by
  induction d with
  | zero =>
    intro x8 p fs h0 h1 h2 h3 h4 h5
    refine Evx.succ ?_
    simp only [spec_l92Formulas.l1]
    exact Evx.neg (by omega) (hk fs p (by omega) h4 (by omega))
  | succ d ih =>
    intro x8 p fs h0 h1 h2 h3 h4 h5
    refine Evx.succ ?_
    simp only [spec_l92Formulas.l1]
    rw [w64 (x := x8 + 1) (by omega) (by omega)]
    refine Evx.pos (by omega) (Evx.bind (pick_ev hc p 3 h4 (by omega)) ?_)
    rintro ⟨r, q⟩ ⟨hr0, hr1, rfl⟩
    exact Evx.pos (by omega) (ih (x8 + 1) (p + 1) _ (by omega) (by omega) h2 (by rw [List.length_append, List.length_singleton]; omega) (by omega) (by omega))
theorem DrF.set {l : List S37} (h : DrF l) (j : Nat) {x : S37} (hx : x.f0.length ≤ 3) : DrF (l.set j x) := by
  refine ⟨by rw [List.length_set]; exact h.1, fun y hy => ?_⟩
  rcases List.mem_or_eq_of_mem_set hy with hy | rfl
  · exact h.2 y hy
  · exact hx
theorem drawFormulas_loop {s : List Int} (hc : Code s) (n : Int) (hn : n ≤ 5) (d : Nat) : ∀ (out : List S37) (i p : Int), 0 ≤ i → n - i = d → (out.length : Int) ≤ i → (1 ≤ i → 1 ≤ out.length) → 1 ≤ n → (∀ x ∈ out, x.f0.length ≤ 3) → 0 ≤ p → p + 10 * d ≤ 1000000 →
    Evx (fun k => spec_l92Formulas.l0 k out n i s p) (fun r => DrF r.1 ∧ 0 ≤ r.2 ∧ r.2 ≤ p + 10 * d + 2) := by
  induction d with
  | zero =>
    intro out i p h0 h1 h2 h3 h4 h5 h6 h7
    have hne := h3 (by omega)
    have hD : DrF out := ⟨by omega, h5⟩
    have hz : (rd_T37 out 0).f0.length ≤ 3 := h5 _ (rd_mem (k := 0) (by omega) (by omega))
    refine Evx.succ ?_
    simp only [spec_l92Formulas.l0]
    refine Evx.neg (by omega) (Evx.bind (pick_ev hc p 40 h6 (by omega)) ?_)
    rintro ⟨r, q⟩ ⟨hr0, hr1, rfl⟩
    refine Evx.ite (fun _ => ?_) (fun _ => Evx.ite (fun _ => ?_) (fun _ => Evx.ite (fun _ => ?_) (fun _ => Evx.ite (fun _ => ?_) (fun _ => ?_))))
    · refine Evx.someb (Evx.bind (pick_ev hc (p + 1) 2 (by omega) (by omega)) ?_)
      rintro ⟨u, q⟩ ⟨hu0, hu1, rfl⟩
      have hu0 : 0 ≤ u := hu0
      have hu1 : u < 2 ∨ u = 0 := hu1
      exact Evx.pos hu0 (Evx.pos (by simp; omega) (Evx.pos (by omega) (Evx.now ⟨hD.set _ hz, by show 0 ≤ p + 1 + 1; omega, by show p + 1 + 1 ≤ _; omega⟩)))
    · refine Evx.pos (by omega) (Evx.pos (by omega) (Evx.now ⟨⟨by rw [List.length_append, List.length_singleton]; omega, fun x hx => ?_⟩, by show 0 ≤ p + 1; omega, by show p + 1 ≤ _; omega⟩))
      rcases List.mem_append.1 hx with hx | hx
      · exact h5 x hx
      · rw [List.mem_singleton.1 hx]; exact hz
    · exact Evx.pos (by omega) (Evx.now ⟨hD.set _ (by simp), by show 0 ≤ p + 1; omega, by show p + 1 ≤ _; omega⟩)
    · exact Evx.now ⟨⟨by simp, by simp⟩, by show 0 ≤ p + 1; omega, by show p + 1 ≤ _; omega⟩
    · exact Evx.now ⟨hD, by show 0 ≤ p + 1; omega, by show p + 1 ≤ _; omega⟩
  | succ d ih =>
    intro out i p h0 h1 h2 h3 h4 h5 h6 h7
    refine Evx.succ ?_
    simp only [spec_l92Formulas.l0]
    refine Evx.pos (by omega) (Evx.bind (pick_ev hc p 5 h6 (by omega)) ?_)
    rintro ⟨u, q⟩ ⟨hu0, hu1, rfl⟩
    refine Evx.bind (pick_ev hc (p + 1) 3 (by omega) (by omega)) ?_
    rintro ⟨v, q⟩ ⟨hv0, hv1, rfl⟩
    have hv0 : 0 ≤ v := hv0
    have hv1 : v < 3 ∨ v = 0 := hv1
    rw [w64 (x := 1 + v) (by omega) (by omega)]
    have nxt : ∀ out' : List S37, (out'.length : Int) ≤ i + 1 → 1 ≤ out'.length → (∀ x ∈ out', x.f0.length ≤ 3) → ∀ q, 0 ≤ q → q ≤ p + 6 → Evx (fun k => spec_l92Formulas.l0 k out' n (wrap64 (i + 1)) s q) (fun r => DrF r.1 ∧ 0 ≤ r.2 ∧ r.2 ≤ p + 10 * ((d + 1 : Nat) : Int) + 2) := by
      intro out' a1 a2 a3 q a4 a5
      rw [w64 (x := i + 1) (by omega) (by omega)]
      exact (ih out' (i + 1) q (by omega) (by omega) a1 (fun _ => a2) h4 a3 a4 (by omega)).mono (fun r h => ⟨h.1, h.2.1, by have := h.2.2; omega⟩)
    obtain ⟨e, he⟩ : ∃ e : Nat, (1 + v) - 0 = e := ⟨(1 + v).toNat, by omega⟩
    refine l92_one hc out n i (1 + v) _ (p + 6) (by omega) (fun fs q hf hq hq' => ?_) e 0 (p + 1 + 1) [] (by omega) he (by omega) (by simp; omega) (by omega) (by omega)
    by_cases hz : out = []
    · subst hz
      refine Evx.succ ?_
      simp only [spec_l92Formulas.l2]
      refine Evx.neg (by simp) (Evx.pos trivial (Evx.pos (by simp) (nxt _ (by simp; omega) (by simp) (by simpa using hf) q hq hq')))
    · have hlz : 1 ≤ out.length := List.length_pos_iff.2 hz
      refine l92_two out n i q _ fs h5 (by omega) (nxt out (by omega) hlz h5 q hq hq') (nxt _ (by rw [List.length_append, List.length_singleton]; omega) (by rw [List.length_append, List.length_singleton]; omega) (fun x hx => ?_) q hq hq') out.length true 0 (by omega)
      rcases List.mem_append.1 hx with hx | hx
      · exact h5 x hx
      · rw [List.mem_singleton.1 hx]; exact hf
theorem drawFormulas_ev {s : List Int} (hc : Code s) (p : Int) (hp : 0 ≤ p) (hp' : p ≤ 10000) : Evx (fun k => spec_l92Formulas.f k s p) (fun r => DrF r.1 ∧ 0 ≤ r.2 ∧ r.2 ≤ p + 53) := by
  unfold spec_l92Formulas.f
  refine Evx.bind (pick_ev hc p 5 hp (by omega)) ?_
  rintro ⟨u, q⟩ ⟨hu0, hu1, rfl⟩
  have hu0 : 0 ≤ u := hu0
  have hu1 : u < 5 ∨ u = 0 := hu1
  rw [w64 (x := 1 + u) (by omega) (by omega)]
  obtain ⟨e, he⟩ : ∃ e : Nat, (1 + u) - 0 = e := ⟨(1 + u).toNat, by omega⟩
  exact (drawFormulas_loop hc (1 + u) (by omega) e [] 0 (p + 1) (by omega) he (by simp) (by omega) (by omega) (by simp) (by omega) (by omega)).mono (fun r h => ⟨h.1, h.2.1, by have := h.2.2; omega⟩)

theorem spec_l6fOne_ev (x : S37) (hl : x.f0.length ≤ 1000000000000) : Ev (fun k => spec_l6fOne.f k x.f0 x.f1) (fOk x) := by
  unfold spec_l6fOne.f
  have := Ev.over (0 : Int) x.f0 (fun k (_ : Unit) i => spec_l6fOne.l0 k i x.f0 x.f1) (fun _ rest => rest.all (inR (-7) 7) && (decide (1 ≤ (x.f0.length : Int) ∧ (x.f0.length : Int) ≤ 5) && decide (1 ≤ x.f1 ∧ x.f1 ≤ 9))) (fun _ _ => True) (by
    intro s _
    refine Ev.succ ?_
    simp only [spec_l6fOne.l0, List.all_nil, Bool.true_and]
    refine Ev.neg (by omega) (Ev.conb (spec_l6In_eq _ _ _) ?_)
    by_cases h : 1 ≤ (x.f0.length : Int) ∧ (x.f0.length : Int) ≤ 5
    · rw [decide_eq_true h]
      exact Ev.pos rfl (Ev.conb (spec_l6In_eq _ _ _) (Ev.now _))
    · rw [decide_eq_false h]
      exact Ev.neg (by simp) (Ev.now _)) (by
    intro s i rest _ hi _ ih
    refine Ev.succ ?_
    simp only [spec_l6fOne.l0, List.all_cons]
    rw [w64 (by omega) (by omega)]
    refine Ev.pos (by omega) (Ev.pos (by omega) (Ev.conb (spec_l6In_eq _ _ _) ?_))
    have hrd : rd x.f0 (i : Int) = x.f0.getD i 0 := rfl
    rw [hrd]
    show Ev _ ((decide (-7 ≤ x.f0.getD i 0 ∧ x.f0.getD i 0 ≤ 7) && _) && _)
    by_cases h : -7 ≤ x.f0.getD i 0 ∧ x.f0.getD i 0 ≤ 7
    · rw [decide_eq_true h]
      exact Ev.pos rfl (ih () trivial)
    · rw [decide_eq_false h]
      exact Ev.neg (by simp) (Ev.now _)) 0 () (Nat.zero_le _) trivial
  refine Ev.eqr (by simpa using this) ?_
  unfold fOk
  cases x.f0.all (inR (-7) 7) <;> simp
theorem spec_FormulasValid_ev (l : List S37) (hll : l.length ≤ 1000000000000) (hl : ∀ x ∈ l, x.f0.length ≤ 1000000000000) : Ev (fun k => spec_FormulasValid.f k l) (fsOk l) := by
  unfold spec_FormulasValid.f
  have := Ev.over z37 l (fun k (_ : Unit) i => spec_FormulasValid.l0 k l i) (fun _ rest => goF (l.take (l.length - rest.length)) rest && decide ((l.length : Int) ≤ 8)) (fun _ _ => True) (by
    intro s _
    refine Ev.succ ?_
    simp only [spec_FormulasValid.l0, goF, Bool.true_and]
    exact Ev.neg (by omega) (Ev.now _)) (by
    intro s i rest _ hi hdr ih
    have hrl : rest.length + 1 + i = l.length := by
      have := congrArg List.length hdr
      simp at this; omega
    have hm : l.getD i z37 ∈ l := by
      rw [List.getD_eq_getElem?_getD, List.getElem?_eq_getElem hi]; exact List.getElem_mem hi
    have hx := hl _ hm
    refine Ev.succ ?_
    simp only [spec_FormulasValid.l0]
    refine Ev.pos (by omega) (Ev.pos (by omega) ?_)
    have hrd : rd_T37 l (i : Int) = l.getD i z37 := rfl
    have e2 : l.length - (l.getD i z37 :: rest).length = i := by simp; omega
    have e1 : l.length - rest.length = i + 1 := by omega
    have ih := ih () trivial
    rw [e1, take_rd l i hi] at ih
    rw [e2]
    rw [← hrd] at hx ih ⊢
    simp only [goF]
    refine Ev.bind (spec_l6fOne_ev _ hx) ?_
    cases hf : fOk (rd_T37 l (i : Int))
    · exact Ev.neg (by simp) (Ev.now _)
    refine Ev.pos rfl ?_
    simp only [Bool.true_and]
    have htl : (l.take i).length = i := by simp; omega
    have inner := Ev.over z37 (l.take i) (fun k (_ : Unit) j => spec_FormulasValid.l1 k l i j) (fun _ rest' => (!(rest'.any (fun y => y.f0 == (rd_T37 l (i : Int)).f0)) && goF (l.take i ++ [rd_T37 l (i : Int)]) rest) && decide ((l.length : Int) ≤ 8)) (fun _ _ => True) (by
      intro s _
      refine Ev.succ ?_
      simp only [spec_FormulasValid.l1]
      refine Ev.neg (by omega) ?_
      rw [w64 (by omega) (by omega)]
      simpa using ih) (by
      intro s j rest' _ hj _ ih'
      have hjm : (l.take i).getD j z37 ∈ l := by
        rw [List.getD_eq_getElem?_getD, List.getElem?_eq_getElem hj]; exact List.mem_of_mem_take (List.getElem_mem hj)
      have hxj := hl _ hjm
      refine Ev.succ ?_
      simp only [spec_FormulasValid.l1]
      refine Ev.pos (by omega) (Ev.pos (by omega) (Ev.pos (by omega) (Ev.pos (by omega) (Ev.pos (by omega) ?_))))
      have hrd' : rd_T37 l (j : Int) = (l.take i).getD j z37 := by
        rw [List.getD_eq_getElem?_getD, List.getElem?_take, if_pos (by omega)]
        simp [rd_T37]
      rw [hrd']
      generalize (l.take i).getD j z37 = y at hxj
      refine Ev.bind (spec_l2Same_ev _ _ hx) ?_
      simp only [List.any_cons]
      have hcm : (y.f0 == (rd_T37 l (i : Int)).f0) = ((rd_T37 l (i : Int)).f0 == y.f0) := by rw [Bool.eq_iff_iff, beq_iff_eq, beq_iff_eq]; exact eq_comm
      rw [hcm]
      cases (rd_T37 l (i : Int)).f0 == y.f0
      · refine Ev.neg (by simp) ?_
        rw [w64 (by omega) (by omega)]
        simpa using ih' () trivial
      · exact Ev.pos rfl (Ev.now _)) 0 () (Nat.zero_le _) trivial
    simpa using inner) 0 () (Nat.zero_le _) trivial
  refine Ev.eqr (by simpa using this) ?_
  unfold fsOk
  rw [Bool.and_comm]

/-! how much a reader finds at most -/
theorem goF_pw : ∀ {l acc : List S37}, goF acc l = true → (∀ a ∈ acc, ∀ b ∈ l, a.f0 ≠ b.f0) ∧ l.Pairwise (fun a b => a.f0 ≠ b.f0)
  | [], acc, _ => ⟨by simp, List.Pairwise.nil⟩
  | x :: xs, acc, h => by
    simp only [goF, Bool.and_eq_true, Bool.not_eq_true', List.any_eq_false, beq_iff_eq] at h
    obtain ⟨_, h1, h2⟩ := h
    obtain ⟨h3, h4⟩ := goF_pw h2
    refine ⟨fun a ha b hb => ?_, List.pairwise_cons.2 ⟨fun b hb => h3 x (by simp) b hb, h4⟩⟩
    rcases List.mem_cons.1 hb with rfl | hb
    · exact h1 a ha
    · exact h3 a (List.mem_append_left _ ha) b hb
def sumB (s : List Int) : List S37 → Nat
  | [] => 0
  | f :: fs => (if isPre f.f0 s = true then 2 ^ (s.length - f.f0.length) else 0) + sumB s fs
theorem sum_pow : ∀ (n : Nat) (ks : List Nat), ks.Nodup → (∀ k ∈ ks, 1 ≤ k ∧ k ≤ n) → (ks.map (fun k => 2 ^ (n - k))).sum + 1 ≤ 2 ^ n
  | 0, ks, _, h => by
    cases ks with
    | nil => simp
    | cons k ks => have := h k (by simp); omega
  | n + 1, ks, hn, h => by
    have key : ∀ l : List Nat, (∀ k ∈ l, k ≤ n) → (l.map (fun k => 2 ^ (n + 1 - k))).sum = 2 * (l.map (fun k => 2 ^ (n - k))).sum := by
      intro l
      induction l with
      | nil => intro _; rfl
      | cons k l ih =>
        intro hl
        have h1 := hl k (by simp)
        have e : n + 1 - k = (n - k) + 1 := by omega
        simp only [List.map_cons, List.sum_cons]
        rw [ih (fun k hk => hl k (by simp [hk])), e, Nat.pow_succ]; omega
    by_cases hm : n + 1 ∈ ks
    · have hp := List.perm_cons_erase hm
      have h1 := sum_pow n (ks.erase (n + 1)) (hn.erase _) (fun k hk => by
        have h2 := h k (List.mem_of_mem_erase hk)
        have : k ≠ n + 1 := fun e => by subst e; exact (List.Nodup.not_mem_erase hn) hk
        omega)
      have h2 := (hp.map (fun k => 2 ^ (n + 1 - k))).sum_nat
      rw [h2, List.map_cons, List.sum_cons, key _ (fun k hk => by
        have h2 := h k (List.mem_of_mem_erase hk)
        have : k ≠ n + 1 := fun e => by subst e; exact (List.Nodup.not_mem_erase hn) hk
        omega), Nat.sub_self, Nat.pow_succ]
      omega
    · rw [key _ (fun k hk => by have := h k hk; have : k ≠ n + 1 := fun e => hm (e ▸ hk); omega)]
      have h1 := sum_pow n ks hn (fun k hk => by have := h k hk; have : k ≠ n + 1 := fun e => hm (e ▸ hk); omega)
      rw [Nat.pow_succ]; omega
theorem isPre_take {p s : List Int} (h : isPre p s = true) : s.take p.length = p := by
  unfold isPre at h; simp at h; exact h.2
theorem sumB_eq (s : List Int) : ∀ L : List S37, sumB s L = (((L.filter (fun f => isPre f.f0 s)).map (fun f => f.f0.length)).map (fun k => 2 ^ (s.length - k))).sum
  | [] => rfl
  | f :: fs => by
    simp only [sumB]
    rw [sumB_eq s fs, List.filter_cons]
    cases isPre f.f0 s <;> simp
theorem sumB_le {s : List Int} {L : List S37} (hL : ∀ f ∈ L, 1 ≤ f.f0.length) (hp : L.Pairwise (fun a b => a.f0 ≠ b.f0)) : sumB s L ≤ 2 ^ s.length := by
  rw [sumB_eq]
  have h1 : ((L.filter (fun f => isPre f.f0 s)).map (fun f => f.f0.length)).Nodup := by
    rw [List.nodup_iff_pairwise_ne, List.pairwise_map]
    have h2 := hp.filter (fun f => isPre f.f0 s)
    refine List.Pairwise.imp_of_mem (fun {a b} ha hb h => ?_) h2
    intro e
    have h3 := isPre_take (List.mem_filter.1 ha).2
    have h4 := isPre_take (List.mem_filter.1 hb).2
    rw [e] at h3
    exact h (h3.symm.trans h4)
  have := sum_pow s.length _ h1 (fun k hk => by
    obtain ⟨f, hf, rfl⟩ := List.mem_map.1 hk
    obtain ⟨hf1, hf2⟩ := List.mem_filter.1 hf
    exact ⟨hL f hf1, isPre_len hf2⟩)
  omega
/-- A least sum, -1 for none. -/
def lA (c : S37 → Int) (g : List Int → Int) (s : List Int) : List S37 → Int → Int
  | [], a => a
  | f :: fs, a => if isPre f.f0 s = true then (if g (s.drop f.f0.length) < 0 then lA c g s fs a else lA c g s fs (if a < 0 ∨ g (s.drop f.f0.length) + c f < a then g (s.drop f.f0.length) + c f else a)) else lA c g s fs a
def oW (o : OutC) : Int := if o.f0 = 0 then -1 else o.f1
def oF (o : OutC) : Int := if o.f0 = 0 then -1 else o.f2
structure OBd (n : Nat) (o : OutC) : Prop where
  lo : 0 ≤ o.f0
  hi : o.f0 ≤ ((2 ^ n : Nat) : Int)
  w0 : o.f0 ≠ 0 → 0 ≤ o.f1
  w1 : o.f0 ≠ 0 → o.f1 ≤ 9 * (n : Int)
  f0 : o.f0 ≠ 0 → 0 ≤ o.f2
  f1 : o.f0 ≠ 0 → o.f2 ≤ (n : Int)
theorem OBd.oW {n : Nat} {o : OutC} (h : OBd n o) : -1 ≤ Pure.oW o ∧ Pure.oW o ≤ 9 * (n : Int) := by
  unfold Pure.oW
  by_cases hz : o.f0 = 0
  · rw [if_pos hz]; omega
  · rw [if_neg hz]; have := h.w0 hz; have := h.w1 hz; omega
theorem OBd.oF {n : Nat} {o : OutC} (h : OBd n o) : -1 ≤ Pure.oF o ∧ Pure.oF o ≤ (n : Int) := by
  unfold Pure.oF
  by_cases hz : o.f0 = 0
  · rw [if_pos hz]; omega
  · rw [if_neg hz]; have := h.f0 hz; have := h.f1 hz; omega
theorem outW_plain {n m : Nat} {o r : OutC} {f : S37} (hn : n ≤ 23) (hm : m + f.f0.length ≤ n) (hf : 1 ≤ f.f0.length) (hw : 1 ≤ f.f1 ∧ f.f1 ≤ 9) (h1 : OBd n o) (h2 : OBd m r) (hr : r.f0 ≠ 0) (hs : o.f0 + r.f0 ≤ ((2 ^ n : Nat) : Int)) :
    OBd n (outW o f r) ∧ (outW o f r).f0 = o.f0 + r.f0 ∧ oW (outW o f r) = (if oW o < 0 ∨ oW r + f.f1 < oW o then oW r + f.f1 else oW o) ∧ oF (outW o f r) = (if oF o < 0 ∨ oF r + 1 < oF o then oF r + 1 else oF o) := by
  have hp : (2 : Nat) ^ n ≤ 2 ^ 23 := Nat.pow_le_pow_right (by omega) hn
  have hp' : (2 : Nat) ^ 23 = 8388608 := rfl
  obtain ⟨a1, a2, a3, a4, a5, a6⟩ := h1
  obtain ⟨b1, b2, b3, b4, b5, b6⟩ := h2
  have b3 := b3 hr; have b4 := b4 hr; have b5 := b5 hr; have b6 := b6 hr
  have hne : o.f0 + r.f0 ≠ 0 := by omega
  unfold outW
  by_cases h : o.f0 > 0
  · have hz : o.f0 ≠ 0 := by omega
    have a3 := a3 hz; have a4 := a4 hz; have a5 := a5 hz; have a6 := a6 hz
    rw [if_pos h, w64 (x := o.f0 + r.f0) (by omega) (by omega), w64 (x := f.f1 + r.f1) (by omega) (by omega), w64 (x := 1 + r.f2) (by omega) (by omega)]
    have m1 := mn_le (f.f1 + r.f1) o.f1
    have m2 := mn_le (1 + r.f2) o.f2
    refine ⟨⟨by simp only []; omega, hs, fun _ => by simp only []; omega, fun _ => by simp only []; omega, fun _ => by simp only []; omega, fun _ => by simp only []; omega⟩, rfl, ?_, ?_⟩
    · unfold oW
      simp only []
      rw [if_neg hne, if_neg hz, if_neg hr]
      by_cases hc : r.f1 + f.f1 < o.f1
      · rw [if_pos (.inr hc)]; omega
      · rw [if_neg (by omega)]; omega
    · unfold oF
      simp only []
      rw [if_neg hne, if_neg hz, if_neg hr]
      by_cases hc : r.f2 + 1 < o.f2
      · rw [if_pos (.inr hc)]; omega
      · rw [if_neg (by omega)]; omega
  · have hz : o.f0 = 0 := by omega
    rw [if_neg h, w64 (x := o.f0 + r.f0) (by omega) (by omega), w64 (x := f.f1 + r.f1) (by omega) (by omega), w64 (x := 1 + r.f2) (by omega) (by omega)]
    refine ⟨⟨by simp only []; omega, hs, fun _ => by simp only []; omega, fun _ => by simp only []; omega, fun _ => by simp only []; omega, fun _ => by simp only []; omega⟩, rfl, ?_, ?_⟩
    · unfold oW
      simp only []
      rw [if_neg hne, if_pos hz, if_neg hr, if_pos (.inl (by omega))]; omega
    · unfold oF
      simp only []
      rw [if_neg hne, if_pos hz, if_neg hr, if_pos (.inl (by omega))]; omega
theorem rdA_plain {rec : List Int → OutC} {s : List Int} (hs : s.length ≤ 23) (hrec : ∀ k, 1 ≤ k → k ≤ s.length → OBd (s.length - k) (rec (s.drop k))) :
    ∀ (L : List S37) (acc : OutC), (∀ f ∈ L, 1 ≤ f.f0.length ∧ 1 ≤ f.f1 ∧ f.f1 ≤ 9) → OBd s.length acc → acc.f0 + (sumB s L : Int) ≤ ((2 ^ s.length : Nat) : Int) →
      OBd s.length (rdA rec s L acc) ∧ oW (rdA rec s L acc) = lA (fun f => f.f1) (fun t => oW (rec t)) s L (oW acc) ∧ oF (rdA rec s L acc) = lA (fun _ => 1) (fun t => oF (rec t)) s L (oF acc)
  | [], acc, _, h, _ => ⟨h, rfl, rfl⟩
  | f :: fs, acc, hL, h, hb => by
    have hf := hL f (by simp)
    have hL' := fun g hg => hL g (List.mem_cons_of_mem _ hg)
    simp only [rdA, lA, sumB] at hb ⊢
    by_cases hp : isPre f.f0 s = true
    · rw [if_pos hp] at hb
      rw [if_pos hp, if_pos hp, if_pos hp]
      have hl := isPre_len hp
      have hr := hrec f.f0.length hf.1 hl
      generalize rec (s.drop f.f0.length) = r at hr ⊢
      rw [Int.natCast_add] at hb
      have hbr := hr.hi
      by_cases hz : r.f0 = 0
      · have e1 : oW r = -1 := if_pos hz
        have e2 : oF r = -1 := if_pos hz
        rw [if_pos hz, if_pos (by rw [e1]; omega), if_pos (by rw [e2]; omega)]
        have := hr.lo
        exact rdA_plain hs hrec fs acc hL' h (by omega)
      · have e1 : ¬ oW r < 0 := by unfold oW; rw [if_neg hz]; have := hr.w0 hz; omega
        have e2 : ¬ oF r < 0 := by unfold oF; rw [if_neg hz]; have := hr.f0 hz; omega
        rw [if_neg hz, if_neg e1, if_neg e2]
        obtain ⟨o1, o2, o3, o4⟩ := outW_plain (n := s.length) (m := s.length - f.f0.length) (o := acc) (r := r) (f := f) hs (by omega) hf.1 hf.2 h hr hz (by omega)
        rw [← o3, ← o4]
        exact rdA_plain hs hrec fs (outW acc f r) hL' o1 (by rw [o2]; omega)
    · rw [if_neg hp] at hb
      rw [if_neg hp, if_neg hp, if_neg hp]
      exact rdA_plain hs hrec fs acc hL' h (by omega)
/-- What valid formulas are good for. -/
structure FsV (L : List S37) : Prop where
  len : L.length ≤ 8
  one : ∀ f ∈ L, 1 ≤ f.f0.length ∧ f.f0.length ≤ 5
  wt : ∀ f ∈ L, 1 ≤ f.f1 ∧ f.f1 ≤ 9
  pw : L.Pairwise (fun a b => a.f0 ≠ b.f0)
theorem FsV.of {L : List S37} (h : fsOk L = true) : FsV L :=
  ⟨fsOk_len h, fun f hf => fOk_len (fsOk_all h f hf), fun f hf => fOk_weight (fsOk_all h f hf), (goF_pw (acc := []) (by unfold fsOk at h; simp at h; exact h.2)).2⟩
theorem rdO_bd {L : List S37} (hv : FsV L) : ∀ (n : Nat) (s : List Int), s.length = n → n ≤ 23 → OBd n (rdO L s) := by
  intro n
  induction n using Nat.strongRecOn with
  | ind n ih =>
    intro s hs hn
    by_cases hne : s = []
    · subst hne
      simp at hs
      subst hs
      rw [rdO_nil]
      exact ⟨by simp, by simp, by simp, by simp, by simp, by simp⟩
    · rw [rdO_step (fun f hf => (hv.one f hf).1) hne]
      subst hs
      refine (rdA_plain hn (fun k hk hk' => ih (s.length - k) (by omega) _ (by rw [List.length_drop]) (by omega)) L ⟨0, 0, 0⟩ (fun f hf => ⟨(hv.one f hf).1, hv.wt f hf⟩) ⟨by simp, Int.natCast_nonneg _, by simp, by simp, by simp, by simp⟩ ?_).1
      have := sumB_le (s := s) (fun f hf => (hv.one f hf).1) hv.pw
      simp only [Int.zero_add]
      exact_mod_cast this
theorem rdO_least {L : List S37} (hv : FsV L) {s : List Int} (hs : s.length ≤ 23) (hne : s ≠ []) :
    oW (rdO L s) = lA (fun f => f.f1) (fun t => oW (rdO L t)) s L (-1) ∧ oF (rdO L s) = lA (fun _ => 1) (fun t => oF (rdO L t)) s L (-1) := by
  have h := rdA_plain (rec := rdO L) (s := s) hs (fun k hk hk' => rdO_bd hv (s.length - k) _ (by rw [List.length_drop]) (by omega)) L ⟨0, 0, 0⟩ (fun f hf => ⟨(hv.one f hf).1, hv.wt f hf⟩) ⟨by simp, Int.natCast_nonneg _, by simp, by simp, by simp, by simp⟩ (by
    have := sumB_le (s := s) (fun f hf => (hv.one f hf).1) hv.pw
    simp only [Int.zero_add]
    exact_mod_cast this)
  rw [rdO_step (fun f hf => (hv.one f hf).1) hne]
  exact ⟨h.2.1, h.2.2⟩

/-! what a reading builds -/
def goB (l : List S37) : List Int → List Int → List Int × Bool
  | acc, [] => (acc, true)
  | acc, i :: is => if i < 0 ∨ (l.length : Int) ≤ i ∨ acc.length + (rd_T37 l i).f0.length > 23 then ([], false) else goB l (acc ++ (rd_T37 l i).f0) is
def fbuild (l : List S37) (r : List Int) : List Int × Bool := if fsOk l = true then goB l [] r else ([], false)
theorem goB_len (l : List S37) : ∀ r acc, acc.length ≤ 23 → (goB l acc r).1.length ≤ 23
  | [], acc, h => h
  | i :: is, acc, h => by
    simp only [goB]
    split
    · simp
    · exact goB_len l is _ (by rw [List.length_append]; omega)
theorem fbuild_len (l : List S37) (r : List Int) : (fbuild l r).1.length ≤ 23 := by
  unfold fbuild
  split
  · exact goB_len l r [] (by simp)
  · simp
theorem spec_FormulasBuild_ev (l : List S37) (r : List Int) (hll : l.length ≤ 1000000000000) (hl : ∀ x ∈ l, x.f0.length ≤ 1000000000000) (hr : r.length ≤ 1000000000000) : Ev (fun k => spec_FormulasBuild.f k l r) (fbuild l r) := by
  unfold spec_FormulasBuild.f fbuild
  refine Ev.someb (Ev.bind (spec_FormulasValid_ev l hll hl) ?_)
  cases hok : fsOk l
  · exact Ev.neg (by simp) (Ev.eqr (Ev.now _) (by simp))
  refine Ev.pos rfl ?_
  rw [if_pos rfl]
  have h8 := fsOk_len hok
  have := Ev.over (0 : Int) r (fun k (s : List Int) i => spec_FormulasBuild.l0 k l r s i) (fun s rest => goB l s rest) (fun i s => s.length ≤ 23) (by
    intro s _
    refine Ev.succ ?_
    simp only [spec_FormulasBuild.l0, goB]
    exact Ev.neg (by omega) (Ev.now _)) (by
    intro s i rest hs hi _ ih
    refine Ev.succ ?_
    simp only [spec_FormulasBuild.l0, goB]
    rw [w64 (x := (l.length : Int) - 1) (by omega) (by omega)]
    refine Ev.pos (by omega) (Ev.pos (by omega) (Ev.conb (spec_l6In_eq _ _ _) ?_))
    have hrd : rd r (i : Int) = r.getD i 0 := rfl
    rw [hrd]
    generalize r.getD i 0 = n
    by_cases h1 : 0 ≤ n ∧ n ≤ (l.length : Int) - 1
    · rw [decide_eq_true h1]
      have hw := fOk_len (fsOk_all hok _ (rd_mem (k := n) (by omega) (by omega)))
      refine Ev.pos rfl (Ev.pos h1.1 (Ev.pos (by omega) (Ev.pos (by omega) (Ev.someb ?_))))
      by_cases h3 : ((s ++ (rd_T37 l n).f0).length : Int) ≥ 24
      · rw [if_pos (by rw [List.length_append] at h3; omega)]
        exact Ev.pos h3 (Ev.now _)
      · have h3' := h3
        rw [List.length_append] at h3'
        rw [if_neg (by omega), w64 (by omega) (by omega)]
        exact Ev.neg h3 (ih _ (by rw [List.length_append]; omega))
    · rw [decide_eq_false h1, if_pos (by omega)]
      exact Ev.neg (by simp) (Ev.now _)) 0 [] (Nat.zero_le _) (by simp)
  simpa using this

/-! l91Groups, l91At -/
theorem drawAt_ev {s : List Int} (hc : Code s) (p n : Int) (hp : 0 ≤ p) (hp' : p ≤ 1000000) (hn : 0 ≤ n) :
    Evx (fun k => spec_l91At.f k s p n) (fun r => -1 ≤ r.1 ∧ r.1 ≤ n ∧ p ≤ r.2 ∧ r.2 ≤ p + 2) := by
  have tt : ∀ q, 0 ≤ q → q ≤ 2000000 → Evx (fun k => spec_l91At.j0 k n true s q) (fun r => -1 ≤ r.1 ∧ r.1 ≤ n ∧ r.2 = q + 1) := by
    intro q hq hq'
    refine Evx.succ ?_
    simp only [spec_l91At.j0, if_true]
    refine Evx.someb (Evx.bind (pick_ev hc q 2 hq (by omega)) ?_)
    rintro ⟨r, q'⟩ ⟨hr0, hr1, rfl⟩
    have hr0 : 0 ≤ r := hr0
    have hr1 : r < 2 ∨ r = 0 := hr1
    refine Evx.pos hr0 (Evx.pos (by (try simp only [List.length_set, List.length_drop, List.length_take, List.length_append, List.length_cons, List.length_nil, Int.natCast_add, Int.natCast_one, Int.natCast_zero] at *); omega) (Evx.now ?_))
    have : r = 0 ∨ r = 1 := by omega
    rcases this with rfl | rfl
    · exact ⟨by simp [rd], by simp [rd]; omega, rfl⟩
    · exact ⟨by simp [rd]; omega, by simp [rd], rfl⟩
  unfold spec_l91At.f
  refine Evx.ite (fun _ => (tt p hp (by omega)).mono (by rintro ⟨a, q⟩ ⟨h1, h2, h3⟩; exact ⟨h1, h2, (by (try simp only [List.length_set, List.length_drop, List.length_take, List.length_append, List.length_cons, List.length_nil, Int.natCast_add, Int.natCast_one, Int.natCast_zero] at *); omega), (by (try simp only [List.length_set, List.length_drop, List.length_take, List.length_append, List.length_cons, List.length_nil, Int.natCast_add, Int.natCast_one, Int.natCast_zero] at *); omega)⟩)) (fun h0 => ?_)
  refine Evx.bind (pick_ev hc p 20 hp (by omega)) ?_
  rintro ⟨r, q'⟩ ⟨hr0, hr1, rfl⟩
  by_cases e : r = 0
  · subst e
    exact (tt (p + 1) (by omega) (by omega)).mono (by rintro ⟨a, q⟩ ⟨h1, h2, h3⟩; exact ⟨h1, h2, (by (try simp only [List.length_set, List.length_drop, List.length_take, List.length_append, List.length_cons, List.length_nil, Int.natCast_add, Int.natCast_one, Int.natCast_zero] at *); omega), (by (try simp only [List.length_set, List.length_drop, List.length_take, List.length_append, List.length_cons, List.length_nil, Int.natCast_add, Int.natCast_one, Int.natCast_zero] at *); omega)⟩)
  · have e' : (r == 0) = false := by rw [beq_eq_false_iff_ne]; exact e
    simp only [e']
    refine Evx.succ ?_
    simp only [spec_l91At.j0]
    refine Evx.neg (by simp) (Evx.bind (pick_ev hc (p + 1) n (by omega) (by omega)) ?_)
    rintro ⟨u, q'⟩ ⟨hu0, hu1, rfl⟩
    exact Evx.now ⟨(by (try simp only [List.length_set, List.length_drop, List.length_take, List.length_append, List.length_cons, List.length_nil, Int.natCast_add, Int.natCast_one, Int.natCast_zero] at *); omega), (by (try simp only [List.length_set, List.length_drop, List.length_take, List.length_append, List.length_cons, List.length_nil, Int.natCast_add, Int.natCast_one, Int.natCast_zero] at *); omega), (by (try simp only [List.length_set, List.length_drop, List.length_take, List.length_append, List.length_cons, List.length_nil, Int.natCast_add, Int.natCast_one, Int.natCast_zero] at *); omega), (by (try simp only [List.length_set, List.length_drop, List.length_take, List.length_append, List.length_cons, List.length_nil, Int.natCast_add, Int.natCast_one, Int.natCast_zero] at *); omega)⟩

theorem drawReading_loop {s : List Int} (hc : Code s) (n m : Int) (hn : 0 ≤ n) (d : Nat) : ∀ (out : List Int) (i p : Int), 0 ≤ i → m - i = d → m ≤ 5 → (out.length : Int) ≤ i → 0 ≤ p → p + 2 * d ≤ 1000000 →
    Evx (fun k => spec_l92Reading.l0 k n out m i s p) (fun r => r.1.length ≤ 5 ∧ 0 ≤ r.2 ∧ r.2 ≤ p + 2 * d) := by
  induction d with
  | zero =>
    intro out i p h0 h1 h2 h3 h4 h5
    refine Evx.succ ?_
    simp only [spec_l92Reading.l0]
    exact Evx.neg (by omega) (Evx.now ⟨by show out.length ≤ 5; omega, h4, by show p ≤ _; omega⟩)
  | succ d ih =>
    intro out i p h0 h1 h2 h3 h4 h5
    refine Evx.succ ?_
    simp only [spec_l92Reading.l0]
    rw [w64 (x := i + 1) (by omega) (by omega)]
    refine Evx.pos (by omega) (Evx.bind (drawAt_ev hc p n h4 (by omega) hn) ?_)
    rintro ⟨r, q⟩ ⟨hr0, hr1, hq, hq'⟩
    have hq : p ≤ q := hq
    have hq' : q ≤ p + 2 := hq'
    refine Evx.pos (by omega) ?_
    exact (ih (out ++ [r]) (i + 1) q (by omega) (by omega) h2 (by rw [List.length_append, List.length_singleton]; omega) (by omega) (by omega)).mono (fun r h => ⟨h.1, h.2.1, by have := h.2.2; omega⟩)
theorem drawReading_ev {s : List Int} (hc : Code s) (p n : Int) (hn : 0 ≤ n) (hp : 0 ≤ p) (hp' : p ≤ 100000) : Evx (fun k => spec_l92Reading.f k s p n) (fun r => r.1.length ≤ 5 ∧ 0 ≤ r.2 ∧ r.2 ≤ p + 11) := by
  unfold spec_l92Reading.f
  refine Evx.bind (pick_ev hc p 6 hp (by omega)) ?_
  rintro ⟨u, q⟩ ⟨hu0, hu1, rfl⟩
  have hu0 : 0 ≤ u := hu0
  have hu1 : u < 6 ∨ u = 0 := hu1
  obtain ⟨e, he⟩ : ∃ e : Nat, u - 0 = e := ⟨u.toNat, by omega⟩
  exact (drawReading_loop hc n u hn e [] 0 (p + 1) (by omega) he (by omega) (by simp) (by omega) (by omega)).mono (fun r h => ⟨h.1, h.2.1, by have := h.2.2; omega⟩)

theorem drawBuilt_loop {s : List Int} (hc : Code s) (L : List S37) (n : Int) (hn : n ≤ 6) (d : Nat) : ∀ (out : List Int) (i p : Int), 0 ≤ i → n - i = d → (out.length : Int) = i → 0 ≤ p → p + d ≤ 1000000 →
    Evx (fun k => spec_l92Built.l0 k L out n i s p) (fun r => r.1 = L ∧ r.2.1.length ≤ 23) := by
  induction d with
  | zero =>
    intro out i p h0 h1 h2 h3 h4
    refine Evx.succ ?_
    simp only [spec_l92Built.l0]
    refine Evx.neg (by omega) (Evx.ite (fun hn0 => ?_) (fun _ => Evx.now ⟨rfl, by show out.length ≤ 23; omega⟩))
    refine Evx.bind (pick_ev hc p 16 h3 (by omega)) ?_
    rintro ⟨u, q⟩ _
    exact Evx.ite (fun _ => Evx.pos (by omega) (Evx.now ⟨rfl, by show (out.set _ _).length ≤ 23; rw [List.length_set]; omega⟩)) (fun _ => Evx.now ⟨rfl, by show out.length ≤ 23; omega⟩)
  | succ d ih =>
    intro out i p h0 h1 h2 h3 h4
    refine Evx.succ ?_
    simp only [spec_l92Built.l0]
    rw [w64 (x := i + 1) (by omega) (by omega)]
    refine Evx.pos (by omega) (Evx.bind (pick_ev hc p 3 h3 (by omega)) ?_)
    rintro ⟨u, q⟩ ⟨_, _, rfl⟩
    refine Evx.pos (by omega) ?_
    exact ih _ (i + 1) (p + 1) (by omega) (by omega) (by rw [List.length_append, List.length_singleton]; omega) (by omega) (by omega)
theorem drawBuilt_ev {s : List Int} (hc : Code s) : Evx (fun k => spec_l92Built.f k s 0) (fun r => DrF r.1 ∧ r.2.1.length ≤ 23) := by
  unfold spec_l92Built.f
  refine Evx.bind (drawFormulas_ev hc 0 (by omega) (by omega)) ?_
  rintro ⟨L, q⟩ ⟨hD, hq, hq'⟩
  have hD : DrF L := hD
  have hq : 0 ≤ q := hq
  have hq' : q ≤ 0 + 53 := hq'
  refine Evx.bind (drawReading_ev hc q L.length (by omega) hq (by omega)) ?_
  rintro ⟨r, q'⟩ ⟨hr, hr0, hr1⟩
  have hr : r.length ≤ 5 := hr
  have hr0 : 0 ≤ q' := hr0
  have hr1 : q' ≤ q + 11 := hr1
  have hl : ∀ x ∈ L, x.f0.length ≤ 1000000000000 := fun x hx => by have := hD.2 x hx; omega
  refine Evx.bind1 (spec_FormulasBuild_ev L r (by have := hD.1; omega) hl (by omega)) ?_
  have hbl := fbuild_len L r
  have loop : ∀ p, 0 ≤ p → p ≤ 1000 → Evx (fun k => spec_l92Built.j0 k L (fbuild L r).1 false s p) (fun r => DrF r.1 ∧ r.2.1.length ≤ 23) := by
    intro p hp hp'
    refine Evx.succ ?_
    simp only [spec_l92Built.j0]
    refine Evx.neg (by simp) (Evx.bind (pick_ev hc p 7 hp (by omega)) ?_)
    rintro ⟨u, q⟩ ⟨hu0, hu1, rfl⟩
    have hu0 : 0 ≤ u := hu0
    have hu1 : u < 7 ∨ u = 0 := hu1
    obtain ⟨e, he⟩ : ∃ e : Nat, u - 0 = e := ⟨u.toNat, by omega⟩
    exact (drawBuilt_loop hc L u (by omega) e [] 0 (p + 1) (by omega) he (by simp) (by omega) (by omega)).mono (fun r h => ⟨by rw [h.1]; exact hD, h.2⟩)
  refine Evx.ite (fun _ => ?_) (fun _ => loop q' hr0 (by omega))
  refine Evx.bind (pick_ev hc q' 4 hr0 (by omega)) ?_
  rintro ⟨u, q3⟩ ⟨_, _, rfl⟩
  cases h : decide (u > 0)
  · exact loop (q' + 1) (by omega) (by omega)
  · refine Evx.succ ?_
    simp only [spec_l92Built.j0]
    exact Evx.pos trivial (Evx.now ⟨hD, hbl⟩)
theorem drawBuilt_open (l0 : List Int) (hw : ∀ x ∈ l0, (Lit.int .u8 x).wf = true) : Evx (fun k => spec_DrawFormulasMany.f k l0) (fun r => DrF r.1 ∧ r.2.length ≤ 23) := by
  obtain ⟨s, h1, hc⟩ := open_ev l0 hw
  unfold spec_DrawFormulasMany.f
  refine Evx.conb h1 (Evx.bind (drawBuilt_ev hc) ?_)
  rintro ⟨L, S, q⟩ ⟨hD, hq⟩
  exact Evx.now ⟨hD, hq⟩

/-! the reference's counting of readings -/
theorem spec_l6fAt_ev (f : S37) (S : List Int) (i : Nat) (hi : i ≤ S.length) (hS : S.length ≤ 1000000) (hf : f.f0.length ≤ 1000000) : Ev (fun k => spec_l6fAt.f k f.f0 f.f1 S (i : Int)) (isPre f.f0 (S.drop i)) := by
  unfold spec_l6fAt.f isPre
  rw [w64 (by omega) (by omega)]
  by_cases h : (i : Int) + (f.f0.length : Int) ≤ (S.length : Int)
  · rw [decide_eq_true (by rw [List.length_drop]; omega : f.f0.length ≤ (S.drop i).length), Bool.true_and]
    refine Ev.pos h (Ev.pos (by omega) (Ev.pos (by omega) ?_))
    have e : ((S.take ((i : Int) + (f.f0.length : Int)).toNat).drop (i : Int).toNat) = (S.drop i).take f.f0.length := by
      have e1 : ((i : Int) + (f.f0.length : Int)).toNat = i + f.f0.length := by omega
      rw [e1, Int.toNat_natCast, List.drop_take]
      congr 1; omega
    rw [e]
    exact Ev.bind (spec_l2Same_ev _ _ (by rw [List.length_take, List.length_drop]; omega)) (Ev.now _)
  · rw [decide_eq_false (by rw [List.length_drop]; omega : ¬ f.f0.length ≤ (S.drop i).length)]
    exact Ev.neg h (Ev.now _)
theorem spec_l6fSteps_ev (S : List Int) (hS : S.length ≤ 1000000000000) : Ev (fun k => spec_l6fSteps.f k S) (decide (S.length ≤ 23) && S.all (inR (-20) 20)) := by
  unfold spec_l6fSteps.f
  have := Ev.over (0 : Int) S (fun k (_ : Unit) i => spec_l6fSteps.l0 k S i) (fun _ rest => rest.all (inR (-20) 20) && decide (S.length ≤ 23)) (fun _ _ => True) (by
    intro s _
    refine Ev.succ ?_
    simp only [spec_l6fSteps.l0]
    refine Ev.neg (by omega) (Ev.eqr (Ev.now _) ?_)
    simp only [List.all_nil, Bool.true_and]
    rw [Bool.eq_iff_iff]; simp; omega) (by
    intro s i rest _ hi _ ih
    refine Ev.succ ?_
    simp only [spec_l6fSteps.l0, List.all_cons]
    rw [w64 (by omega) (by omega)]
    refine Ev.pos (by omega) (Ev.pos (by omega) (Ev.conb (spec_l6In_eq _ _ _) ?_))
    have hrd : rd S (i : Int) = S.getD i 0 := rfl
    rw [hrd]
    show Ev _ ((decide (-20 ≤ S.getD i 0 ∧ S.getD i 0 ≤ 20) && _) && _)
    by_cases h : -20 ≤ S.getD i 0 ∧ S.getD i 0 ≤ 20
    · rw [decide_eq_true h]
      exact Ev.pos rfl (ih () trivial)
    · rw [decide_eq_false h]
      exact Ev.neg (by simp) (Ev.now _)) 0 () (Nat.zero_le _) trivial
  refine Ev.eqr (by simpa using this) ?_
  rw [Bool.and_comm]
theorem spec_l6fOk_ev (L : List S37) (S : List Int) (hll : L.length ≤ 1000000000000) (hl : ∀ x ∈ L, x.f0.length ≤ 1000000000000) (hS : S.length ≤ 1000000000000) : Ev (fun k => spec_l6fOk.f k L S) (okR L S) := by
  unfold spec_l6fOk.f okR
  refine Ev.bind (spec_FormulasValid_ev L hll hl) ?_
  cases fsOk L
  · exact Ev.neg (by simp) (Ev.now _)
  · refine Ev.pos rfl ?_
    rw [Bool.true_and]
    exact Ev.bind (spec_l6fSteps_ev S hS) (Ev.now _)

theorem getD_set_self {y : List Int} {i : Nat} (v : Int) (h : i < y.length) : (y.set i v).getD i 0 = v := by
  rw [List.getD_eq_getElem?_getD, List.getElem?_set_self h]; rfl
theorem getD_set_other {y : List Int} {i j : Nat} (v : Int) (h : i ≠ j) : (y.set i v).getD j 0 = y.getD j 0 := by
  rw [List.getD_eq_getElem?_getD, List.getElem?_set_ne h, ← List.getD_eq_getElem?_getD]
theorem ext_getD {a b : List Int} (h : a.length = b.length) (h' : ∀ j, j < a.length → a.getD j 0 = b.getD j 0) : a = b := by
  apply List.ext_getElem h
  intro j h1 h2
  have := h' j h1
  rw [List.getD_eq_getElem?_getD, List.getD_eq_getElem?_getD, List.getElem?_eq_getElem h1, List.getElem?_eq_getElem h2] at this
  exact this

def mA (g : List Int → Int) (s : List Int) : List S37 → Int → Int
  | [], a => a
  | f :: fs, a => if isPre f.f0 s = true then mA g s fs (wrap64 (a + g (s.drop f.f0.length))) else mA g s fs a
theorem wrap_range (x : Int) : -9223372036854775808 ≤ wrap64 x ∧ wrap64 x ≤ 9223372036854775807 := by unfold wrap64; omega
theorem outW_f0 (o : OutC) (f : S37) (r : OutC) : (outW o f r).f0 = wrap64 (o.f0 + r.f0) := by unfold outW; split <;> rfl
theorem rdA_many (rec : List Int → OutC) (s : List Int) : ∀ (L : List S37) (acc : OutC), -9223372036854775808 ≤ acc.f0 → acc.f0 ≤ 9223372036854775807 → (rdA rec s L acc).f0 = mA (fun t => (rec t).f0) s L acc.f0
  | [], acc, _, _ => rfl
  | f :: fs, acc, h, h' => by
    simp only [rdA, mA]
    by_cases hp : isPre f.f0 s = true
    · rw [if_pos hp, if_pos hp]
      by_cases hz : (rec (s.drop f.f0.length)).f0 = 0
      · rw [if_pos hz, rdA_many rec s fs acc h h', hz, Int.add_zero, w64 h h']
      · rw [if_neg hz]
        have := wrap_range (acc.f0 + (rec (s.drop f.f0.length)).f0)
        rw [rdA_many rec s fs _ (by rw [outW_f0]; exact this.1) (by rw [outW_f0]; exact this.2), outW_f0]
    · rw [if_neg hp, if_neg hp, rdA_many rec s fs acc h h']
theorem spec_l6fWays_inner {L : List S37} {S : List Int} (hL : ∀ f ∈ L, 1 ≤ f.f0.length ∧ f.f0.length ≤ 5) (hll : L.length ≤ 8) (hS : S.length ≤ 23) (i : Nat) (hi : i < S.length) (R : List Int)
    (W : Nat → Int) (hW : ∀ j, W j = (rdO L (S.drop j)).f0)
    (hnext : ∀ y : List Int, y.length = S.length + 1 → (∀ j, i ≤ j → j ≤ S.length → y.getD j 0 = W j) → (∀ j, j < i → y.getD j 0 = 0) → Ev (fun k => spec_l6fWays.l0 k L S y ((i : Int) - 1)) R)
    (y : List Int) (hy : y.length = S.length + 1) (hy1 : ∀ j, i < j → j ≤ S.length → y.getD j 0 = W j) (hy2 : ∀ j, j ≤ i → y.getD j 0 = 0) :
    Ev (fun k => spec_l6fWays.l1 k L S y (i : Int) 0) R := by
  have hWi : W i = mA (fun t => (rdO L t).f0) (S.drop i) L 0 := by
    rw [hW, rdO_step (fun f hf => (hL f hf).1) (by intro h; have := congrArg List.length h; rw [List.length_drop, List.length_nil] at this; omega)]
    exact rdA_many _ _ L _ (by simp) (by simp)
  have := Ev.over z37 L (fun k (y : List Int) q => spec_l6fWays.l1 k L S y (i : Int) q) (fun _ _ => R) (fun q y => y.length = S.length + 1 ∧ (∀ j, i < j → j ≤ S.length → y.getD j 0 = W j) ∧ (∀ j, j < i → y.getD j 0 = 0) ∧ mA (fun t => (rdO L t).f0) (S.drop i) (L.drop q) (y.getD i 0) = W i) (by
    intro y ⟨h1, h2, h3, h4⟩
    rw [List.drop_length] at h4
    simp only [mA] at h4
    refine Ev.succ ?_
    simp only [spec_l6fWays.l1]
    refine Ev.neg (by omega) ?_
    rw [w64 (by omega) (by omega)]
    exact hnext y h1 (fun j hj hj' => by rcases Nat.lt_or_eq_of_le hj with h | h; exact h2 j h hj'; rw [← h]; exact h4) h3) (by
    intro y q rest ⟨h1, h2, h3, h4⟩ hq hdr ih
    have hm : L.getD q z37 ∈ L := by
      rw [List.getD_eq_getElem?_getD, List.getElem?_eq_getElem hq]; exact List.getElem_mem hq
    have hf := hL _ hm
    have hrest : rest = L.drop (q + 1) := by
      rw [List.drop_eq_getElem_cons hq] at hdr
      exact ((List.cons.inj hdr).2).symm
    rw [hdr] at h4
    simp only [mA] at h4
    refine Ev.succ ?_
    simp only [spec_l6fWays.l1]
    have hrd : rd_T37 L (q : Int) = L.getD q z37 := rfl
    rw [hrd]
    rw [w64 (x := (q : Int) + 1) (by omega) (by omega)]
    generalize L.getD q z37 = f at hf h4
    refine Ev.pos (by omega) (Ev.pos (by omega) (Ev.bind (spec_l6fAt_ev f S i (by omega) (by omega) (by omega)) ?_))
    cases hp : isPre f.f0 (S.drop i)
    · rw [if_neg (by rw [hp]; simp)] at h4
      refine Ev.neg (by simp) (ih y ⟨h1, h2, h3, ?_⟩)
      rw [← hrest]; exact h4
    · rw [if_pos hp] at h4
      have hl := isPre_len hp
      rw [List.length_drop] at hl
      rw [w64 (x := (i : Int) + (f.f0.length : Int)) (by omega) (by omega)]
      refine Ev.pos rfl (Ev.pos (by omega) (Ev.pos (by omega) (Ev.pos (by omega) (Ev.pos (by omega) ?_))))
      have e1 : rd y (i : Int) = y.getD i 0 := rfl
      have e2 : rd y ((i : Int) + (f.f0.length : Int)) = W (i + f.f0.length) := by
        have : ((i : Int) + (f.f0.length : Int)).toNat = i + f.f0.length := by omega
        unfold rd
        rw [this]; exact h2 _ (by omega) (by omega)
      rw [e1, e2, Int.toNat_natCast]
      refine ih _ ⟨by rw [List.length_set]; exact h1, fun j hj hj' => by rw [getD_set_other _ (by omega)]; exact h2 j hj hj', fun j hj => by rw [getD_set_other _ (by omega)]; exact h3 j hj, ?_⟩
      rw [getD_set_self _ (by omega), ← hrest, hW (i + f.f0.length), ← List.drop_drop]
      exact h4) 0 y (Nat.zero_le _) ⟨hy, hy1, fun j hj => hy2 j (by omega), by rw [hy2 i (Nat.le_refl _), List.drop_zero]; exact hWi.symm⟩
  simpa using this
def waysL (L : List S37) (S : List Int) : List Int := (List.range (S.length + 1)).map (fun j => (rdO L (S.drop j)).f0)
theorem waysL_get {L : List S37} {S : List Int} {j : Nat} (h : j ≤ S.length) : (waysL L S).getD j 0 = (rdO L (S.drop j)).f0 := by
  unfold waysL
  rw [List.getD_eq_getElem?_getD, List.getElem?_map, List.getElem?_range (by omega)]; rfl
theorem waysL_len {L : List S37} {S : List Int} : (waysL L S).length = S.length + 1 := by unfold waysL; simp
theorem spec_l6fWays_ev {L : List S37} {S : List Int} (hL : ∀ f ∈ L, 1 ≤ f.f0.length ∧ f.f0.length ≤ 5) (hll : L.length ≤ 8) (hS : S.length ≤ 23) : Ev (fun k => spec_l6fWays.f k L S) (waysL L S) := by
  have key : ∀ m, m ≤ S.length → ∀ y : List Int, y.length = S.length + 1 → (∀ j, m ≤ j → j ≤ S.length → y.getD j 0 = (rdO L (S.drop j)).f0) → (∀ j, j < m → y.getD j 0 = 0) → Ev (fun k => spec_l6fWays.l0 k L S y ((m : Int) - 1)) (waysL L S) := by
    intro m
    induction m with
    | zero =>
      intro _ y h1 h2 _
      refine Ev.succ ?_
      simp only [spec_l6fWays.l0]
      refine Ev.neg (by omega) (Ev.eqr (Ev.now _) ?_)
      refine ext_getD (by rw [h1, waysL_len]) (fun j hj => ?_)
      rw [h2 j (Nat.zero_le _) (by omega), waysL_get (by omega)]
    | succ m ih =>
      intro hm y h1 h2 h3
      refine Ev.succ ?_
      simp only [spec_l6fWays.l0]
      have e : ((m + 1 : Nat) : Int) - 1 = (m : Int) := by omega
      rw [e]
      refine Ev.pos (by omega) ?_
      exact spec_l6fWays_inner hL hll hS m (by omega) _ (fun j => (rdO L (S.drop j)).f0) (fun _ => rfl) (fun y h1 h2 h3 => ih (by omega) y h1 h2 h3) y h1 (fun j hj hj' => h2 j (by omega) hj') (fun j hj => h3 j (by omega))
  unfold spec_l6fWays.f
  rw [w64 (x := (S.length : Int) + 1) (by omega) (by omega), w64 (x := (S.length : Int) - 1) (by omega) (by omega)]
  have e : ((S.length : Int) + 1).toNat = S.length + 1 := by omega
  rw [e]
  refine Ev.pos (by omega) (Ev.pos (by omega) (Ev.someb (Ev.pos (by omega) (Ev.pos (by rw [List.length_replicate]; omega) ?_))))
  rw [Int.toNat_natCast]
  refine key S.length (Nat.le_refl _) _ (by simp) (fun j hj hj' => ?_) (fun j hj => ?_)
  · obtain rfl : j = S.length := by omega
    rw [getD_set_self _ (by simp), List.drop_length, rdO_nil]
  · rw [getD_set_other _ (by omega), List.getD_eq_getElem?_getD, List.getElem?_replicate, if_pos (by omega)]; rfl

theorem spec_FormulasMany_ev (L : List S37) (S : List Int) (hll : L.length ≤ 1000000000000) (hl : ∀ x ∈ L, x.f0.length ≤ 1000000000000) (hS : S.length ≤ 1000000000000) : Ev (fun k => spec_FormulasMany.f k L S) (fMany L S) := by
  unfold spec_FormulasMany.f fMany
  refine Ev.bind (spec_l6fOk_ev L S hll hl hS) ?_
  cases hok : okR L S
  · exact Ev.neg (by simp) (Ev.eqr (Ev.now _) (by simp))
  · refine Ev.pos rfl ?_
    have hf := fun f hf => fOk_len (fsOk_all (okR_of hok).1 f hf)
    refine Ev.bind (spec_l6fWays_ev hf (fsOk_len (okR_of hok).1) (okR_of hok).2) ?_
    refine Ev.pos (by rw [waysL_len]; omega) (Ev.eqr (Ev.now _) ?_)
    rw [if_pos rfl]
    show (waysL L S).getD 0 0 = _
    rw [waysL_get (Nat.zero_le _), List.drop_zero]

/-! the first formulas, by the reference -/
theorem rdC_step {rec : List Int → OutC} {s : List Int} {L : List S37} {q : Nat} (hq : q < L.length) : rdC rec s (q : Int) (L.drop q) = (if isPre (L.getD q z37).f0 s = true then (if (rec (s.drop (L.getD q z37).f0.length)).f0 = 0 then [] else [((q : Int), rec (s.drop (L.getD q z37).f0.length))]) else []) ++ rdC rec s ((q + 1 : Nat) : Int) (L.drop (q + 1)) := by
  have e : L.drop q = L.getD q z37 :: L.drop (q + 1) := by
    rw [List.drop_eq_getElem_cons hq, List.getD_eq_getElem?_getD, List.getElem?_eq_getElem hq]; rfl
  rw [e]
  simp only [rdC]
  have e2 : ((q : Int) + 1) = ((q + 1 : Nat) : Int) := by omega
  rw [e2]
  split
  · split <;> simp
  · simp

end Go.Proofs.Ytkmganbgnjphfaa.Pure
