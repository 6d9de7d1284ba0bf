/- Lemmas on the printed functions for the law FnReadClear. -/
import Derived.Test.YtnemcppllfmioaaGFnReadClearg16
import Derived.Test.YtnemcppllfmioaaGFnReadClearg3
import Derived.Test.YtnemcppllfmioaaGFnReadClearg17
import Derived.Test.YtnemcppllfmioaaGFnReadClearg18
import Derived.Test.YtnemcppllfmioaaGFnReadClearg2
import Derived.Test.YtnemcppllfmioaaGFnReadClearg19
import Derived.Test.YtnemcppllfmioaaGFnReadClearg22
import Derived.Test.YtnemcppllfmioaaQFnReadClearq0
import Derived.Test.YtnemcppllfmioaaQFnReadClearq1
import Derived.Deep.RegionHeld3
import Derived.BigRegion
import Derived.Deep.Slices
import Derived.Laws.CopyOwn
namespace Go.Proofs.Ytnemcppllfmioaa.Pure
set_option linter.unusedVariables false
set_option linter.unusedSimpArgs false
open Go Go.RowKit Go.Proofs.Ytnemcppllfmioaa.PFnReadClear Go.Proofs.YtnemcppllfmioaaW.PrintWords Go.Proofs.YtnemcppllfmioaaW.PrintLast Go.Proofs.YtnemcppllfmioaaW.PrintMore

/-! how much formulas hold -/
def isz : List S55 → Int
  | [] => 0
  | x :: xs => (x.f0.length : Int) + isz xs
def FormulaSz (l : List S55) : Int := (l.length : Int) + isz l
theorem isz_nn : ∀ l, 0 ≤ isz l
  | [] => by simp [isz]
  | x :: xs => by have := isz_nn xs; simp only [isz]; omega
theorem isz_get {l : List S55} {x : S55} (h : x ∈ l) : (x.f0.length : Int) ≤ isz l := by
  induction l with
  | nil => simp at h
  | cons y ys ih =>
    have := isz_nn ys
    simp only [isz]
    rcases List.mem_cons.1 h with rfl | h
    · omega
    · have := ih h; omega
theorem FormulaSz_len (l : List S55) : (l.length : Int) ≤ FormulaSz l := by have := isz_nn l; unfold FormulaSz; omega
theorem FormulaSz_nn (l : List S55) : 0 ≤ FormulaSz l := by have := FormulaSz_len l; omega
theorem FormulaSz_get {l : List S55} {x : S55} (h : x ∈ l) : (x.f0.length : Int) ≤ FormulaSz l := by have := isz_get h; unfold FormulaSz; omega
theorem FormulaSz_cons (x : S55) (xs : List S55) : FormulaSz (x :: xs) = 1 + (x.f0.length : Int) + FormulaSz xs := by
  unfold FormulaSz; simp only [isz, List.length_cons]; omega
theorem FormulaSz_app : ∀ a b, FormulaSz (a ++ b) = FormulaSz a + FormulaSz b
  | [], b => by simp [FormulaSz, isz]
  | x :: xs, b => by
    rw [List.cons_append, FormulaSz_cons, FormulaSz_cons, FormulaSz_app xs b]; omega

/-! pick: a number from 0 to n-1 -/
structure Code (s : List Int) : Prop where
  b : ∀ x ∈ s, 0 ≤ x ∧ x ≤ 255
  l : s.length ≤ 2000
theorem open_ev (l0 : List Int) (hw : ∀ x ∈ l0, (Lit.int .u8 x).wf = true) : ∃ s, spec_l6Open.f l0 = some (s, 0) ∧ Code s := by
  have hb : ∀ x ∈ l0, 0 ≤ x ∧ x ≤ 255 := by
    intro x hx
    have := hw x hx
    have e1 : IntKind.u8.min = 0 := by decide
    have e2 : IntKind.u8.max = 255 := by decide
    simp only [Lit.wf, e1, e2] at this
    simpa using this
  unfold spec_l6Open.f
  by_cases h : (l0.length : Int) > 2000
  · refine ⟨l0.take 2000, by rw [if_pos h, if_pos (by omega)], ⟨fun x hx => hb x (List.mem_of_mem_take hx), by rw [List.length_take]; omega⟩⟩
  · exact ⟨l0, by rw [if_neg h], ⟨hb, by omega⟩⟩
theorem pick_ev {s : List Int} (hc : Code s) (p n : Int) (hp : 0 ≤ p) (hp' : p ≤ 1000000000) :
    Evx (fun k => spec_l6Rd_pick.f k s p n) (fun r => 0 ≤ r.1 ∧ (r.1 < n ∨ r.1 = 0) ∧ r.2 = p + 1) := by
  have hw : wrap64 (p + 1) = p + 1 := w64 (by omega) (by omega)
  have hw' : wrap64 (p + 1 - 1) = p := by rw [w64 (by omega) (by omega)]; omega
  have hl := hc.l
  unfold spec_l6Rd_pick.f
  rw [hw]
  by_cases hn : n < 1
  · refine Evx.pos hn (Evx.succ ?_)
    simp only [spec_l6Rd_pick.j0, if_true]
    exact Evx.now ⟨by simp, by simp, rfl⟩
  · refine Evx.neg hn (Evx.succ ?_)
    have tm : ∀ x : Int, 0 ≤ x → 0 ≤ Int.tmod x n ∧ Int.tmod x n < n := fun x hx => ⟨Int.tmod_nonneg n hx, Int.tmod_lt_of_pos x (by omega)⟩
    by_cases h0 : s.length = 0
    · have e : ((s.length : Int) == 0) = true := by simp [h0]
      simp only [spec_l6Rd_pick.j0, e, if_true]
      exact Evx.now ⟨by simp, by simp, rfl⟩
    · have e : ((s.length : Int) == 0) = false := by rw [beq_eq_false_iff_ne]; omega
      simp only [spec_l6Rd_pick.j0, e, hw']
      refine Evx.neg (by simp) ?_
      by_cases hlt : p < (s.length : Int)
      · refine Evx.pos hlt (Evx.pos hp (Evx.neg (by omega) (Evx.now ?_)))
        have hb := rd_bd hc.b p
        rw [w64 (x := rd s p) (by omega) (by omega)]
        have := tm (rd s p) hb.1
        exact ⟨this.1, .inl this.2, rfl⟩
      · refine Evx.neg hlt (Evx.neg (by omega) ?_)
        have t1 : 0 ≤ Int.tmod p s.length := Int.tmod_nonneg _ hp
        have t1' : Int.tmod p s.length < s.length := Int.tmod_lt_of_pos p (by omega)
        rw [w64 (x := p * 7) (by omega) (by omega), w64 (x := p * 7 + 3) (by omega) (by omega)]
        have t2 : 0 ≤ Int.tmod (p * 7 + 3) s.length := Int.tmod_nonneg _ (by omega)
        have t2' : Int.tmod (p * 7 + 3) s.length < s.length := Int.tmod_lt_of_pos _ (by omega)
        refine Evx.pos t1 (Evx.pos t1' (Evx.pos t2 (Evx.pos t2' (Evx.neg (by omega) (Evx.now ?_)))))
        have hb1 := rd_bd hc.b (Int.tmod p s.length)
        have hb2 := rd_bd hc.b (Int.tmod (p * 7 + 3) s.length)
        have hd : 0 ≤ Int.tdiv p s.length ∧ Int.tdiv p s.length ≤ p := by
          rw [Int.tdiv_eq_ediv_of_nonneg hp]
          exact ⟨Int.ediv_nonneg hp (by omega), Int.ediv_le_self _ hp⟩
        generalize rd s (Int.tmod p s.length) = a at *
        generalize rd s (Int.tmod (p * 7 + 3) s.length) = b at *
        generalize Int.tdiv p s.length = c at *
        obtain ⟨X, hX, hX0, hX1⟩ : ∃ X : Int, wrap64 (wrap64 (wrap64 (wrap64 (wrap64 a * 131) + wrap64 (wrap64 b * 1117)) + wrap64 (p * 29)) + wrap64 (wrap64 c * 53)) = X ∧ 0 ≤ X ∧ X < 1000000000000 := by
          refine ⟨a * 131 + b * 1117 + p * 29 + c * 53, ?_, by omega, by omega⟩
          rw [w64 (x := a) (by omega) (by omega), w64 (x := b) (by omega) (by omega), w64 (x := c) (by omega) (by omega), w64 (x := a * 131) (by omega) (by omega), w64 (x := b * 1117) (by omega) (by omega), w64 (x := p * 29) (by omega) (by omega), w64 (x := c * 53) (by omega) (by omega), w64 (x := a * 131 + b * 1117) (by omega) (by omega), w64 (x := a * 131 + b * 1117 + p * 29) (by omega) (by omega), w64 (by omega) (by omega)]
        rw [hX]
        have hq : 0 ≤ Int.tdiv X 64 ∧ Int.tdiv X 64 ≤ X := by
          rw [Int.tdiv_eq_ediv_of_nonneg hX0]; omega
        rw [w64 (x := Int.tdiv X 64) (by omega) (by omega)]
        have := tm _ (xor_bd X (Int.tdiv X 64) hX0 (by omega) hq.1 (by omega))
        exact ⟨this.1, .inl this.2, rfl⟩

theorem spec_l2Same_ev (a b : List Int) (hl : a.length ≤ 1000000000000) : Ev (fun k => spec_l2Same.f k a b) (a == b) := by
  unfold spec_l2Same.f
  by_cases hlen : (a.length : Int) = (b.length : Int)
  · refine Ev.pos hlen ?_
    have := Ev.over (0 : Int) a (fun k (_ : Unit) i => spec_l2Same.l0 k a b i) (fun _ rest => rest == b.drop (a.length - rest.length)) (fun _ _ => True) (by
      intro s _
      refine Ev.succ ?_
      simp only [spec_l2Same.l0]
      refine Ev.eqr (Ev.neg (by omega) (Ev.now _)) ?_
      have : b.drop a.length = [] := List.drop_eq_nil_of_le (by omega)
      simp [this]) (by
      intro s i rest _ hi hdr ih
      have hrl : rest.length + 1 + i = a.length := by
        have := congrArg List.length hdr
        simp at this; omega
      refine Ev.succ ?_
      simp only [spec_l2Same.l0]
      rw [w64 (by omega) (by omega)]
      refine Ev.pos (by omega) (Ev.pos (by omega) (Ev.pos (by omega) ?_))
      have hra : rd a (i : Int) = a.getD i 0 := rfl
      have hrb : rd b (i : Int) = b.getD i 0 := rfl
      rw [hra, hrb]
      have e2 : a.length - (a.getD i 0 :: rest).length = i := by simp; omega
      have e1 : a.length - rest.length = i + 1 := by omega
      have e3 : b.drop i = b.getD i 0 :: b.drop (i + 1) := by
        rw [List.drop_eq_getElem_cons (by omega), List.getD_eq_getElem?_getD, List.getElem?_eq_getElem (by omega)]; rfl
      rw [e2, e3]
      have ih := ih () trivial
      rw [e1] at ih
      by_cases h : a.getD i 0 = b.getD i 0
      · refine Ev.pos h (Ev.eqr ih ?_)
        rw [h, Bool.eq_iff_iff]; simp
      · refine Ev.neg h (Ev.eqr (Ev.now _) ?_)
        symm; rw [beq_eq_false_iff_ne]; intro hc; exact h (List.cons.inj hc).1) 0 () (Nat.zero_le _) trivial
    simpa using this
  · refine Ev.neg hlen (Ev.eqr (Ev.now _) ?_)
    symm; rw [beq_eq_false_iff_ne]; rintro rfl; exact hlen rfl

/-! drawn formulas -/
def DrF (l : List S55) : Prop := l.length ≤ 7 ∧ ∀ x ∈ l, x.f0.length ≤ 3
theorem l92_two {s : List Int} {Q : List S55 × Int → Prop} (out : List S55) (n i p w : Int) (fs : List Int) (ho : ∀ x ∈ out, x.f0.length ≤ 3) (hol : out.length ≤ 100)
    (hk : Evx (fun k => spec_l92Formulas.l0 k out n (wrap64 (i + 1)) s p) Q) (hk' : Evx (fun k => spec_l92Formulas.l0 k (out ++ [⟨fs, w⟩]) n (wrap64 (i + 1)) s p) Q) (d : Nat) :
    ∀ (x9 : Bool) (j : Nat), j + d = out.length → Evx (fun k => spec_l92Formulas.l2 k out n i x9 (j : Int) s p fs w) Q := by
  induction d with
  | zero =>
    intro x9 j hj
    refine Evx.succ ?_
    simp only [spec_l92Formulas.l2]
    refine Evx.neg (by omega) ?_
    cases x9
    · exact Evx.neg (by simp) hk
    · exact Evx.pos rfl (Evx.pos (by omega) hk')
  | succ d ih =>
    intro x9 j hj
    refine Evx.succ ?_
    simp only [spec_l92Formulas.l2]
    rw [w64 (x := (j : Int) + 1) (by omega) (by omega)]
    have e : ((j : Int) + 1) = ((j + 1 : Nat) : Int) := by omega
    rw [e]
    refine Evx.pos (by omega) ?_
    cases x9
    · exact Evx.neg (by simp) (ih false (j + 1) (by omega))
    · refine Evx.pos rfl (Evx.pos (by omega) (Evx.bind1 (spec_l2Same_ev _ fs ?_) (ih _ (j + 1) (by omega))))
      have := ho _ (rd_mem (l := out) (k := (j : Int)) (by omega) (by omega))
      omega
theorem l92_one {s : List Int} (hc : Code s) {Q : List S55 × Int → Prop} (out : List S55) (n i x7 w : Int) (P : Int) (hP : P ≤ 1000000000)
    (hk : ∀ (fs : List Int) (p : Int), fs.length ≤ 3 → 0 ≤ p → p ≤ P → Evx (fun k => spec_l92Formulas.l2 k out n i true 0 s p fs w) Q) (d : Nat) :
    ∀ (x8 p : Int) (fs : List Int), 0 ≤ x8 → x7 - x8 = d → x7 ≤ 3 → fs.length + d ≤ 3 → 0 ≤ p → p + d ≤ P → Evx (fun k => spec_l92Formulas.l1 k out n i x7 x8 s p fs w) Q := by
  induction d with
  | zero =>
    intro x8 p fs h0 h1 h2 h3 h4 h5
    refine Evx.succ ?_
    simp only [spec_l92Formulas.l1]
    exact Evx.neg (by omega) (hk fs p (by omega) h4 (by omega))
  | succ d ih =>
    intro x8 p fs h0 h1 h2 h3 h4 h5
    refine Evx.succ ?_
    simp only [spec_l92Formulas.l1]
    rw [w64 (x := x8 + 1) (by omega) (by omega)]
    refine Evx.pos (by omega) (Evx.bind (pick_ev hc p 3 h4 (by omega)) ?_)
    rintro ⟨r, q⟩ ⟨hr0, hr1, rfl⟩
    exact Evx.pos (by omega) (ih (x8 + 1) (p + 1) _ (by omega) (by omega) h2 (by rw [List.length_append, List.length_singleton]; omega) (by omega) (by omega))
theorem DrF.set {l : List S55} (h : DrF l) (j : Nat) {x : S55} (hx : x.f0.length ≤ 3) : DrF (l.set j x) := by
  refine ⟨by rw [List.length_set]; exact h.1, fun y hy => ?_⟩
  rcases List.mem_or_eq_of_mem_set hy with hy | rfl
  · exact h.2 y hy
  · exact hx
theorem drawFormulas_loop {s : List Int} (hc : Code s) (n : Int) (hn : n ≤ 5) (d : Nat) : ∀ (out : List S55) (i p : Int), 0 ≤ i → n - i = d → (out.length : Int) ≤ i → (1 ≤ i → 1 ≤ out.length) → 1 ≤ n → (∀ x ∈ out, x.f0.length ≤ 3) → 0 ≤ p → p + 10 * d ≤ 1000000 →
    Evx (fun k => spec_l92Formulas.l0 k out n i s p) (fun r => DrF r.1 ∧ 0 ≤ r.2 ∧ r.2 ≤ p + 10 * d + 2) := by
  induction d with
  | zero =>
    intro out i p h0 h1 h2 h3 h4 h5 h6 h7
    have hne := h3 (by omega)
    have hD : DrF out := ⟨by omega, h5⟩
    have hz : (rd_T55 out 0).f0.length ≤ 3 := h5 _ (rd_mem (k := 0) (by omega) (by omega))
    refine Evx.succ ?_
    simp only [spec_l92Formulas.l0]
    refine Evx.neg (by omega) (Evx.bind (pick_ev hc p 40 h6 (by omega)) ?_)
    rintro ⟨r, q⟩ ⟨hr0, hr1, rfl⟩
    refine Evx.ite (fun _ => ?_) (fun _ => Evx.ite (fun _ => ?_) (fun _ => Evx.ite (fun _ => ?_) (fun _ => Evx.ite (fun _ => ?_) (fun _ => ?_))))
    · refine Evx.someb (Evx.bind (pick_ev hc (p + 1) 2 (by omega) (by omega)) ?_)
      rintro ⟨u, q⟩ ⟨hu0, hu1, rfl⟩
      have hu0 : 0 ≤ u := hu0
      have hu1 : u < 2 ∨ u = 0 := hu1
      exact Evx.pos hu0 (Evx.pos (by simp; omega) (Evx.pos (by omega) (Evx.now ⟨hD.set _ hz, by show 0 ≤ p + 1 + 1; omega, by show p + 1 + 1 ≤ _; omega⟩)))
    · refine Evx.pos (by omega) (Evx.pos (by omega) (Evx.now ⟨⟨by rw [List.length_append, List.length_singleton]; omega, fun x hx => ?_⟩, by show 0 ≤ p + 1; omega, by show p + 1 ≤ _; omega⟩))
      rcases List.mem_append.1 hx with hx | hx
      · exact h5 x hx
      · rw [List.mem_singleton.1 hx]; exact hz
    · exact Evx.pos (by omega) (Evx.now ⟨hD.set _ (by simp), by show 0 ≤ p + 1; omega, by show p + 1 ≤ _; omega⟩)
    · exact Evx.now ⟨⟨by simp, by simp⟩, by show 0 ≤ p + 1; omega, by show p + 1 ≤ _; omega⟩
    · exact Evx.now ⟨hD, by show 0 ≤ p + 1; omega, by show p + 1 ≤ _; omega⟩
  | succ d ih =>
    intro out i p h0 h1 h2 h3 h4 h5 h6 h7
    refine Evx.succ ?_
    simp only [spec_l92Formulas.l0]
    refine Evx.pos (by omega) (Evx.bind (pick_ev hc p 5 h6 (by omega)) ?_)
    rintro ⟨u, q⟩ ⟨hu0, hu1, rfl⟩
    refine Evx.bind (pick_ev hc (p + 1) 3 (by omega) (by omega)) ?_
    rintro ⟨v, q⟩ ⟨hv0, hv1, rfl⟩
    have hv0 : 0 ≤ v := hv0
    have hv1 : v < 3 ∨ v = 0 := hv1
    rw [w64 (x := 1 + v) (by omega) (by omega)]
    have nxt : ∀ out' : List S55, (out'.length : Int) ≤ i + 1 → 1 ≤ out'.length → (∀ x ∈ out', x.f0.length ≤ 3) → ∀ q, 0 ≤ q → q ≤ p + 6 → Evx (fun k => spec_l92Formulas.l0 k out' n (wrap64 (i + 1)) s q) (fun r => DrF r.1 ∧ 0 ≤ r.2 ∧ r.2 ≤ p + 10 * ((d + 1 : Nat) : Int) + 2) := by
      intro out' a1 a2 a3 q a4 a5
      rw [w64 (x := i + 1) (by omega) (by omega)]
      exact (ih out' (i + 1) q (by omega) (by omega) a1 (fun _ => a2) h4 a3 a4 (by omega)).mono (fun r h => ⟨h.1, h.2.1, by have := h.2.2; omega⟩)
    obtain ⟨e, he⟩ : ∃ e : Nat, (1 + v) - 0 = e := ⟨(1 + v).toNat, by omega⟩
    refine l92_one hc out n i (1 + v) _ (p + 6) (by omega) (fun fs q hf hq hq' => ?_) e 0 (p + 1 + 1) [] (by omega) he (by omega) (by simp; omega) (by omega) (by omega)
    by_cases hz : out = []
    · subst hz
      refine Evx.succ ?_
      simp only [spec_l92Formulas.l2]
      refine Evx.neg (by simp) (Evx.pos trivial (Evx.pos (by simp) (nxt _ (by simp; omega) (by simp) (by simpa using hf) q hq hq')))
    · have hlz : 1 ≤ out.length := List.length_pos_iff.2 hz
      refine l92_two out n i q _ fs h5 (by omega) (nxt out (by omega) hlz h5 q hq hq') (nxt _ (by rw [List.length_append, List.length_singleton]; omega) (by rw [List.length_append, List.length_singleton]; omega) (fun x hx => ?_) q hq hq') out.length true 0 (by omega)
      rcases List.mem_append.1 hx with hx | hx
      · exact h5 x hx
      · rw [List.mem_singleton.1 hx]; exact hf
theorem drawFormulas_ev {s : List Int} (hc : Code s) (p : Int) (hp : 0 ≤ p) (hp' : p ≤ 10000) : Evx (fun k => spec_l92Formulas.f k s p) (fun r => DrF r.1 ∧ 0 ≤ r.2 ∧ r.2 ≤ p + 53) := by
  unfold spec_l92Formulas.f
  refine Evx.bind (pick_ev hc p 5 hp (by omega)) ?_
  rintro ⟨u, q⟩ ⟨hu0, hu1, rfl⟩
  have hu0 : 0 ≤ u := hu0
  have hu1 : u < 5 ∨ u = 0 := hu1
  rw [w64 (x := 1 + u) (by omega) (by omega)]
  obtain ⟨e, he⟩ : ∃ e : Nat, (1 + u) - 0 = e := ⟨(1 + u).toNat, by omega⟩
  exact (drawFormulas_loop hc (1 + u) (by omega) e [] 0 (p + 1) (by omega) he (by simp) (by omega) (by omega) (by simp) (by omega) (by omega)).mono (fun r h => ⟨h.1, h.2.1, by have := h.2.2; omega⟩)

theorem spec_l6fOne_ev (x : S55) (hl : x.f0.length ≤ 1000000000000) : Ev (fun k => spec_l6fOne.f k x.f0 x.f1) (fOk x) := by
  unfold spec_l6fOne.f
  have := Ev.over (0 : Int) x.f0 (fun k (_ : Unit) i => spec_l6fOne.l0 k i x.f0 x.f1) (fun _ rest => rest.all (inR (-7) 7) && (decide (1 ≤ (x.f0.length : Int) ∧ (x.f0.length : Int) ≤ 5) && decide (1 ≤ x.f1 ∧ x.f1 ≤ 9))) (fun _ _ => True) (by
    intro s _
    refine Ev.succ ?_
    simp only [spec_l6fOne.l0, List.all_nil, Bool.true_and]
    refine Ev.neg (by omega) (Ev.conb (spec_l6In_eq _ _ _) ?_)
    by_cases h : 1 ≤ (x.f0.length : Int) ∧ (x.f0.length : Int) ≤ 5
    · rw [decide_eq_true h]
      exact Ev.pos rfl (Ev.conb (spec_l6In_eq _ _ _) (Ev.now _))
    · rw [decide_eq_false h]
      exact Ev.neg (by simp) (Ev.now _)) (by
    intro s i rest _ hi _ ih
    refine Ev.succ ?_
    simp only [spec_l6fOne.l0, List.all_cons]
    rw [w64 (by omega) (by omega)]
    refine Ev.pos (by omega) (Ev.pos (by omega) (Ev.conb (spec_l6In_eq _ _ _) ?_))
    have hrd : rd x.f0 (i : Int) = x.f0.getD i 0 := rfl
    rw [hrd]
    show Ev _ ((decide (-7 ≤ x.f0.getD i 0 ∧ x.f0.getD i 0 ≤ 7) && _) && _)
    by_cases h : -7 ≤ x.f0.getD i 0 ∧ x.f0.getD i 0 ≤ 7
    · rw [decide_eq_true h]
      exact Ev.pos rfl (ih () trivial)
    · rw [decide_eq_false h]
      exact Ev.neg (by simp) (Ev.now _)) 0 () (Nat.zero_le _) trivial
  refine Ev.eqr (by simpa using this) ?_
  unfold fOk
  cases x.f0.all (inR (-7) 7) <;> simp
theorem spec_FormulasValid_ev (l : List S55) (hll : l.length ≤ 1000000000000) (hl : ∀ x ∈ l, x.f0.length ≤ 1000000000000) : Ev (fun k => spec_FormulasValid.f k l) (fsOk l) := by
  unfold spec_FormulasValid.f
  have := Ev.over z55 l (fun k (_ : Unit) i => spec_FormulasValid.l0 k l i) (fun _ rest => goF (l.take (l.length - rest.length)) rest && decide ((l.length : Int) ≤ 8)) (fun _ _ => True) (by
    intro s _
    refine Ev.succ ?_
    simp only [spec_FormulasValid.l0, goF, Bool.true_and]
    exact Ev.neg (by omega) (Ev.now _)) (by
    intro s i rest _ hi hdr ih
    have hrl : rest.length + 1 + i = l.length := by
      have := congrArg List.length hdr
      simp at this; omega
    have hm : l.getD i z55 ∈ l := by
      rw [List.getD_eq_getElem?_getD, List.getElem?_eq_getElem hi]; exact List.getElem_mem hi
    have hx := hl _ hm
    refine Ev.succ ?_
    simp only [spec_FormulasValid.l0]
    refine Ev.pos (by omega) (Ev.pos (by omega) ?_)
    have hrd : rd_T55 l (i : Int) = l.getD i z55 := rfl
    have e2 : l.length - (l.getD i z55 :: rest).length = i := by simp; omega
    have e1 : l.length - rest.length = i + 1 := by omega
    have ih := ih () trivial
    rw [e1, take_rd l i hi] at ih
    rw [e2]
    rw [← hrd] at hx ih ⊢
    simp only [goF]
    refine Ev.bind (spec_l6fOne_ev _ hx) ?_
    cases hf : fOk (rd_T55 l (i : Int))
    · exact Ev.neg (by simp) (Ev.now _)
    refine Ev.pos rfl ?_
    simp only [Bool.true_and]
    have htl : (l.take i).length = i := by simp; omega
    have inner := Ev.over z55 (l.take i) (fun k (_ : Unit) j => spec_FormulasValid.l1 k l i j) (fun _ rest' => (!(rest'.any (fun y => y.f0 == (rd_T55 l (i : Int)).f0)) && goF (l.take i ++ [rd_T55 l (i : Int)]) rest) && decide ((l.length : Int) ≤ 8)) (fun _ _ => True) (by
      intro s _
      refine Ev.succ ?_
      simp only [spec_FormulasValid.l1]
      refine Ev.neg (by omega) ?_
      rw [w64 (by omega) (by omega)]
      simpa using ih) (by
      intro s j rest' _ hj _ ih'
      have hjm : (l.take i).getD j z55 ∈ l := by
        rw [List.getD_eq_getElem?_getD, List.getElem?_eq_getElem hj]; exact List.mem_of_mem_take (List.getElem_mem hj)
      have hxj := hl _ hjm
      refine Ev.succ ?_
      simp only [spec_FormulasValid.l1]
      refine Ev.pos (by omega) (Ev.pos (by omega) (Ev.pos (by omega) (Ev.pos (by omega) (Ev.pos (by omega) ?_))))
      have hrd' : rd_T55 l (j : Int) = (l.take i).getD j z55 := by
        rw [List.getD_eq_getElem?_getD, List.getElem?_take, if_pos (by omega)]
        simp [rd_T55]
      rw [hrd']
      generalize (l.take i).getD j z55 = y at hxj
      refine Ev.bind (spec_l2Same_ev _ _ hx) ?_
      simp only [List.any_cons]
      have hcm : (y.f0 == (rd_T55 l (i : Int)).f0) = ((rd_T55 l (i : Int)).f0 == y.f0) := by rw [Bool.eq_iff_iff, beq_iff_eq, beq_iff_eq]; exact eq_comm
      rw [hcm]
      cases (rd_T55 l (i : Int)).f0 == y.f0
      · refine Ev.neg (by simp) ?_
        rw [w64 (by omega) (by omega)]
        simpa using ih' () trivial
      · exact Ev.pos rfl (Ev.now _)) 0 () (Nat.zero_le _) trivial
    simpa using inner) 0 () (Nat.zero_le _) trivial
  refine Ev.eqr (by simpa using this) ?_
  unfold fsOk
  rw [Bool.and_comm]

/-! all formulas but one -/
def fwo (l : List S55) (k : Int) : List S55 × Bool := if fsOk l = true ∧ 0 ≤ k ∧ k < (l.length : Int) then (l.eraseIdx k.toNat, true) else ([], false)
theorem erase_same (l : List S55) (i k : Nat) (h : i ≤ k) : (l.take i).eraseIdx k = l.take i := List.eraseIdx_of_length_le (by rw [List.length_take]; omega)
theorem erase_step {l : List S55} {i : Nat} (hi : i < l.length) (k : Nat) (h : i ≠ k) : (l.take (i + 1)).eraseIdx k = (l.take i).eraseIdx k ++ [l.getD i z55] := by
  rw [take_rd l i hi]
  by_cases hk : i < k
  · rw [erase_same l i k (by omega), List.eraseIdx_of_length_le (by rw [List.length_append, List.length_take]; simp; omega)]
  · rw [List.eraseIdx_append_of_lt_length (by rw [List.length_take]; omega)]
theorem erase_skip {l : List S55} {k : Nat} (hk : k < l.length) : (l.take (k + 1)).eraseIdx k = (l.take k).eraseIdx k := by
  rw [take_rd l k hk, erase_same l k k (Nat.le_refl _), List.eraseIdx_append_of_length_le (by rw [List.length_take]; omega)]
  have : k - (l.take k).length = 0 := by rw [List.length_take]; omega
  rw [this]; simp
theorem isz_app : ∀ a b, isz (a ++ b) = isz a + isz b
  | [], b => by simp [isz]
  | x :: xs, b => by simp only [List.cons_append, isz]; rw [isz_app xs b]; omega
theorem fwo_sz (l : List S55) (k : Int) : FormulaSz (fwo l k).1 ≤ FormulaSz l := by
  unfold fwo
  split
  · rename_i h
    show FormulaSz (l.eraseIdx k.toNat) ≤ FormulaSz l
    rw [List.eraseIdx_eq_take_drop_succ]
    have hlt : k.toNat < l.length := by omega
    have e : l = l.take k.toNat ++ (l[k.toNat] :: l.drop (k.toNat + 1)) := by rw [← List.drop_eq_getElem_cons hlt, List.take_append_drop]
    have e1 := congrArg FormulaSz e
    rw [FormulaSz_app, FormulaSz_cons] at e1
    rw [FormulaSz_app]; omega
  · have := FormulaSz_nn l
    simp [FormulaSz, isz] at this ⊢; omega

/-! copy into a row of one's own, whole -/
theorem ones_of {α : Type} {d : Kd α} {W : World} {base : Nat} {okp : Nat → Prop} {ys : List α} {news : List Value} (hs0 : 0 < d.sz) (hnM : Reps (d.M W base okp) d.sz ys news) : ∀ u ∈ news, u.oneCell' = true := by
  intro u hu
  obtain ⟨q, hq, rfl⟩ := List.mem_iff_getElem.1 hu
  have hql : q / d.sz < ys.length := by
    rw [Nat.div_lt_iff_lt_mul hs0]
    have := hnM.1
    omega
  have hc := hnM.2 (q / d.sz) _ (List.getElem?_eq_getElem hql)
  refine d.K_one (d.K_of_M hc) _ ?_
  rw [List.mem_iff_getElem?]
  exact ⟨q % d.sz, by rw [List.getElem?_take, if_pos (Nat.mod_lt _ hs0), List.getElem?_drop, Nat.mul_comm, Nat.div_add_mod, List.getElem?_eq_getElem hq]⟩
theorem R_copy_all {P : Program} {ops : Array Oper} {o : Oper} {rest : List Oper} {a : Act} {Q : Exit → Act → World → Prop} {α : Type} (d : Kd α) {w0 W : World} (base : Nat) (hgd : o.guard = none) (s x : Operand) (t e : TypeId)
    (ho : o.op = .call { callee := .builtin .copy, args := #[s, x], argTypes := #[t, t] }) (ht : P.underlying t = some (.slice e)) (hsz : (P.info? e).map (·.size) = some d.sz) (hs0 : 0 < d.sz)
    (v : Value) (zs xs : List α) (hl : zs.length = xs.length) (A : Option Addr) (c : Nat) (hv : a.eval s = v) (hx : a.eval x = .slice A xs.length c)
    (HO : d.R e W base (fun _ => True) v zs) (HR : d.C W A xs.length xs) (hKM : ∀ p cs, d.K W p cs → d.M W base (fun _ => False) p cs) (HB : Below base w0 W)
    (h : ∀ w1, d.R e w1 base (fun _ => True) v xs → Below base w0 w1 → wpList P ops Q rest (a.put o.dst (goInt xs.length)) w1) : wpList P ops Q (o :: rest) a W := by
  obtain ⟨i, hi, hisz⟩ := Option.map_eq_some_iff.1 hsz
  have hrun : ∃ w1, (Builtin.copy_ #[t, t] o.type #[v, .slice A xs.length c]).run P W = .ok (goInt xs.length) w1 ∧ d.R e w1 base (fun _ => True) v xs ∧ Below base w0 w1 := by
    obtain ⟨hok, inner, hown, hr⟩ := HO
    by_cases h0 : xs.length = 0
    · obtain rfl : xs = [] := List.eq_nil_of_length_eq_zero h0
      obtain rfl : zs = [] := List.eq_nil_of_length_eq_zero (by simpa using hl)
      have hl0 : ∀ (y : Addr), (loadCells y 0).run P W = .ok #[] W := fun y => by simpa using run_loadCells_list (P := P) W y [] (by simp)
      refine ⟨W, ?_, ⟨hok, inner, hown, hr⟩, HB⟩
      rcases hown.2 with ⟨rfl, _⟩ | ⟨g, cap, cur, rfl, _⟩ <;> cases A <;> simp [Builtin.copy_, run_underlying ht, Builtin.lenOf, Builtin.firstCells, sizeOf, typeInfo, hi, storeCells, hl0]
    · obtain ⟨ad, rfl, hcc⟩ := HR.2.2 (by omega)
      obtain ⟨news, hnr, hnc⟩ := ReadsRow.inner_ HR
      have hnM : Reps (d.M W base (fun _ => False)) d.sz xs news := hnr.imp_ (fun p c hp => hKM p c hp)
      have hone := ones_of hs0 hnM
      rcases hown.2 with ⟨rfl, hz⟩ | ⟨g, cap, cur, rfl, hg, hh, hncap, hcm, hcs, htk⟩
      · omega
      · have hfit : news.length ≤ cur.size := by
          rw [hnM.1, hcs, ← hl]
          exact Nat.mul_le_mul_right _ hncap
        have hst := run_storeCells_at P g 0 e news 0 cur W hh (by omega) hone
        have hld := run_loadCells_list (P := P) W ad news hnc
        have hnl : news.length = xs.length * d.sz := hnM.1
        refine ⟨W.setRow g (cur.toList.take 0 ++ news ++ cur.toList.drop (0 + 0 + news.length)).toArray, ?_, ⟨fun _ _ => trivial, news, ?_, ?_⟩, below_setRow HB hg _⟩
        · rw [hnl] at hld
          simp [Builtin.copy_, run_underlying ht, Builtin.lenOf, Builtin.firstCells, sizeOf, typeInfo, hi, hisz, hl, hld, hst]
        · refine ⟨hnl, .inr ⟨g, cap, _, by rw [hl], hg, setRow_heap W g cur _ e _ hh, by omega, hcm, ?_, ?_⟩⟩
          · simp only [List.take_zero, List.nil_append, List.size_toArray, List.length_append, List.length_drop, Array.length_toList]
            omega
          · simp only [List.take_zero, List.nil_append]
            rw [← hnl, List.take_append_of_le_length (Nat.le_refl _), List.take_length]
        · exact hnM.imp_ (fun p c hp => d.M_mono (fun k hk => hk.elim) (d.M_move (fun k hk => hk.elim) hp))
  obtain ⟨w1, hr1, h1, hb1⟩ := hrun
  refine wpList_plain hgd fun K hK => ?_
  unfold Oper.wp execOp
  simp only [ho, resolve, invoke, builtin, Sem.run_bind, Sem.run_pure, Result.andThen_ok, List.map_toArray, List.map_cons, List.map_nil, hv, hx, hr1]
  exact hK _ _ (h w1 h1 hb1)

theorem cell_grown' {W w1 : World} {row : Option Nat} {a : Addr} {v : Value} (hc : W.cell? a = some v) (hg : W.grownBy w1 row) (hne : some a.block ≠ row) : w1.cell? a = some v :=
  cell_kept hc (Kept.of_grown (S := fun k => some k = row) hg (Kept.refl _ _) (fun k hk => .inl hk.symm)) hne
set_option maxHeartbeats 4000000 in
set_option maxRecDepth 100000 in
theorem impl_copiedNumbers_calls (m : List Int) (A0 : Option Addr) (c0 : Nat) (w : World) (hr0 : Kd.C (Kd.int .i64) w A0 m.length m) (hc0 : m.length ≤ c0) (hm : m.length ≤ 1000000000000) :
    Calls Try.prog 76 #[.slice A0 m.length c0] w fun e w' => ∃ v, e = .returned v ∧ Kd.R (Kd.int .i64) 3 w' w.heap.size (fun _ => True) v m ∧ Below w.heap.size w w' := by
  have HR0 := Aside0.mk hr0
  have HC0 := Aside0.mk hc0
  clear hr0 hc0
  have hinf : (Try.prog.info? 3).map (fun i => (i.zero, i.size, i.bytes)) = some (some (.int .i64 0), 1, 8) := by kernel_rfl
  go_enter Try.func76, Try.ntmps76
  go_wp2_with (first
    | ((with_reducible refine gate_dst (N := 6) rfl ?_); refine Kd.R_make (Kd.int .i64) _ 3 rfl (N := 6) rfl 46 _ _ rfl (m.length : Int) rfl rfl Try.underlying46 (.int .i64 0) 8 hinf rfl (by decide) (by omega) (0 : Int) (ok := fun _ => True) (okp := fun _ => True) rfl (fun _ hk => hk) trivial (by omega) (by omega) (Below.refl _ _) (Nat.le_refl _) ?_; intro v1 w1 ho1 hb1 hg1 _)
    | ((with_reducible refine gate_builtin (b := .copy) (xs := #[.tmp 7, .tmp 8]) rfl ?_); go_loud (refine R_copy_all (Kd.int .i64) w.heap.size rfl (.tmp 7) (.tmp 8) 46 3 rfl Try.underlying46 (by have h := congrArg (Option.map (fun x => x.2.1)) hinf; rw [Option.map_map] at h; exact h) (by decide) v1 (List.replicate (m.length : Int).toNat 0) m (by simp) A0 c0 rfl rfl ho1 (Kd.C_below HR0.out hb1) (fun p c h => h) hb1 ?_); intro w2 ho2 hb2))
  go_ret
  exact ⟨_, rfl, ho2, hb2⟩
set_option maxHeartbeats 8000000 in
set_option maxRecDepth 100000 in
theorem impl_FormulasWithout_calls (l : List S55) (k : Int) (A0 : Option Addr) (c0 : Nat) (w : World) (hr0 : Kd.C k55 w A0 l.length l) (hc0 : l.length ≤ c0) (hl : FormulaSz l ≤ 1000000000000) :
    Calls Try.prog 25 #[.slice A0 l.length c0, .int .i64 k] w fun e w' => ∃ v, e = .returned (.tuple #[v, .bool (fwo l k).2]) ∧ Kd.S k55 55 w' w.heap.size (fun _ => True) v (fwo l k).1 ∧ Below w.heap.size w w' := by
  obtain ⟨kk, hv⟩ := Ev.rounds (impl_FormulasValid_ev l (fun x hx => by have := FormulaSz_get hx; omega))
  have HR0 := Aside0.mk hr0
  have HC0 := Aside0.mk hc0
  have HV := Aside0.mk hv
  clear hr0 hc0 hv
  cases hok : fsOk l
  · have hgj : fwo l k = ([], false) := by unfold fwo; rw [if_neg (fun h => by rw [hok] at h; exact absurd h.1 (by simp))]
    rw [hgj]
    rw [hok] at HV
    clear hgj hok
    go_enter Try.func25, Try.ntmps25
    go_wp2_with (go_at_call 71; refine (impl_FormulasValid.calls kk _ _ l false _ HR0.out HC0.out HV.out).mono ?_; rintro e w1 ⟨rfl, hb1⟩)
    go_ret2
    exact ⟨_, rfl, Kd.S_nil _ _ _ _ _, hb1⟩
  rw [hok] at HV
  by_cases h0 : k < 0
  · have hgj : fwo l k = ([], false) := by unfold fwo; rw [if_neg (fun h => by omega)]
    rw [hgj]
    have d1 : decide (k < 0) = true := decide_eq_true h0
    clear hgj h0
    go_enter Try.func25, Try.ntmps25
    go_wp2_with (go_at_call 71; refine (impl_FormulasValid.calls kk _ _ l true _ HR0.out HC0.out HV.out).mono ?_; rintro e w1 ⟨rfl, hb1⟩)
    go_ret2
    exact ⟨_, rfl, Kd.S_nil _ _ _ _ _, hb1⟩
  have d1 : decide (k < 0) = false := decide_eq_false h0
  by_cases h1 : (l.length : Int) ≤ k
  · have hgj : fwo l k = ([], false) := by unfold fwo; rw [if_neg (fun h => by omega)]
    rw [hgj]
    have d2 : decide ((l.length : Int) ≤ k) = true := decide_eq_true h1
    clear hgj h0 h1
    go_enter Try.func25, Try.ntmps25
    go_wp2_with (go_at_call 71; refine (impl_FormulasValid.calls kk _ _ l true _ HR0.out HC0.out HV.out).mono ?_; rintro e w1 ⟨rfl, hb1⟩)
    go_ret2
    exact ⟨_, rfl, Kd.S_nil _ _ _ _ _, hb1⟩
  have d2 : decide ((l.length : Int) ≤ k) = false := decide_eq_false h1
  have hgj : fwo l k = (l.eraseIdx k.toNat, true) := by unfold fwo; rw [if_pos ⟨hok, by omega, by omega⟩]
  rw [hgj]
  have h8 := fsOk_len hok
  have HOK := Aside0.mk hok
  have K2 := Aside0.mk (show 0 ≤ k ∧ k < (l.length : Int) from ⟨by omega, by omega⟩)
  clear hgj hok h0 h1
  go_enter Try.func25, Try.ntmps25
  go_wp2_with (first
    | (go_at_call 71; refine (impl_FormulasValid.calls kk _ _ l true _ HR0.out HC0.out HV.out).mono ?_; rintro e w1 ⟨rfl, hb1⟩)
    | ((with_reducible refine gate_dst (N := 22) rfl ?_); refine Kd.S_lit k55 _ 55 ?hg (N := 22) ?hd (xs := ([] : List S55)) (inner := []) (ok := fun _ => True) (okp := fun _ => True) ?hr (Reps.none _ _) (fun _ hk => hk) trivial (Below.refl _ _) (Nat.le_refl _) (by simp) ?_; (case hd => rfl); (case hg => rfl); (case hr => first | (go_simp; done) | (go_simp; rfl)); intro v2 w2 ho2 hb2 _ _; replace hb2 := below_step hb1 hb2; replace ho2 := Kd.S_lower ho2 hb1.size; have HO := Aside0.mk ho2; have HB := Aside0.mk hb2; clear ho2 hb2))
  go_loopg [6, 25] l.length (fun kq v6 v25 w' => ∃ (i : Nat) (J : List S55), v25 = .int .i64 (i : Int) ∧ Aside0 (kq = l.length - i ∧ i ≤ l.length ∧ J = (l.take i).eraseIdx k.toNat) ∧ Aside0 (Kd.S k55 55 w' w.heap.size (fun _ => True) v6 J) ∧ Aside0 (Below w.heap.size w w'))
  case atStart => exact ⟨0, [], rfl, ⟨by simp⟩, ⟨by (with_reducible repeat (first | apply Kd.S_alloc | apply Kd.S_drewN | apply Kd.S_drew)); exact HO.out⟩, ⟨by repeat (first | (with_reducible first | exact HB.out | apply below_alloc | apply pw_below_drewN | apply below_drew1) | exact HB.out)⟩⟩
  case round =>
    clear HO HB
    obtain ⟨i, J, rfl, HX, HO, HB⟩ := hrel
    obtain ⟨hkq, hil, hJ⟩ := HX.out
    by_cases hi : (i : Int) < (l.length : Int)
    · have dd : decide ((i : Int) < (l.length : Int)) = true := decide_eq_true hi
      have p0 : (0 : Int) ≤ (i : Int) := by omega
      obtain ⟨ad, A2, c2, e1, ux0, ux1, hc2, hr2⟩ := at_T55 HR0.out (i : Int) p0 hi
      subst e1
      have bX := (fOk_len (fsOk_all HOK.out _ (rd_mem (k := (i : Int)) p0 hi))).2
      have bi : i ≤ 1000000000000 := by omega
      have hJl : J.length ≤ 8 := by rw [hJ]; exact Nat.le_trans (List.length_eraseIdx_le _ _) (by rw [List.length_take]; omega)
      obtain ⟨X, hX⟩ : ∃ X, X = rd_T55 l (i : Int) := ⟨_, rfl⟩
      rw [← hX] at ux0 ux1 hc2 hr2 bX
      have hnx : Aside0 ((¬ (i : Int) = k → J ++ [⟨X.f0, X.f1⟩] = (l.take (i + 1)).eraseIdx k.toNat) ∧ ((i : Int) = k → J = (l.take (i + 1)).eraseIdx k.toNat)) := by
        have hK := K2.out
        refine ⟨fun h => ?_, fun h => ?_⟩
        · rw [erase_step (by omega) _ (by omega), hJ, hX]; rfl
        · have : k.toNat = i := by omega
          rw [hJ, this, erase_skip (by omega)]
      have HR2 := Aside0.mk hr2
      have HC2 := Aside0.mk hc2
      have hx0 := (HB.out.cell (World.block_lt_of_cell? w _ ux0)).trans ux0
      have hx1 := (HB.out.cell (World.block_lt_of_cell? w _ ux1)).trans ux1
      simp only [Int.toNat_natCast] at hx0 hx1
      have hin := eq_true hi
      have hip := eq_true p0
      have NX : Aside0 (l.length - (i + 1) < gk ∧ i + 1 ≤ l.length) := ⟨by omega, by omega⟩
      clear hJ hr2 hc2 hX ux0 ux1
      by_cases hik : (i : Int) = k
      · have db : ((i : Int) != k) = false := bne_eq_false_iff_eq.mpr hik
        have HNX := Aside0.mk (hnx.out.2 hik)
        clear hik hnx
        go_wp2_with ((with_reducible refine gate_dst (N := 8) rfl ?_); refine box_event ?hg (N := 8) ?hd (cs := #[.slice none 0 0, .int .i64 0]) (t := 55) ?hr ?_; (case hd => rfl); (case hg => rfl); (case hr => first | (go_simp; done) | (go_simp; rfl)); intro gb hg w3 hbox hb3; have HO3 := Aside0.mk (Kd.S_below (Kd.S_elderB HO.out gb (by rw [hg]; first | exact Nat.le_refl _ | simp)) hb3); have HB3 := Aside0.mk (below_step HB.out hb3); have GW := Aside0.mk (show w.heap.size ≤ gb from (by rw [hg]; exact HB.out.size)); have hcz0 : w3.cell? ⟨gb, 0, none⟩ = some (.slice none 0 0) := (blk_cell hbox 0).trans rfl; have hcz1 : w3.cell? ⟨gb, 1, none⟩ = some (.int .i64 0) := (blk_cell hbox 1).trans rfl; have hfz0 := blk_frozen hbox 0; have hfz1 := blk_frozen hbox 1; clear hg)
        go_roundg (l.length - (i + 1))
        case measure => exact NX.out.1
        case rel => exact ⟨i + 1, J, by simp, ⟨rfl, NX.out.2, HNX.out⟩, ⟨Kd.S_mono (Kd.S_far (p := ⟨gb, 1, none⟩) (Kd.S_far (p := ⟨gb, 0, none⟩) HO3.out (fun _ hk => hk.2) _) (fun _ hk => hk.2) _) (fun _ _ => trivial)⟩, ⟨below_set (below_set HB3.out GW.out) GW.out⟩⟩
      · have db : ((i : Int) != k) = true := bne_iff_ne.mpr hik
        have HNX := Aside0.mk (hnx.out.1 hik)
        clear hik hnx
        go_upto_region 8 with ((with_reducible refine gate_dst (N := 8) rfl ?_); refine box_event ?hg (N := 8) ?hd (cs := #[.slice none 0 0, .int .i64 0]) (t := 55) ?hr ?_; (case hd => rfl); (case hg => rfl); (case hr => first | (go_simp; done) | (go_simp; rfl)); intro gb hg w3 hbox hb3; have HO3 := Aside0.mk (Kd.S_below (Kd.S_elderB HO.out gb (by rw [hg]; first | exact Nat.le_refl _ | simp)) hb3); have HB3 := Aside0.mk (below_step HB.out hb3); have GW := Aside0.mk (show w.heap.size ≤ gb from (by rw [hg]; exact HB.out.size)); have HBX := Aside0.mk hbox; have hcz0 : w3.cell? ⟨gb, 0, none⟩ = some (.slice none 0 0) := (blk_cell hbox 0).trans rfl; have hcz1 : w3.cell? ⟨gb, 1, none⟩ = some (.int .i64 0) := (blk_cell hbox 1).trans rfl; have hfz0 := blk_frozen hbox 0; have hfz1 := blk_frozen hbox 1; clear hg hbox)
        have HBK : Aside0 (((w3.setCell ⟨gb, 0, none⟩ (.slice A2 X.f0.length c2)).setCell ⟨gb, 1, none⟩ (.int .i64 X.f1)).heap[gb]? = some (.cells #[.slice A2 X.f0.length c2, .int .i64 X.f1] 55 (0, 0))) := ⟨blk_put (cs := #[.slice A2 X.f0.length c2, .int .i64 0]) (blk_put (cs := #[.slice none 0 0, .int .i64 0]) HBX.out 0 _ rfl) 1 _ rfl⟩
        have HO9 : Aside0 (Kd.S k55 55 ((w3.setCell ⟨gb, 0, none⟩ (.slice A2 X.f0.length c2)).setCell ⟨gb, 1, none⟩ (.int .i64 X.f1)) w.heap.size (fun _ => True) u6 J) := ⟨Kd.S_mono (Kd.S_far (p := ⟨gb, 1, none⟩) (Kd.S_far (p := ⟨gb, 0, none⟩) HO3.out (fun _ hk => hk.2) _) (fun _ hk => hk.2) _) (fun _ _ => trivial)⟩
        have HNE : some gb ≠ u6.ownBlock := fun he => (Kd.S_R HO3.out).1 gb he.symm |>.2 rfl
        have HB9 : Aside0 (Below w.heap.size w ((w3.setCell ⟨gb, 0, none⟩ (.slice A2 X.f0.length c2)).setCell ⟨gb, 1, none⟩ (.int .i64 X.f1))) := ⟨below_set (below_set HB3.out GW.out) GW.out⟩
        clear HO3 HB3 GW HBX hcz0 hcz1 hfz0 hfz1 hx0 hx1
        generalize ((w3.setCell ⟨gb, 0, none⟩ (.slice A2 X.f0.length c2)).setCell ⟨gb, 1, none⟩ (.int .i64 X.f1)) = w9 at HBK HO9 HB9 ⊢
        have hc0 : w9.cell? ⟨gb, 0, none⟩ = some (.slice A2 X.f0.length c2) := (blk_cell HBK.out 0).trans rfl
        have hc1 : w9.cell? ⟨gb, 1, none⟩ = some (.int .i64 X.f1) := (blk_cell HBK.out 1).trans rfl
        replace HO9 := Aside0.mk (Kd.S_drew HO9.out)
        replace HB9 := Aside0.mk (below_drew1 HB9.out)
        have hc0' : w9.drew.cell? ⟨gb, 0, none⟩ = some (.slice A2 X.f0.length c2) := hc0
        have hc1' : w9.drew.cell? ⟨gb, 1, none⟩ = some (.int .i64 X.f1) := hc1
        go_region_held3 (fun w' => w'.cell? ⟨gb, 0, none⟩ = some (.slice A2 X.f0.length c2) ∧ w'.cell? ⟨gb, 1, none⟩ = some (.int .i64 X.f1))
          (first
            | go_keep
            | (go_split_ands; exact ⟨pw_cell_below hb4 hc0', pw_cell_below hb4 hc1'⟩)
            | (go_split_ands; exact ⟨cell_grown' (pw_cell_below hb4 hc0') hg5 HNE, cell_grown' (pw_cell_below hb4 hc1') hg5 HNE⟩)
            | fail)
          (first
            | (go_at_call 76; refine (impl_copiedNumbers_calls X.f0 _ _ w9.drew (Kd.C_below HR2.out HB9.out) HC2.out (by omega)).mono ?_; rintro e w4 ⟨v4, rfl, ho4, hb4⟩; obtain ⟨A4, c4, rfl⟩ := Kd.R_slice ho4)
            | (refine Kd.S_append_step k55 (w0 := w) (W := w4) w.heap.size (by rfl) (.tmp 33) (.tmp 40) 38 55 (.agg #[(.slice none 0 0), (.int .i64 0)]) 32 (by rfl) Try.underlying38 info55 rfl (by decide) (by omega) _ J ⟨X.f0, X.f1⟩ [.slice A4 X.f0.length c4, .int .i64 X.f1] (fun _ => True) (fun k => w9.drew.heap.size ≤ k) (by rfl) (by rfl) (k55_mkM _ _ _ ⟨X.f0, X.f1⟩ (Kd.R_mono (Kd.R_lower (Kd.R_bound ho4) HB9.out.size) (fun _ hk => hk.2.1))) (fun k hk => ⟨trivial, fun he => absurd (Kd.S_lt HO9.out k he.symm) (by omega)⟩) (fun _ _ => trivial) (Kd.S_mono (Kd.S_old HO9.out hb4) (fun k hk => ⟨trivial, by have := hk.2; omega⟩)) (below_step HB9.out hb4) (Nat.le_trans HB9.out.size hb4.size) (by omega) ?_; intro v5 w5 ho5 hb5 hg5 _)
            | fail)
        go_wp2
        go_roundg (l.length - (i + 1))
        case measure => exact NX.out.1
        case rel => exact ⟨i + 1, _, by simp, ⟨rfl, NX.out.2, HNX.out⟩, ⟨ho5⟩, ⟨hb5⟩⟩
    · have dd : decide ((i : Int) < (l.length : Int)) = false := decide_eq_false hi
      obtain rfl : i = l.length := by omega
      rw [List.take_length] at hJ
      subst hJ
      go_wp2
      go_ret2
      exact ⟨_, rfl, HO.out, HB.out⟩

end Go.Proofs.Ytnemcppllfmioaa.Pure
