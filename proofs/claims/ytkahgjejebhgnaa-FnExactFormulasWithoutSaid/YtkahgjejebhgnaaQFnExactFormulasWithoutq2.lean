/- Lemmas on the printed functions for the law FnExactFormulasWithout. -/
import Derived.Test.YtkahgjejebhgnaaQFnExactFormulasWithoutq0
import Derived.Test.YtkahgjejebhgnaaQFnExactFormulasWithoutq1
import Derived.Deep.RegionHeld3
import Derived.BigRegion
import Derived.Deep.Slices
import Derived.Laws.CopyOwn
namespace Go.Proofs.Ytkahgjejebhgnaa.Pure
set_option linter.unusedVariables false
set_option linter.unusedSimpArgs false
open Go Go.RowKit Go.Proofs.Ytkahgjejebhgnaa.PFnExactFormulasWithout Go.Proofs.YtkahgjejebhgnaaW.PrintWords Go.Proofs.YtkahgjejebhgnaaW.PrintLast Go.Proofs.YtkahgjejebhgnaaW.PrintMore

/-! the reference's tones and melodies: valid -/
theorem spec_l6In_eq (a b c : Int) : spec_l6In.f a b c = some (decide (b ≤ a ∧ a ≤ c)) := by
  unfold spec_l6In.f
  by_cases h : a ≥ b
  · rw [if_pos h]; simp [show b ≤ a from h]
  · rw [if_neg h]; simp [show ¬ b ≤ a from h]

theorem Ev.upto {ρ σ : Type} (L : Nat → σ → Int → Option ρ) (S : Nat → σ) (n : Nat) (r : ρ) (hend : Ev (fun k => L k (S n) (n : Int)) r)
    (hstep : ∀ i < n, Ev (fun k => L k (S (i + 1)) ((i : Int) + 1)) r → Ev (fun k => L k (S i) (i : Int)) r) : ∀ i ≤ n, Ev (fun k => L k (S i) (i : Int)) r := by
  intro i hi
  obtain ⟨d, hd⟩ : ∃ d, d = n - i := ⟨_, rfl⟩
  induction d generalizing i with
  | zero => obtain rfl : i = n := by omega
            exact hend
  | succ d ih =>
    have := ih (i + 1) (by omega) (by omega)
    refine hstep i (by omega) ?_
    simpa using this

/-! formulas -/
def inR (a b n : Int) : Bool := decide (a ≤ n ∧ n ≤ b)
def fOk (x : S85) : Bool := decide (1 ≤ (x.f0.length : Int) ∧ (x.f0.length : Int) ≤ 5) && (x.f0.all (inR (-7) 7) && decide (1 ≤ x.f1 ∧ x.f1 ≤ 9))
def goF : List S85 → List S85 → Bool
  | _, [] => true
  | acc, x :: xs => fOk x && (!(acc.any (fun y => y.f0 == x.f0)) && goF (acc ++ [x]) xs)
def fsOk (l : List S85) : Bool := decide ((l.length : Int) ≤ 8) && goF [] l
theorem goF_all : ∀ {l acc : List S85}, goF acc l = true → ∀ x ∈ l, fOk x = true
  | [], _, _, x, h => by simp at h
  | y :: ys, acc, h, x, hx => by
    simp only [goF, Bool.and_eq_true] at h
    rcases List.mem_cons.1 hx with rfl | hx
    · exact h.1
    · exact goF_all h.2.2 x hx
theorem fsOk_len {l : List S85} (h : fsOk l = true) : l.length ≤ 8 := by
  unfold fsOk at h; simp at h; have := h.1; omega
theorem fsOk_all {l : List S85} (h : fsOk l = true) : ∀ x ∈ l, fOk x = true := by
  unfold fsOk at h; simp at h; exact goF_all h.2
theorem fOk_len {x : S85} (h : fOk x = true) : 1 ≤ x.f0.length ∧ x.f0.length ≤ 5 := by
  unfold fOk at h; simp at h; omega
theorem fOk_weight {x : S85} (h : fOk x = true) : 1 ≤ x.f1 ∧ x.f1 ≤ 9 := by
  unfold fOk at h; simp at h; omega
theorem rd_mem {l : List S85} {k : Int} (h0 : 0 ≤ k) (h1 : k < l.length) : rd_T85 l k ∈ l := by
  have hlt : k.toNat < l.length := by omega
  unfold rd_T85
  rw [List.getD_eq_getElem?_getD, List.getElem?_eq_getElem hlt]
  exact List.getElem_mem hlt
theorem take_rd (l : List S85) (i : Nat) (hi : i < l.length) : l.take (i + 1) = l.take i ++ [l.getD i z85] := by
  rw [List.take_succ_eq_append_getElem hi, List.getD_eq_getElem?_getD, List.getElem?_eq_getElem hi]; rfl

theorem impl_allWithin_ev (l : List Int) (hl : l.length ≤ 1000000000000) (b : Int) (hb : 0 ≤ b) (hb' : b ≤ 1000) : Ev (fun k => impl_allWithin.f k l b) (l.all (inR (-b) b)) := by
  unfold impl_allWithin.f
  have := Ev.over (0 : Int) l (fun k (_ : Unit) i => impl_allWithin.l0 k b l l.length i) (fun _ rest => rest.all (inR (-b) b)) (fun _ _ => True) (by
    intro s _
    refine Ev.succ ?_
    simp only [impl_allWithin.l0]
    exact Ev.neg (by omega) (Ev.now _)) (by
    intro s i rest _ hi _ ih
    refine Ev.succ ?_
    simp only [impl_allWithin.l0]
    rw [w64 (x := -b) (by omega) (by omega), w64 (by omega) (by omega)]
    refine Ev.pos (by omega) (Ev.pos (by omega) (Ev.pos (by omega) ?_))
    have hrd : rd l (i : Int) = l.getD i 0 := rfl
    rw [hrd]
    generalize l.getD i 0 = n
    simp only [List.all_cons]
    by_cases h1 : n < -b
    · have e : inR (-b) b n = false := decide_eq_false (by omega)
      rw [e]; exact Ev.pos h1 (Ev.now _)
    · refine Ev.neg h1 ?_
      by_cases h2 : n > b
      · have e : inR (-b) b n = false := decide_eq_false (by omega)
        rw [e]; exact Ev.pos h2 (Ev.now _)
      · have e : inR (-b) b n = true := decide_eq_true (by omega)
        rw [e]
        exact Ev.neg h2 (ih () trivial)) 0 () (Nat.zero_le _) trivial
  simpa using this
theorem impl_equalNumbers_ev (a b : List Int) (hl : a.length ≤ 1000000000000) : Ev (fun k => impl_equalNumbers.f k a b) (a == b) := by
  unfold impl_equalNumbers.f
  by_cases hlen : (a.length : Int) = (b.length : Int)
  · refine Ev.pos hlen ?_
    have := Ev.over (0 : Int) a (fun k (_ : Unit) i => impl_equalNumbers.l0 k b a a.length i) (fun _ rest => rest == b.drop (a.length - rest.length)) (fun _ _ => True) (by
      intro s _
      refine Ev.succ ?_
      simp only [impl_equalNumbers.l0]
      refine Ev.eqr (Ev.neg (by omega) (Ev.now _)) ?_
      have : b.drop a.length = [] := List.drop_eq_nil_of_le (by omega)
      simp [this]) (by
      intro s i rest _ hi hdr ih
      have hrl : rest.length + 1 + i = a.length := by
        have := congrArg List.length hdr
        simp at this; omega
      refine Ev.succ ?_
      simp only [impl_equalNumbers.l0]
      rw [w64 (by omega) (by omega)]
      refine Ev.pos (by omega) (Ev.pos (by omega) (Ev.pos (by omega) (Ev.pos (by omega) ?_)))
      have hra : rd a (i : Int) = a.getD i 0 := rfl
      have hrb : rd b (i : Int) = b.getD i 0 := rfl
      rw [hra, hrb]
      have e2 : a.length - (a.getD i 0 :: rest).length = i := by simp; omega
      have e1 : a.length - rest.length = i + 1 := by omega
      have e3 : b.drop i = b.getD i 0 :: b.drop (i + 1) := by
        rw [List.drop_eq_getElem_cons (by omega), List.getD_eq_getElem?_getD, List.getElem?_eq_getElem (by omega)]; rfl
      rw [e2, e3]
      have ih := ih () trivial
      rw [e1] at ih
      by_cases h : a.getD i 0 = b.getD i 0
      · refine Ev.pos h (Ev.eqr ih ?_)
        rw [h, Bool.eq_iff_iff]; simp
      · refine Ev.neg h (Ev.eqr (Ev.now _) ?_)
        symm; rw [beq_eq_false_iff_ne]; intro hc; exact h (List.cons.inj hc).1) 0 () (Nat.zero_le _) trivial
    simpa using this
  · refine Ev.neg hlen (Ev.eqr (Ev.now _) ?_)
    symm; rw [beq_eq_false_iff_ne]; rintro rfl; exact hlen rfl
theorem impl_Formula_valid_ev (x : S85) (hl : x.f0.length ≤ 1000000000000) : Ev (fun k => impl_Formula_valid.f k x.f0 x.f1) (fOk x) := by
  unfold impl_Formula_valid.f fOk
  by_cases h1 : (x.f0.length : Int) ≥ 1
  · refine Ev.pos h1 ?_
    by_cases h2 : (x.f0.length : Int) ≤ 5
    · refine Ev.pos h2 ?_
      rw [decide_eq_true (⟨h1, h2⟩ : 1 ≤ (x.f0.length : Int) ∧ (x.f0.length : Int) ≤ 5), Bool.true_and]
      refine Ev.bind (impl_allWithin_ev x.f0 hl 7 (by omega) (by omega)) ?_
      cases x.f0.all (inR (-7) 7)
      · exact Ev.neg (by simp) (Ev.now _)
      · refine Ev.pos rfl ?_
        by_cases h3 : x.f1 ≥ 1
        · refine Ev.pos h3 (Ev.eqr (Ev.now _) ?_)
          rw [Bool.true_and, Bool.eq_iff_iff]; simp; omega
        · refine Ev.neg h3 (Ev.eqr (Ev.now _) ?_)
          rw [Bool.true_and]; symm; exact decide_eq_false (by omega)
    · refine Ev.neg h2 (Ev.eqr (Ev.now _) ?_)
      rw [decide_eq_false (by omega : ¬ (1 ≤ (x.f0.length : Int) ∧ (x.f0.length : Int) ≤ 5))]; rfl
  · refine Ev.neg h1 (Ev.eqr (Ev.now _) ?_)
    rw [decide_eq_false (by omega : ¬ (1 ≤ (x.f0.length : Int) ∧ (x.f0.length : Int) ≤ 5))]; rfl
theorem impl_FormulasValid_ev (l : List S85) (hl : ∀ x ∈ l, x.f0.length ≤ 1000000000000) : Ev (fun k => impl_FormulasValid.f k l) (fsOk l) := by
  unfold impl_FormulasValid.f fsOk
  by_cases h8 : (l.length : Int) > 8
  · refine Ev.pos h8 (Ev.eqr (Ev.now _) ?_)
    rw [decide_eq_false (by omega : ¬ (l.length : Int) ≤ 8)]; rfl
  refine Ev.neg h8 ?_
  rw [decide_eq_true (by omega : (l.length : Int) ≤ 8), Bool.true_and]
  have := Ev.over z85 l (fun k (_ : Unit) i => impl_FormulasValid.l0 k l l l.length i) (fun _ rest => goF (l.take (l.length - rest.length)) rest) (fun _ _ => True) (by
    intro s _
    refine Ev.succ ?_
    simp only [impl_FormulasValid.l0]
    exact Ev.neg (by omega) (Ev.now _)) (by
    intro s i rest _ hi hdr ih
    have hrl : rest.length + 1 + i = l.length := by
      have := congrArg List.length hdr
      simp at this; omega
    have hm : l.getD i z85 ∈ l := by
      rw [List.getD_eq_getElem?_getD, List.getElem?_eq_getElem hi]; exact List.getElem_mem hi
    have hx := hl _ hm
    refine Ev.succ ?_
    simp only [impl_FormulasValid.l0]
    refine Ev.pos (by omega) (Ev.pos (by omega) (Ev.pos (by omega) ?_))
    have hrd : rd_T85 l (i : Int) = l.getD i z85 := rfl
    have e2 : l.length - (l.getD i z85 :: rest).length = i := by simp; omega
    have e1 : l.length - rest.length = i + 1 := by omega
    have ih := ih () trivial
    rw [e1, take_rd l i hi] at ih
    rw [hrd, e2]
    generalize l.getD i z85 = x at hx ih
    simp only [goF]
    refine Ev.bind (impl_Formula_valid_ev x hx) ?_
    cases hf : fOk x
    · exact Ev.neg (by simp) (Ev.now _)
    refine Ev.pos rfl (Ev.pos (by omega) (Ev.someb ?_))
    simp only [Int.toNat_natCast, Bool.true_and]
    have htl : (l.take i).length = i := by simp; omega
    have inner := Ev.over z85 (l.take i) (fun k (_ : Unit) j => impl_FormulasValid.l1 k l l l.length i (l.take i) ((l.take i).length : Int) j x.f0 x.f1) (fun _ rest' => !(rest'.any (fun y => y.f0 == x.f0)) && goF (l.take i ++ [x]) rest) (fun _ _ => True) (by
      intro s _
      refine Ev.succ ?_
      simp only [impl_FormulasValid.l1]
      refine Ev.neg (by omega) ?_
      rw [w64 (by omega) (by omega)]
      exact ih) (by
      intro s j rest' _ hj _ ih'
      have hjm : (l.take i).getD j z85 ∈ l := by
        rw [List.getD_eq_getElem?_getD, List.getElem?_eq_getElem hj]; exact List.mem_of_mem_take (List.getElem_mem hj)
      have hxj := hl _ hjm
      refine Ev.succ ?_
      simp only [impl_FormulasValid.l1]
      refine Ev.pos (by omega) (Ev.pos (by omega) (Ev.pos (by omega) ?_))
      have hrd' : rd_T85 (l.take i) (j : Int) = (l.take i).getD j z85 := rfl
      rw [hrd']
      generalize (l.take i).getD j z85 = y at hxj
      refine Ev.bind (impl_equalNumbers_ev _ _ hxj) ?_
      simp only [List.any_cons]
      cases y.f0 == x.f0
      · refine Ev.neg (by simp) ?_
        rw [w64 (by omega) (by omega)]
        simpa using ih' () trivial
      · exact Ev.pos rfl (Ev.now _)) 0 () (Nat.zero_le _) trivial
    simpa using inner) 0 () (Nat.zero_le _) trivial
  simpa using this

theorem spec_l2Same_ev (a b : List Int) (hl : a.length ≤ 1000000000000) : Ev (fun k => spec_l2Same.f k a b) (a == b) := by
  unfold spec_l2Same.f
  by_cases hlen : (a.length : Int) = (b.length : Int)
  · refine Ev.pos hlen ?_
    have := Ev.over (0 : Int) a (fun k (_ : Unit) i => spec_l2Same.l0 k a b i) (fun _ rest => rest == b.drop (a.length - rest.length)) (fun _ _ => True) (by
      intro s _
      refine Ev.succ ?_
      simp only [spec_l2Same.l0]
      refine Ev.eqr (Ev.neg (by omega) (Ev.now _)) ?_
      have : b.drop a.length = [] := List.drop_eq_nil_of_le (by omega)
      simp [this]) (by
      intro s i rest _ hi hdr ih
      have hrl : rest.length + 1 + i = a.length := by
        have := congrArg List.length hdr
        simp at this; omega
      refine Ev.succ ?_
      simp only [spec_l2Same.l0]
      rw [w64 (by omega) (by omega)]
      refine Ev.pos (by omega) (Ev.pos (by omega) (Ev.pos (by omega) ?_))
      have hra : rd a (i : Int) = a.getD i 0 := rfl
      have hrb : rd b (i : Int) = b.getD i 0 := rfl
      rw [hra, hrb]
      have e2 : a.length - (a.getD i 0 :: rest).length = i := by simp; omega
      have e1 : a.length - rest.length = i + 1 := by omega
      have e3 : b.drop i = b.getD i 0 :: b.drop (i + 1) := by
        rw [List.drop_eq_getElem_cons (by omega), List.getD_eq_getElem?_getD, List.getElem?_eq_getElem (by omega)]; rfl
      rw [e2, e3]
      have ih := ih () trivial
      rw [e1] at ih
      by_cases h : a.getD i 0 = b.getD i 0
      · refine Ev.pos h (Ev.eqr ih ?_)
        rw [h, Bool.eq_iff_iff]; simp
      · refine Ev.neg h (Ev.eqr (Ev.now _) ?_)
        symm; rw [beq_eq_false_iff_ne]; intro hc; exact h (List.cons.inj hc).1) 0 () (Nat.zero_le _) trivial
    simpa using this
  · refine Ev.neg hlen (Ev.eqr (Ev.now _) ?_)
    symm; rw [beq_eq_false_iff_ne]; rintro rfl; exact hlen rfl
theorem spec_l6fOne_ev (x : S85) (hl : x.f0.length ≤ 1000000000000) : Ev (fun k => spec_l6fOne.f k x.f0 x.f1) (fOk x) := by
  unfold spec_l6fOne.f
  have := Ev.over (0 : Int) x.f0 (fun k (_ : Unit) i => spec_l6fOne.l0 k i x.f0 x.f1) (fun _ rest => rest.all (inR (-7) 7) && (decide (1 ≤ (x.f0.length : Int) ∧ (x.f0.length : Int) ≤ 5) && decide (1 ≤ x.f1 ∧ x.f1 ≤ 9))) (fun _ _ => True) (by
    intro s _
    refine Ev.succ ?_
    simp only [spec_l6fOne.l0, List.all_nil, Bool.true_and]
    refine Ev.neg (by omega) (Ev.conb (spec_l6In_eq _ _ _) ?_)
    by_cases h : 1 ≤ (x.f0.length : Int) ∧ (x.f0.length : Int) ≤ 5
    · rw [decide_eq_true h]
      exact Ev.pos rfl (Ev.conb (spec_l6In_eq _ _ _) (Ev.now _))
    · rw [decide_eq_false h]
      exact Ev.neg (by simp) (Ev.now _)) (by
    intro s i rest _ hi _ ih
    refine Ev.succ ?_
    simp only [spec_l6fOne.l0, List.all_cons]
    rw [w64 (by omega) (by omega)]
    refine Ev.pos (by omega) (Ev.pos (by omega) (Ev.conb (spec_l6In_eq _ _ _) ?_))
    have hrd : rd x.f0 (i : Int) = x.f0.getD i 0 := rfl
    rw [hrd]
    show Ev _ ((decide (-7 ≤ x.f0.getD i 0 ∧ x.f0.getD i 0 ≤ 7) && _) && _)
    by_cases h : -7 ≤ x.f0.getD i 0 ∧ x.f0.getD i 0 ≤ 7
    · rw [decide_eq_true h]
      exact Ev.pos rfl (ih () trivial)
    · rw [decide_eq_false h]
      exact Ev.neg (by simp) (Ev.now _)) 0 () (Nat.zero_le _) trivial
  refine Ev.eqr (by simpa using this) ?_
  unfold fOk
  cases x.f0.all (inR (-7) 7) <;> simp
theorem spec_FormulasValid_ev (l : List S85) (hll : l.length ≤ 1000000000000) (hl : ∀ x ∈ l, x.f0.length ≤ 1000000000000) : Ev (fun k => spec_FormulasValid.f k l) (fsOk l) := by
  unfold spec_FormulasValid.f
  have := Ev.over z85 l (fun k (_ : Unit) i => spec_FormulasValid.l0 k l i) (fun _ rest => goF (l.take (l.length - rest.length)) rest && decide ((l.length : Int) ≤ 8)) (fun _ _ => True) (by
    intro s _
    refine Ev.succ ?_
    simp only [spec_FormulasValid.l0, goF, Bool.true_and]
    exact Ev.neg (by omega) (Ev.now _)) (by
    intro s i rest _ hi hdr ih
    have hrl : rest.length + 1 + i = l.length := by
      have := congrArg List.length hdr
      simp at this; omega
    have hm : l.getD i z85 ∈ l := by
      rw [List.getD_eq_getElem?_getD, List.getElem?_eq_getElem hi]; exact List.getElem_mem hi
    have hx := hl _ hm
    refine Ev.succ ?_
    simp only [spec_FormulasValid.l0]
    refine Ev.pos (by omega) (Ev.pos (by omega) ?_)
    have hrd : rd_T85 l (i : Int) = l.getD i z85 := rfl
    have e2 : l.length - (l.getD i z85 :: rest).length = i := by simp; omega
    have e1 : l.length - rest.length = i + 1 := by omega
    have ih := ih () trivial
    rw [e1, take_rd l i hi] at ih
    rw [e2]
    rw [← hrd] at hx ih ⊢
    simp only [goF]
    refine Ev.bind (spec_l6fOne_ev _ hx) ?_
    cases hf : fOk (rd_T85 l (i : Int))
    · exact Ev.neg (by simp) (Ev.now _)
    refine Ev.pos rfl ?_
    simp only [Bool.true_and]
    have htl : (l.take i).length = i := by simp; omega
    have inner := Ev.over z85 (l.take i) (fun k (_ : Unit) j => spec_FormulasValid.l1 k l i j) (fun _ rest' => (!(rest'.any (fun y => y.f0 == (rd_T85 l (i : Int)).f0)) && goF (l.take i ++ [rd_T85 l (i : Int)]) rest) && decide ((l.length : Int) ≤ 8)) (fun _ _ => True) (by
      intro s _
      refine Ev.succ ?_
      simp only [spec_FormulasValid.l1]
      refine Ev.neg (by omega) ?_
      rw [w64 (by omega) (by omega)]
      simpa using ih) (by
      intro s j rest' _ hj _ ih'
      have hjm : (l.take i).getD j z85 ∈ l := by
        rw [List.getD_eq_getElem?_getD, List.getElem?_eq_getElem hj]; exact List.mem_of_mem_take (List.getElem_mem hj)
      have hxj := hl _ hjm
      refine Ev.succ ?_
      simp only [spec_FormulasValid.l1]
      refine Ev.pos (by omega) (Ev.pos (by omega) (Ev.pos (by omega) (Ev.pos (by omega) (Ev.pos (by omega) ?_))))
      have hrd' : rd_T85 l (j : Int) = (l.take i).getD j z85 := by
        rw [List.getD_eq_getElem?_getD, List.getElem?_take, if_pos (by omega)]
        simp [rd_T85]
      rw [hrd']
      generalize (l.take i).getD j z85 = y at hxj
      refine Ev.bind (spec_l2Same_ev _ _ hx) ?_
      simp only [List.any_cons]
      have hcm : (y.f0 == (rd_T85 l (i : Int)).f0) = ((rd_T85 l (i : Int)).f0 == y.f0) := by rw [Bool.eq_iff_iff, beq_iff_eq, beq_iff_eq]; exact eq_comm
      rw [hcm]
      cases (rd_T85 l (i : Int)).f0 == y.f0
      · refine Ev.neg (by simp) ?_
        rw [w64 (by omega) (by omega)]
        simpa using ih' () trivial
      · exact Ev.pos rfl (Ev.now _)) 0 () (Nat.zero_le _) trivial
    simpa using inner) 0 () (Nat.zero_le _) trivial
  refine Ev.eqr (by simpa using this) ?_
  unfold fsOk
  rw [Bool.and_comm]

end Go.Proofs.Ytkahgjejebhgnaa.Pure
