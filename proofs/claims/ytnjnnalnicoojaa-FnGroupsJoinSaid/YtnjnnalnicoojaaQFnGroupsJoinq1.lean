/- Lemmas on the printed functions for the law FnGroupsJoin. -/
import Derived.Test.YtnjnnalnicoojaaPFnGroupsJoinx12
import Derived.Test.YtnjnnalnicoojaaPFnGroupsJoinx17
import Derived.Test.YtnjnnalnicoojaaPFnGroupsJoinx19
import Derived.Test.YtnjnnalnicoojaaQFnGroupsJoinq0
import Derived.Deep.RegionHeld3
import Derived.BigRegion
namespace Go.Proofs.Ytnjnnalnicoojaa.Pure
set_option linter.unusedVariables false
set_option linter.unusedSimpArgs false
open Go Go.RowKit Go.Proofs.Ytnjnnalnicoojaa.PFnGroupsJoin Go.Proofs.YtnjnnalnicoojaaW.PrintWords Go.Proofs.YtnjnnalnicoojaaW.PrintLast Go.Proofs.YtnjnnalnicoojaaW.PrintMore

/-! tones and melodies: valid -/
def toneOk (t : S73) : Bool := decide (0 ≤ t.f0 ∧ t.f0 ≤ 20) && (!t.f1 || Int.tmod t.f0 7 == 2)
def melOk (m : List S73) : Bool := decide (m.length ≤ 24) && m.all toneOk
theorem melOk_len {m : List S73} (h : melOk m = true) : m.length ≤ 24 := by
  unfold melOk at h; simp at h; exact h.1
theorem impl_Tone_valid_eq (a : Int) (b : Bool) : impl_Tone_valid.f a b = some (toneOk ⟨a, b⟩) := by
  unfold impl_Tone_valid.f toneOk
  by_cases h : a ≥ 0
  · by_cases h' : a ≤ 20
    · cases b
      · simp [h, h']
      · simp [h, h']
    · simp [h, h']
  · have : ¬ (0 ≤ a) := h
    simp [this]
theorem impl_MelodyValid_ev (m : List S73) : Ev (fun k => impl_MelodyValid.f k m) (melOk m) := by
  unfold impl_MelodyValid.f
  by_cases h : (m.length : Int) > 24
  · refine Ev.eqr (Ev.pos h (Ev.now _)) ?_
    unfold melOk
    rw [decide_eq_false (by omega)]; rfl
  · refine Ev.eqr (Ev.neg h (r := m.all toneOk) ?_) (by unfold melOk; rw [decide_eq_true (by omega)]; rfl)
    have := Ev.over z73 m (fun k (_ : Unit) i => impl_MelodyValid.l0 k m m.length i) (fun _ l => l.all toneOk) (fun _ _ => True) (by
      intro s _
      refine Ev.succ ?_
      simp only [impl_MelodyValid.l0]
      exact Ev.neg (by omega) (Ev.now _)) (by
      intro s i rest _ hi _ ih
      refine Ev.succ ?_
      simp only [impl_MelodyValid.l0]
      refine Ev.pos (by omega) (Ev.pos (by omega) (Ev.pos (by omega) (Ev.conb (impl_Tone_valid_eq _ _) ?_)))
      show Ev _ (toneOk (rd_T73 m i) && _)
      cases ht : toneOk (rd_T73 m i)
      · exact Ev.neg (by simp [ht]) (Ev.now _)
      · refine Ev.pos (by simp [ht]) ?_
        rw [w64 (by omega) (by omega)]
        simpa using ih () trivial) 0 () (Nat.zero_le _) trivial
    simpa using this

/-! the reference's tones and melodies: valid -/
theorem spec_l6In_eq (a b c : Int) : spec_l6In.f a b c = some (decide (b ≤ a ∧ a ≤ c)) := by
  unfold spec_l6In.f
  by_cases h : a ≥ b
  · rw [if_pos h]; simp [show b ≤ a from h]
  · rw [if_neg h]; simp [show ¬ b ≤ a from h]
theorem spec_ToneValid_eq (a : Int) (b : Bool) : spec_ToneValid.f a b = some (toneOk ⟨a, b⟩) := by
  unfold spec_ToneValid.f toneOk
  rw [spec_l6In_eq]
  by_cases h : 0 ≤ a ∧ a ≤ 20
  · cases b <;> simp [h, spec_l1Letter.f]
  · simp [h]
theorem spec_MelodyValid_ev (m : List S73) (hm : m.length ≤ 1000000000000) : Ev (fun k => spec_MelodyValid.f k m) (melOk m) := by
  unfold spec_MelodyValid.f
  have := Ev.over z73 m (fun k (_ : Unit) i => spec_MelodyValid.l0 k m i) (fun _ l => l.all toneOk && decide (m.length ≤ 24)) (fun _ _ => True) (by
      intro s _
      refine Ev.succ ?_
      simp only [spec_MelodyValid.l0]
      refine Ev.eqr (Ev.neg (by omega) (Ev.now _)) ?_
      simp; omega) (by
      intro s i rest _ hi _ ih
      refine Ev.succ ?_
      simp only [spec_MelodyValid.l0]
      refine Ev.pos (by omega) (Ev.pos (by omega) (Ev.conb (spec_ToneValid_eq _ _) ?_))
      show Ev _ (toneOk (rd_T73 m i) && _ && _)
      cases ht : toneOk (rd_T73 m i)
      · exact Ev.neg (by simp [ht]) (Ev.now _)
      · refine Ev.pos (by simp [ht]) ?_
        rw [w64 (by omega) (by omega)]
        simpa using ih () trivial) 0 () (Nat.zero_le _) trivial
  refine Ev.eqr (by simpa using this) ?_
  unfold melOk
  rw [Bool.and_comm]

/-! groups -/
def sizesOk (g : List S32) : Bool := g.all fun x => decide (1 ≤ x.f0 ∧ x.f0 ≤ 4)
def total : List S32 → Int
  | [] => 0
  | x :: xs => x.f0 + total xs
def gOk (m : List S73) (g : List S32) : Bool := melOk m && (sizesOk g && (total g == (m.length : Int)))
theorem total_app (a b : List S32) : total (a ++ b) = total a + total b := by
  induction a with
  | nil => simp [total]
  | cons x xs ih => simp only [List.cons_append, total, ih]; omega
theorem sizesOk_app (a b : List S32) : sizesOk (a ++ b) = (sizesOk a && sizesOk b) := by simp [sizesOk]
theorem total_ge {g : List S32} (h : sizesOk g = true) : (g.length : Int) ≤ total g := by
  induction g with
  | nil => simp [total]
  | cons x xs ih =>
    simp [sizesOk] at h ih
    have := ih h.2
    simp only [total, List.length_cons]
    omega
theorem gOk_mel {m : List S73} {g : List S32} (h : gOk m g = true) : melOk m = true := by
  unfold gOk at h; simp at h; exact h.1
theorem gOk_sizes {m : List S73} {g : List S32} (h : gOk m g = true) : sizesOk g = true := by
  unfold gOk at h; simp at h; exact h.2.1
theorem gOk_total {m : List S73} {g : List S32} (h : gOk m g = true) : total g = (m.length : Int) := by
  unfold gOk at h; simp at h; exact h.2.2
theorem gOk_len {m : List S73} {g : List S32} (h : gOk m g = true) : g.length ≤ 24 := by
  have a := total_ge (gOk_sizes h)
  have b := gOk_total h
  have c := melOk_len (gOk_mel h)
  omega
def goG (acc : List S68) (rest : List S73) : List S32 → List S68 × Bool
  | [] => (acc, ((rest.length : Int) == 0))
  | x :: xs => if x.f0 < 1 ∨ x.f0 > 4 ∨ x.f0 > (rest.length : Int) then ([], false) else goG (acc ++ [⟨rest.take x.f0.toNat, x.f1⟩]) (rest.drop x.f0.toNat) xs
theorem goG_ok : ∀ (g : List S32) (acc : List S68) (rest : List S73), (goG acc rest g).2 = (sizesOk g && (total g == (rest.length : Int)))
  | [], acc, rest => by
    simp only [goG, sizesOk, total, List.all_nil, Bool.true_and]
    rw [Bool.eq_iff_iff, beq_iff_eq, beq_iff_eq]; exact eq_comm
  | x :: xs, acc, rest => by
    simp only [goG]
    split
    · rename_i h
      symm
      rw [Bool.and_eq_false_iff]
      by_cases hs : sizesOk (x :: xs) = true
      · right
        have hs' : (1 ≤ x.f0 ∧ x.f0 ≤ 4) ∧ sizesOk xs = true := by simpa [sizesOk] using hs
        have := total_ge hs'.2
        rw [beq_eq_false_iff_ne]
        simp only [total]
        omega
      · left; simpa using hs
    · rename_i h
      rw [goG_ok xs]
      have h1 : (1 ≤ x.f0 ∧ x.f0 ≤ 4) := by omega
      have e : sizesOk (x :: xs) = sizesOk xs := by simp [sizesOk, h1]
      rw [e]
      congr 1
      rw [Bool.eq_iff_iff]
      simp [total]
      omega
theorem impl_groupsOf_ev (m : List S73) (g : List S32) (hg : g.length ≤ 1000000000000) : Ev (fun k => impl_groupsOf.f k m g) (if melOk m = true then goG [] m g else ([], false)) := by
  unfold impl_groupsOf.f
  refine Ev.bind (impl_MelodyValid_ev m) ?_
  by_cases hm : melOk m = true
  · rw [if_pos hm]
    refine Ev.pos hm ?_
    have hml := melOk_len hm
    have := Ev.over z32 g (fun k (s : List S68 × List S73) i => impl_groupsOf.l0 k s.1 s.2 g g.length i) (fun s l => goG s.1 s.2 l) (fun _ s => s.1.length + s.2.length ≤ 24) (by
      intro s _
      refine Ev.succ ?_
      simp only [impl_groupsOf.l0]
      exact Ev.neg (by omega) (Ev.now _)) (by
      intro s i rest hI hi _ ih
      refine Ev.succ ?_
      simp only [impl_groupsOf.l0]
      refine Ev.pos (by omega) (Ev.pos (by omega) (Ev.pos (by omega) ?_))
      show Ev _ (goG s.1 s.2 (rd_T32 g i :: rest))
      generalize rd_T32 g i = x
      simp only [goG]
      by_cases h : x.f0 < 1 ∨ x.f0 > 4 ∨ x.f0 > (s.2.length : Int)
      · rw [if_pos h]
        by_cases h1 : x.f0 < 1
        · exact Ev.pos h1 (Ev.now _)
        · refine Ev.neg h1 ?_
          by_cases h2 : x.f0 > 4
          · exact Ev.pos h2 (Ev.now _)
          · exact Ev.neg h2 (Ev.pos (by omega) (Ev.now _))
      · rw [if_neg h]
        refine Ev.neg (by omega) (Ev.neg (by omega) (Ev.neg (by omega) (Ev.pos (by omega) (Ev.pos (by omega) (Ev.pos (by omega) ?_)))))
        rw [w64 (by omega) (by omega)]
        exact ih (s.1 ++ [⟨s.2.take x.f0.toNat, x.f1⟩], s.2.drop x.f0.toNat) (by simp; omega)) 0 ([], m) (Nat.zero_le _) (by simpa using hml)
    simpa using this
  · rw [if_neg hm]
    exact Ev.neg hm (Ev.now _)
theorem impl_GroupsValid_ev (m : List S73) (g : List S32) (hg : g.length ≤ 1000000000000) : Ev (fun k => impl_GroupsValid.f k m g) (gOk m g) := by
  unfold impl_GroupsValid.f
  refine Ev.eqr (Ev.bind (impl_groupsOf_ev m g hg) (Ev.now _)) ?_
  unfold gOk
  by_cases hm : melOk m = true
  · rw [if_pos hm, goG_ok, hm]; rfl
  · rw [if_neg hm]; simp at hm; rw [hm]; rfl
theorem spec_GroupsValid_ev (m : List S73) (g : List S32) (hm : m.length ≤ 1000000000000) (hg : g.length ≤ 1000000000000) : Ev (fun k => spec_GroupsValid.f k m g) (gOk m g) := by
  unfold spec_GroupsValid.f
  refine Ev.bind (spec_MelodyValid_ev m hm) ?_
  cases hok : melOk m
  · refine Ev.neg (by simp) (Ev.succ ?_)
    simp only [spec_GroupsValid.j0, if_true]
    refine Ev.eqr (Ev.now _) ?_
    unfold gOk; rw [hok]; rfl
  · refine Ev.pos rfl ?_
    have hml := melOk_len hok
    by_cases hl : (g.length : Int) > 24
    · rw [decide_eq_true hl]
      refine Ev.succ ?_
      simp only [spec_GroupsValid.j0, if_true]
      refine Ev.eqr (Ev.now _) ?_
      symm
      rw [Bool.eq_false_iff]
      intro h
      have := gOk_len h
      omega
    · rw [decide_eq_false hl]
      refine Ev.succ ?_
      simp only [spec_GroupsValid.j0]
      refine Ev.neg (by simp) ?_
      have := Ev.over z32 g (fun k (s : Int) i => spec_GroupsValid.l0 k m g s i) (fun s l => sizesOk l && (s + total l == (m.length : Int))) (fun i s => 0 ≤ s ∧ s ≤ 4 * i) (by
        intro s _
        refine Ev.succ ?_
        simp only [spec_GroupsValid.l0]
        refine Ev.eqr (Ev.neg (by omega) (Ev.now _)) ?_
        simp [sizesOk, total]) (by
        intro s i rest hI hi _ ih
        refine Ev.succ ?_
        simp only [spec_GroupsValid.l0]
        refine Ev.pos (by omega) (Ev.pos (by omega) (Ev.conb (spec_l6In_eq _ _ _) ?_))
        show Ev _ (sizesOk (rd_T32 g i :: rest) && (s + total (rd_T32 g i :: rest) == (m.length : Int)))
        generalize rd_T32 g i = x
        by_cases h : 1 ≤ x.f0 ∧ x.f0 ≤ 4
        · refine Ev.pos (by simp [h]) ?_
          rw [w64 (x := s + x.f0) (by omega) (by omega), w64 (by omega) (by omega)]
          refine Ev.eqr (ih (s + x.f0) (by omega)) ?_
          have e : sizesOk (x :: rest) = sizesOk rest := by simp [sizesOk, h]
          rw [e]
          simp only [total]
          rw [Int.add_assoc]
        · refine Ev.eqr (Ev.neg (by simp only [decide_eq_true_eq]; exact h) (Ev.now _)) ?_
          have e : sizesOk (x :: rest) = false := by simp only [sizesOk, List.all_cons, decide_eq_false h, Bool.false_and]
          rw [e]; rfl) 0 0 (Nat.zero_le _) (by omega)
      refine Ev.eqr (by simpa using this) ?_
      unfold gOk
      rw [hok]; simp
def gjoin (m : List S73) (g : List S32) (k : Int) : List S32 × Bool :=
  if gOk m g = true ∧ 0 ≤ k ∧ k < (g.length : Int) - 1 ∧ (rd_T32 g k).f0 + (rd_T32 g (k + 1)).f0 ≤ 4 then (g.take k.toNat ++ [⟨(rd_T32 g k).f0 + (rd_T32 g (k + 1)).f0, (rd_T32 g (k + 1)).f1⟩] ++ g.drop (k + 2).toNat, true) else ([], false)
def gsplit (m : List S73) (g : List S32) (i k : Int) : List S32 × Bool :=
  if gOk m g = true ∧ 0 ≤ i ∧ i < (g.length : Int) ∧ 1 ≤ k ∧ k < (rd_T32 g i).f0 then (g.take i.toNat ++ [⟨k, false⟩, ⟨(rd_T32 g i).f0 - k, (rd_T32 g i).f1⟩] ++ g.drop (i + 1).toNat, true) else ([], false)
theorem rd_mid (A : List S32) (x : S32) (B : List S32) : rd_T32 (A ++ x :: B) (A.length : Int) = x := by simp [rd_T32]
theorem rd_mid' (A : List S32) (x y : S32) (B : List S32) : rd_T32 (A ++ x :: y :: B) ((A.length : Int) + 1) = y := by
  have : ((A.length : Int) + 1).toNat = A.length + 1 := by omega
  simp [rd_T32, this]
theorem size_of {g : List S32} (h : sizesOk g = true) {k : Int} (h0 : 0 ≤ k) (h1 : k < g.length) : 1 ≤ (rd_T32 g k).f0 ∧ (rd_T32 g k).f0 ≤ 4 := by
  have hlt : k.toNat < g.length := by omega
  unfold rd_T32
  rw [List.getD_eq_getElem?_getD, List.getElem?_eq_getElem hlt]
  unfold sizesOk at h
  have := List.all_eq_true.1 h _ (List.getElem_mem hlt)
  simpa using this
theorem cut_at {g : List S32} {k : Int} (h0 : 0 ≤ k) (h1 : k < g.length) : ∃ A x B, g = A ++ x :: B ∧ (A.length : Int) = k := by
  have hlt : k.toNat < g.length := by omega
  refine ⟨g.take k.toNat, g[k.toNat], g.drop (k.toNat + 1), ?_, by rw [List.length_take]; omega⟩
  rw [← List.drop_eq_getElem_cons hlt, List.take_append_drop]
theorem cut_at2 {g : List S32} {k : Int} (h0 : 0 ≤ k) (h1 : k < (g.length : Int) - 1) : ∃ A x y B, g = A ++ x :: y :: B ∧ (A.length : Int) = k := by
  obtain ⟨A, x, B, rfl, hk⟩ := cut_at (g := g) h0 (by omega)
  cases B with
  | nil => simp at h1; omega
  | cons y B => exact ⟨A, x, y, B, rfl, hk⟩
theorem gOk_join {m : List S73} {g : List S32} {k : Int} (h : gOk m g = true) (h0 : 0 ≤ k) (h1 : k < (g.length : Int) - 1) (b : Bool) :
    gOk m (g.take k.toNat ++ [⟨(rd_T32 g k).f0 + (rd_T32 g (k + 1)).f0, b⟩] ++ g.drop (k + 2).toNat) = decide ((rd_T32 g k).f0 + (rd_T32 g (k + 1)).f0 ≤ 4) := by
  have hm := gOk_mel h
  have hs := gOk_sizes h
  have ht := gOk_total h
  obtain ⟨A, x, y, B, rfl, rfl⟩ := cut_at2 h0 h1
  have e2 : ((A.length : Int) + 2).toNat = A.length + 2 := by omega
  rw [rd_mid, rd_mid', e2]
  simp only [Int.toNat_natCast]
  have d1 : (A ++ x :: y :: B).take A.length = A := by simp
  have d2 : (A ++ x :: y :: B).drop (A.length + 2) = B := by
    rw [List.drop_append]; simp
  rw [d1, d2]
  unfold gOk
  rw [hm]
  simp only [total_app, total, sizesOk_app] at ht hs ⊢
  have hs' : sizesOk A = true ∧ (1 ≤ x.f0 ∧ x.f0 ≤ 4) ∧ (1 ≤ y.f0 ∧ y.f0 ≤ 4) ∧ sizesOk B = true := by simpa [sizesOk] using hs
  have e3 : (total A + (x.f0 + y.f0 + 0) + total B == (m.length : Int)) = true := by rw [beq_iff_eq]; omega
  rw [e3, hs'.1, hs'.2.2.2]
  rw [Bool.eq_iff_iff]
  simp [sizesOk]
  omega

theorem laws_sameGroups_ev (g : List S32) (hg : g.length ≤ 1000000000000) : Ev (fun n => laws_sameGroups.f n g g) true := by
  unfold laws_sameGroups.f
  refine Ev.pos rfl ?_
  have := Ev.over z32 g (fun k (_ : Unit) i => laws_sameGroups.l0 k g g i) (fun _ _ => true) (fun _ _ => True) (by
    intro s _
    refine Ev.succ ?_
    simp only [laws_sameGroups.l0]
    exact Ev.neg (by omega) (Ev.now _)) (by
    intro s i rest _ hi _ ih
    refine Ev.succ ?_
    simp only [laws_sameGroups.l0]
    refine Ev.pos (by omega) (Ev.pos (by omega) (Ev.pos (by omega) (Ev.neg (by simp) ?_)))
    rw [w64 (by omega) (by omega)]
    exact ih () trivial) 0 () (Nat.zero_le _) trivial
  simpa using this

end Go.Proofs.Ytnjnnalnicoojaa.Pure
