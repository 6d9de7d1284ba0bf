/- Lemmas on the printed functions for the law FnExactGroupsCut. -/
import Derived.Test.YtkahgjejebhgnaaPFnExactGroupsCutx22
import Derived.Test.YtkahgjejebhgnaaPFnExactGroupsCutx19
import Derived.Deep.RegionHeld3
import Derived.BigRegion
import Derived.Deep.Slices
import Derived.Laws.CopyOwn
namespace Go.Proofs.Ytkahgjejebhgnaa.Pure
set_option linter.unusedVariables false
set_option linter.unusedSimpArgs false
open Go Go.RowKit Go.Proofs.Ytkahgjejebhgnaa.PFnExactGroupsCut Go.Proofs.YtkahgjejebhgnaaW.PrintWords Go.Proofs.YtkahgjejebhgnaaW.PrintLast Go.Proofs.YtkahgjejebhgnaaW.PrintMore

/-! words: Ev, wrap64, lists -/
theorem Ev.succ {α : Type} {g : Nat → Option α} {r : α} (h : Ev (fun k => g (k + 1)) r) : Ev g r := Ev.step (fun _ => rfl) h
theorem Ev.pos {α : Type} {c : Prop} [Decidable c] {f g : Nat → Option α} {r : α} (hc : c) (h : Ev f r) : Ev (fun k => if c then f k else g k) r := by
  simp only [if_pos hc]; exact h
theorem Ev.neg {α : Type} {c : Prop} [Decidable c] {f g : Nat → Option α} {r : α} (hc : ¬ c) (h : Ev g r) : Ev (fun k => if c then f k else g k) r := by
  simp only [if_neg hc]; exact h
theorem Ev.uniq {α : Type} {g : Nat → Option α} {r r' : α} (h : Ev g r) (h' : Ev g r') : r = r' := by
  obtain ⟨K, h⟩ := h; obtain ⟨K', h'⟩ := h'
  have a := h (max K K') (Nat.le_max_left _ _)
  have b := h' (max K K') (Nat.le_max_right _ _)
  exact Option.some.inj (a.symm.trans b)
theorem Ev.someb {α β : Type} {a : α} {f : Nat → α → Option β} {r : β} (h : Ev (fun n => f n a) r) : Ev (fun n => (some a).bind (f n)) r := h
theorem Ev.conb {α β : Type} {x : Option α} {a : α} {f : Nat → α → Option β} {r : β} (hx : x = some a) (h : Ev (fun n => f n a) r) : Ev (fun n => x.bind (f n)) r := by subst hx; exact h
theorem Ev.eqr {α : Type} {g : Nat → Option α} {r r' : α} (h : Ev g r) (e : r = r') : Ev g r' := e ▸ h
theorem Ev.eqg {α : Type} {g g' : Nat → Option α} {r : α} (h : Ev g r) (e : g' = g) : Ev g' r := e ▸ h
/-- A loop over the places of a list, from the front. -/
theorem Ev.over {α ρ σ : Type} (d : α) (xs : List α) (L : Nat → σ → Int → Option ρ) (F : σ → List α → ρ) (I : Nat → σ → Prop)
    (hend : ∀ s, I xs.length s → Ev (fun k => L k s (xs.length : Int)) (F s []))
    (hstep : ∀ s (i : Nat) rest, I i s → i < xs.length → xs.drop i = xs.getD i d :: rest → (∀ s', I (i + 1) s' → Ev (fun k => L k s' ((i : Int) + 1)) (F s' rest)) → Ev (fun k => L k s (i : Int)) (F s (xs.getD i d :: rest))) :
    ∀ (i : Nat) (s : σ), i ≤ xs.length → I i s → Ev (fun k => L k s (i : Int)) (F s (xs.drop i)) := by
  intro i s hi hI
  obtain ⟨n, hn⟩ : ∃ n, n = xs.length - i := ⟨_, rfl⟩
  induction n generalizing i s with
  | zero =>
    have e : i = xs.length := by omega
    subst e
    rw [List.drop_length]
    exact hend s hI
  | succ n ih =>
    have hlt : i < xs.length := by omega
    have e : xs.drop i = xs.getD i d :: xs.drop (i + 1) := by
      rw [List.drop_eq_getElem_cons hlt, List.getD_eq_getElem?_getD, List.getElem?_eq_getElem hlt]; rfl
    rw [e]
    refine hstep s i _ hI hlt e (fun s' hs' => ?_)
    have := ih (i + 1) s' (by omega) hs' (by omega)
    simpa using this
theorem w64 {x : Int} (h : -9223372036854775808 ≤ x) (h' : x ≤ 9223372036854775807) : wrap64 x = x := by unfold wrap64; omega
theorem xor_bd (x y : Int) (hx : 0 ≤ x) (hx' : x < 4611686018427387904) (hy : 0 ≤ y) (hy' : y < 4611686018427387904) : 0 ≤ Go.bits .xor .i64 x y := by
  obtain ⟨a, rfl⟩ := Int.eq_ofNat_of_zero_le hx
  obtain ⟨b, rfl⟩ := Int.eq_ofNat_of_zero_le hy
  have ha : a < 2 ^ 62 := by omega
  have hb : b < 2 ^ 62 := by omega
  have hc : a ^^^ b < 2 ^ 62 := Nat.xor_lt_two_pow ha hb
  have ha' : a % 2 ^ IntKind.i64.bits = a := Nat.mod_eq_of_lt (Nat.lt_of_lt_of_le ha (by decide))
  have hb' : b % 2 ^ IntKind.i64.bits = b := Nat.mod_eq_of_lt (Nat.lt_of_lt_of_le hb (by decide))
  have e : Go.bits .xor .i64 (a : Int) (b : Int) = ((a ^^^ b : Nat) : Int) := by
    simp only [Go.bits, BitVec.ofInt_natCast, BitVec.toNat_xor, BitVec.toNat_ofNat, ha', hb']
    rw [Go.IntKind.wrap_i64]; omega
  rw [e]; omega
theorem rd_nat (xs : List Int) (i : Nat) : rd xs (i : Int) = xs.getD i 0 := rfl
theorem mx_le (a b : Int) : a ≤ mx a b ∧ b ≤ mx a b ∧ (mx a b = a ∨ mx a b = b) := by unfold mx; split <;> omega
theorem mn_le (a b : Int) : mn a b ≤ a ∧ mn a b ≤ b ∧ (mn a b = a ∨ mn a b = b) := by unfold mn; split <;> omega
/-- From some number of rounds on there is an answer, and it is such a one. -/
def Evx {α : Type} (g : Nat → Option α) (P : α → Prop) : Prop := ∃ r, Ev g r ∧ P r
theorem Evx.now {α : Type} {P : α → Prop} {r : α} (h : P r) : Evx (fun _ => some r) P := ⟨r, Ev.now r, h⟩
theorem Evx.ev {α : Type} {g : Nat → Option α} {P : α → Prop} {r : α} (h : Ev g r) (hP : P r) : Evx g P := ⟨r, h, hP⟩
theorem Evx.mono {α : Type} {g : Nat → Option α} {P Q : α → Prop} (h : Evx g P) (hPQ : ∀ r, P r → Q r) : Evx g Q := by
  obtain ⟨r, h, hP⟩ := h; exact ⟨r, h, hPQ r hP⟩
theorem Evx.bind {α β : Type} {g : Nat → Option α} {f : Nat → α → Option β} {P : α → Prop} {Q : β → Prop} (h : Evx g P) (k : ∀ a, P a → Evx (fun n => f n a) Q) : Evx (fun n => (g n).bind (f n)) Q := by
  obtain ⟨a, h, hP⟩ := h
  obtain ⟨r, h', hQ⟩ := k a hP
  exact ⟨r, Ev.bind h h', hQ⟩
theorem Evx.succ {α : Type} {g : Nat → Option α} {P : α → Prop} (h : Evx (fun k => g (k + 1)) P) : Evx g P := by
  obtain ⟨r, h, hP⟩ := h; exact ⟨r, Ev.succ h, hP⟩
theorem Evx.pos {α : Type} {c : Prop} [Decidable c] {f g : Nat → Option α} {P : α → Prop} (hc : c) (h : Evx f P) : Evx (fun k => if c then f k else g k) P := by
  simp only [if_pos hc]; exact h
theorem Evx.neg {α : Type} {c : Prop} [Decidable c] {f g : Nat → Option α} {P : α → Prop} (hc : ¬ c) (h : Evx g P) : Evx (fun k => if c then f k else g k) P := by
  simp only [if_neg hc]; exact h
theorem Evx.ite {α : Type} {c : Prop} [Decidable c] {f g : Nat → Option α} {P : α → Prop} (h : c → Evx f P) (h' : ¬ c → Evx g P) : Evx (fun k => if c then f k else g k) P := by
  by_cases hc : c
  · exact Evx.pos hc (h hc)
  · exact Evx.neg hc (h' hc)
theorem Evx.someb {α β : Type} {a : α} {f : Nat → α → Option β} {P : β → Prop} (h : Evx (fun n => f n a) P) : Evx (fun n => (some a).bind (f n)) P := h
theorem Evx.conb {α β : Type} {x : Option α} {a : α} {f : Nat → α → Option β} {P : β → Prop} (hx : x = some a) (h : Evx (fun n => f n a) P) : Evx (fun n => x.bind (f n)) P := by subst hx; exact h
theorem Evx.bind1 {α β : Type} {g : Nat → Option α} {f : Nat → α → Option β} {a : α} {Q : β → Prop} (h : Ev g a) (k : Evx (fun n => f n a) Q) : Evx (fun n => (g n).bind (f n)) Q := by
  obtain ⟨r, h', hQ⟩ := k
  exact ⟨r, Ev.bind h h', hQ⟩
theorem rd_bd {s : List Int} (hs : ∀ x ∈ s, 0 ≤ x ∧ x ≤ 255) (i : Int) : 0 ≤ rd s i ∧ rd s i ≤ 255 := by
  unfold rd
  rw [List.getD_eq_getElem?_getD]
  cases h : s[i.toNat]? with
  | none => simp
  | some v => exact hs v (List.mem_of_getElem? h)
theorem mem_set_of {α : Type} {P : α → Prop} {l : List α} (h : ∀ x ∈ l, P x) (i : Nat) (v : α) (hv : P v) : ∀ x ∈ l.set i v, P x := by
  intro x hx
  rcases List.mem_or_eq_of_mem_set hx with hx | hx
  · exact h x hx
  · exact hx ▸ hv

/-! tones and melodies: valid -/
def toneOk (t : S67) : Bool := decide (0 ≤ t.f0 ∧ t.f0 ≤ 20) && (!t.f1 || Int.tmod t.f0 7 == 2)
def melOk (m : List S67) : Bool := decide (m.length ≤ 24) && m.all toneOk
theorem melOk_len {m : List S67} (h : melOk m = true) : m.length ≤ 24 := by
  unfold melOk at h; simp at h; exact h.1
theorem impl_Tone_valid_eq (a : Int) (b : Bool) : impl_Tone_valid.f a b = some (toneOk ⟨a, b⟩) := by
  unfold impl_Tone_valid.f toneOk
  by_cases h : a ≥ 0
  · by_cases h' : a ≤ 20
    · cases b
      · simp [h, h']
      · simp [h, h']
    · simp [h, h']
  · have : ¬ (0 ≤ a) := h
    simp [this]
theorem impl_MelodyValid_ev (m : List S67) : Ev (fun k => impl_MelodyValid.f k m) (melOk m) := by
  unfold impl_MelodyValid.f
  by_cases h : (m.length : Int) > 24
  · refine Ev.eqr (Ev.pos h (Ev.now _)) ?_
    unfold melOk
    rw [decide_eq_false (by omega)]; rfl
  · refine Ev.eqr (Ev.neg h (r := m.all toneOk) ?_) (by unfold melOk; rw [decide_eq_true (by omega)]; rfl)
    have := Ev.over z67 m (fun k (_ : Unit) i => impl_MelodyValid.l0 k m m.length i) (fun _ l => l.all toneOk) (fun _ _ => True) (by
      intro s _
      refine Ev.succ ?_
      simp only [impl_MelodyValid.l0]
      exact Ev.neg (by omega) (Ev.now _)) (by
      intro s i rest _ hi _ ih
      refine Ev.succ ?_
      simp only [impl_MelodyValid.l0]
      refine Ev.pos (by omega) (Ev.pos (by omega) (Ev.pos (by omega) (Ev.conb (impl_Tone_valid_eq _ _) ?_)))
      show Ev _ (toneOk (rd_T67 m i) && _)
      cases ht : toneOk (rd_T67 m i)
      · exact Ev.neg (by simp [ht]) (Ev.now _)
      · refine Ev.pos (by simp [ht]) ?_
        rw [w64 (by omega) (by omega)]
        simpa using ih () trivial) 0 () (Nat.zero_le _) trivial
    simpa using this

/-! the reference's tones and melodies: valid -/
theorem spec_l6In_eq (a b c : Int) : spec_l6In.f a b c = some (decide (b ≤ a ∧ a ≤ c)) := by
  unfold spec_l6In.f
  by_cases h : a ≥ b
  · rw [if_pos h]; simp [show b ≤ a from h]
  · rw [if_neg h]; simp [show ¬ b ≤ a from h]
theorem spec_ToneValid_eq (a : Int) (b : Bool) : spec_ToneValid.f a b = some (toneOk ⟨a, b⟩) := by
  unfold spec_ToneValid.f toneOk
  rw [spec_l6In_eq]
  by_cases h : 0 ≤ a ∧ a ≤ 20
  · cases b <;> simp [h, spec_l1Letter.f]
  · simp [h]
theorem spec_MelodyValid_ev (m : List S67) (hm : m.length ≤ 1000000000000) : Ev (fun k => spec_MelodyValid.f k m) (melOk m) := by
  unfold spec_MelodyValid.f
  have := Ev.over z67 m (fun k (_ : Unit) i => spec_MelodyValid.l0 k m i) (fun _ l => l.all toneOk && decide (m.length ≤ 24)) (fun _ _ => True) (by
      intro s _
      refine Ev.succ ?_
      simp only [spec_MelodyValid.l0]
      refine Ev.eqr (Ev.neg (by omega) (Ev.now _)) ?_
      simp; omega) (by
      intro s i rest _ hi _ ih
      refine Ev.succ ?_
      simp only [spec_MelodyValid.l0]
      refine Ev.pos (by omega) (Ev.pos (by omega) (Ev.conb (spec_ToneValid_eq _ _) ?_))
      show Ev _ (toneOk (rd_T67 m i) && _ && _)
      cases ht : toneOk (rd_T67 m i)
      · exact Ev.neg (by simp [ht]) (Ev.now _)
      · refine Ev.pos (by simp [ht]) ?_
        rw [w64 (by omega) (by omega)]
        simpa using ih () trivial) 0 () (Nat.zero_le _) trivial
  refine Ev.eqr (by simpa using this) ?_
  unfold melOk
  rw [Bool.and_comm]

/-! groups -/
def sizesOk (g : List S65) : Bool := g.all fun x => decide (1 ≤ x.f0 ∧ x.f0 ≤ 4)
def total : List S65 → Int
  | [] => 0
  | x :: xs => x.f0 + total xs
def gOk (m : List S67) (g : List S65) : Bool := melOk m && (sizesOk g && (total g == (m.length : Int)))
theorem total_app (a b : List S65) : total (a ++ b) = total a + total b := by
  induction a with
  | nil => simp [total]
  | cons x xs ih => simp only [List.cons_append, total, ih]; omega
theorem sizesOk_app (a b : List S65) : sizesOk (a ++ b) = (sizesOk a && sizesOk b) := by simp [sizesOk]
theorem total_ge {g : List S65} (h : sizesOk g = true) : (g.length : Int) ≤ total g := by
  induction g with
  | nil => simp [total]
  | cons x xs ih =>
    simp [sizesOk] at h ih
    have := ih h.2
    simp only [total, List.length_cons]
    omega
theorem gOk_mel {m : List S67} {g : List S65} (h : gOk m g = true) : melOk m = true := by
  unfold gOk at h; simp at h; exact h.1
theorem gOk_sizes {m : List S67} {g : List S65} (h : gOk m g = true) : sizesOk g = true := by
  unfold gOk at h; simp at h; exact h.2.1
theorem gOk_total {m : List S67} {g : List S65} (h : gOk m g = true) : total g = (m.length : Int) := by
  unfold gOk at h; simp at h; exact h.2.2
theorem gOk_len {m : List S67} {g : List S65} (h : gOk m g = true) : g.length ≤ 24 := by
  have a := total_ge (gOk_sizes h)
  have b := gOk_total h
  have c := melOk_len (gOk_mel h)
  omega
def goG (acc : List S80) (rest : List S67) : List S65 → List S80 × Bool
  | [] => (acc, ((rest.length : Int) == 0))
  | x :: xs => if x.f0 < 1 ∨ x.f0 > 4 ∨ x.f0 > (rest.length : Int) then ([], false) else goG (acc ++ [⟨rest.take x.f0.toNat, x.f1⟩]) (rest.drop x.f0.toNat) xs
theorem goG_ok : ∀ (g : List S65) (acc : List S80) (rest : List S67), (goG acc rest g).2 = (sizesOk g && (total g == (rest.length : Int)))
  | [], acc, rest => by
    simp only [goG, sizesOk, total, List.all_nil, Bool.true_and]
    rw [Bool.eq_iff_iff, beq_iff_eq, beq_iff_eq]; exact eq_comm
  | x :: xs, acc, rest => by
    simp only [goG]
    split
    · rename_i h
      symm
      rw [Bool.and_eq_false_iff]
      by_cases hs : sizesOk (x :: xs) = true
      · right
        have hs' : (1 ≤ x.f0 ∧ x.f0 ≤ 4) ∧ sizesOk xs = true := by simpa [sizesOk] using hs
        have := total_ge hs'.2
        rw [beq_eq_false_iff_ne]
        simp only [total]
        omega
      · left; simpa using hs
    · rename_i h
      rw [goG_ok xs]
      have h1 : (1 ≤ x.f0 ∧ x.f0 ≤ 4) := by omega
      have e : sizesOk (x :: xs) = sizesOk xs := by simp [sizesOk, h1]
      rw [e]
      congr 1
      rw [Bool.eq_iff_iff]
      simp [total]
      omega
theorem impl_groupsOf_ev (m : List S67) (g : List S65) (hg : g.length ≤ 1000000000000) : Ev (fun k => impl_groupsOf.f k m g) (if melOk m = true then goG [] m g else ([], false)) := by
  unfold impl_groupsOf.f
  refine Ev.bind (impl_MelodyValid_ev m) ?_
  by_cases hm : melOk m = true
  · rw [if_pos hm]
    refine Ev.pos hm ?_
    have hml := melOk_len hm
    have := Ev.over z65 g (fun k (s : List S80 × List S67) i => impl_groupsOf.l0 k s.1 s.2 g g.length i) (fun s l => goG s.1 s.2 l) (fun _ s => s.1.length + s.2.length ≤ 24) (by
      intro s _
      refine Ev.succ ?_
      simp only [impl_groupsOf.l0]
      exact Ev.neg (by omega) (Ev.now _)) (by
      intro s i rest hI hi _ ih
      refine Ev.succ ?_
      simp only [impl_groupsOf.l0]
      refine Ev.pos (by omega) (Ev.pos (by omega) (Ev.pos (by omega) ?_))
      show Ev _ (goG s.1 s.2 (rd_T65 g i :: rest))
      generalize rd_T65 g i = x
      simp only [goG]
      by_cases h : x.f0 < 1 ∨ x.f0 > 4 ∨ x.f0 > (s.2.length : Int)
      · rw [if_pos h]
        by_cases h1 : x.f0 < 1
        · exact Ev.pos h1 (Ev.now _)
        · refine Ev.neg h1 ?_
          by_cases h2 : x.f0 > 4
          · exact Ev.pos h2 (Ev.now _)
          · exact Ev.neg h2 (Ev.pos (by omega) (Ev.now _))
      · rw [if_neg h]
        refine Ev.neg (by omega) (Ev.neg (by omega) (Ev.neg (by omega) (Ev.pos (by omega) (Ev.pos (by omega) (Ev.pos (by omega) ?_)))))
        rw [w64 (by omega) (by omega)]
        exact ih (s.1 ++ [⟨s.2.take x.f0.toNat, x.f1⟩], s.2.drop x.f0.toNat) (by simp; omega)) 0 ([], m) (Nat.zero_le _) (by simpa using hml)
    simpa using this
  · rw [if_neg hm]
    exact Ev.neg hm (Ev.now _)
theorem spec_GroupsValid_ev (m : List S67) (g : List S65) (hm : m.length ≤ 1000000000000) (hg : g.length ≤ 1000000000000) : Ev (fun k => spec_GroupsValid.f k m g) (gOk m g) := by
  unfold spec_GroupsValid.f
  refine Ev.bind (spec_MelodyValid_ev m hm) ?_
  cases hok : melOk m
  · refine Ev.neg (by simp) (Ev.succ ?_)
    simp only [spec_GroupsValid.j0, if_true]
    refine Ev.eqr (Ev.now _) ?_
    unfold gOk; rw [hok]; rfl
  · refine Ev.pos rfl ?_
    have hml := melOk_len hok
    by_cases hl : (g.length : Int) > 24
    · rw [decide_eq_true hl]
      refine Ev.succ ?_
      simp only [spec_GroupsValid.j0, if_true]
      refine Ev.eqr (Ev.now _) ?_
      symm
      rw [Bool.eq_false_iff]
      intro h
      have := gOk_len h
      omega
    · rw [decide_eq_false hl]
      refine Ev.succ ?_
      simp only [spec_GroupsValid.j0]
      refine Ev.neg (by simp) ?_
      have := Ev.over z65 g (fun k (s : Int) i => spec_GroupsValid.l0 k m g s i) (fun s l => sizesOk l && (s + total l == (m.length : Int))) (fun i s => 0 ≤ s ∧ s ≤ 4 * i) (by
        intro s _
        refine Ev.succ ?_
        simp only [spec_GroupsValid.l0]
        refine Ev.eqr (Ev.neg (by omega) (Ev.now _)) ?_
        simp [sizesOk, total]) (by
        intro s i rest hI hi _ ih
        refine Ev.succ ?_
        simp only [spec_GroupsValid.l0]
        refine Ev.pos (by omega) (Ev.pos (by omega) (Ev.conb (spec_l6In_eq _ _ _) ?_))
        show Ev _ (sizesOk (rd_T65 g i :: rest) && (s + total (rd_T65 g i :: rest) == (m.length : Int)))
        generalize rd_T65 g i = x
        by_cases h : 1 ≤ x.f0 ∧ x.f0 ≤ 4
        · refine Ev.pos (by simp [h]) ?_
          rw [w64 (x := s + x.f0) (by omega) (by omega), w64 (by omega) (by omega)]
          refine Ev.eqr (ih (s + x.f0) (by omega)) ?_
          have e : sizesOk (x :: rest) = sizesOk rest := by simp [sizesOk, h]
          rw [e]
          simp only [total]
          rw [Int.add_assoc]
        · refine Ev.eqr (Ev.neg (by simp only [decide_eq_true_eq]; exact h) (Ev.now _)) ?_
          have e : sizesOk (x :: rest) = false := by simp only [sizesOk, List.all_cons, decide_eq_false h, Bool.false_and]
          rw [e]; rfl) 0 0 (Nat.zero_le _) (by omega)
      refine Ev.eqr (by simpa using this) ?_
      unfold gOk
      rw [hok]; simp
def gjoin (m : List S67) (g : List S65) (k : Int) : List S65 × Bool :=
  if gOk m g = true ∧ 0 ≤ k ∧ k < (g.length : Int) - 1 ∧ (rd_T65 g k).f0 + (rd_T65 g (k + 1)).f0 ≤ 4 then (g.take k.toNat ++ [⟨(rd_T65 g k).f0 + (rd_T65 g (k + 1)).f0, (rd_T65 g (k + 1)).f1⟩] ++ g.drop (k + 2).toNat, true) else ([], false)
def gsplit (m : List S67) (g : List S65) (i k : Int) : List S65 × Bool :=
  if gOk m g = true ∧ 0 ≤ i ∧ i < (g.length : Int) ∧ 1 ≤ k ∧ k < (rd_T65 g i).f0 then (g.take i.toNat ++ [⟨k, false⟩, ⟨(rd_T65 g i).f0 - k, (rd_T65 g i).f1⟩] ++ g.drop (i + 1).toNat, true) else ([], false)
theorem rd_mid (A : List S65) (x : S65) (B : List S65) : rd_T65 (A ++ x :: B) (A.length : Int) = x := by simp [rd_T65]
theorem rd_mid' (A : List S65) (x y : S65) (B : List S65) : rd_T65 (A ++ x :: y :: B) ((A.length : Int) + 1) = y := by
  have : ((A.length : Int) + 1).toNat = A.length + 1 := by omega
  simp [rd_T65, this]
theorem size_of {g : List S65} (h : sizesOk g = true) {k : Int} (h0 : 0 ≤ k) (h1 : k < g.length) : 1 ≤ (rd_T65 g k).f0 ∧ (rd_T65 g k).f0 ≤ 4 := by
  have hlt : k.toNat < g.length := by omega
  unfold rd_T65
  rw [List.getD_eq_getElem?_getD, List.getElem?_eq_getElem hlt]
  unfold sizesOk at h
  have := List.all_eq_true.1 h _ (List.getElem_mem hlt)
  simpa using this
theorem cut_at {g : List S65} {k : Int} (h0 : 0 ≤ k) (h1 : k < g.length) : ∃ A x B, g = A ++ x :: B ∧ (A.length : Int) = k := by
  have hlt : k.toNat < g.length := by omega
  refine ⟨g.take k.toNat, g[k.toNat], g.drop (k.toNat + 1), ?_, by rw [List.length_take]; omega⟩
  rw [← List.drop_eq_getElem_cons hlt, List.take_append_drop]
theorem cut_at2 {g : List S65} {k : Int} (h0 : 0 ≤ k) (h1 : k < (g.length : Int) - 1) : ∃ A x y B, g = A ++ x :: y :: B ∧ (A.length : Int) = k := by
  obtain ⟨A, x, B, rfl, hk⟩ := cut_at (g := g) h0 (by omega)
  cases B with
  | nil => simp at h1; omega
  | cons y B => exact ⟨A, x, y, B, rfl, hk⟩
theorem gOk_join {m : List S67} {g : List S65} {k : Int} (h : gOk m g = true) (h0 : 0 ≤ k) (h1 : k < (g.length : Int) - 1) (b : Bool) :
    gOk m (g.take k.toNat ++ [⟨(rd_T65 g k).f0 + (rd_T65 g (k + 1)).f0, b⟩] ++ g.drop (k + 2).toNat) = decide ((rd_T65 g k).f0 + (rd_T65 g (k + 1)).f0 ≤ 4) := by
  have hm := gOk_mel h
  have hs := gOk_sizes h
  have ht := gOk_total h
  obtain ⟨A, x, y, B, rfl, rfl⟩ := cut_at2 h0 h1
  have e2 : ((A.length : Int) + 2).toNat = A.length + 2 := by omega
  rw [rd_mid, rd_mid', e2]
  simp only [Int.toNat_natCast]
  have d1 : (A ++ x :: y :: B).take A.length = A := by simp
  have d2 : (A ++ x :: y :: B).drop (A.length + 2) = B := by
    rw [List.drop_append]; simp
  rw [d1, d2]
  unfold gOk
  rw [hm]
  simp only [total_app, total, sizesOk_app] at ht hs ⊢
  have hs' : sizesOk A = true ∧ (1 ≤ x.f0 ∧ x.f0 ≤ 4) ∧ (1 ≤ y.f0 ∧ y.f0 ≤ 4) ∧ sizesOk B = true := by simpa [sizesOk] using hs
  have e3 : (total A + (x.f0 + y.f0 + 0) + total B == (m.length : Int)) = true := by rw [beq_iff_eq]; omega
  rw [e3, hs'.1, hs'.2.2.2]
  rw [Bool.eq_iff_iff]
  simp [sizesOk]
  omega

/-! cutting one group out -/
theorem Ev.upto {ρ σ : Type} (L : Nat → σ → Int → Option ρ) (S : Nat → σ) (n : Nat) (r : ρ) (hend : Ev (fun k => L k (S n) (n : Int)) r)
    (hstep : ∀ i < n, Ev (fun k => L k (S (i + 1)) ((i : Int) + 1)) r → Ev (fun k => L k (S i) (i : Int)) r) : ∀ i ≤ n, Ev (fun k => L k (S i) (i : Int)) r := by
  intro i hi
  obtain ⟨d, hd⟩ : ∃ d, d = n - i := ⟨_, rfl⟩
  induction d generalizing i with
  | zero => obtain rfl : i = n := by omega
            exact hend
  | succ d ih =>
    have := ih (i + 1) (by omega) (by omega)
    refine hstep i (by omega) ?_
    simpa using this
def gof (m : List S67) (g : List S65) : List S80 × Bool := if melOk m = true then goG [] m g else ([], false)
theorem gof_ok (m : List S67) (g : List S65) : (gof m g).2 = gOk m g := by
  unfold gof gOk
  by_cases hm : melOk m = true
  · rw [if_pos hm, goG_ok, hm]; rfl
  · rw [if_neg hm]; simp at hm; rw [hm]; rfl
theorem goG_at : ∀ (g : List S65) (acc : List S80) (rest : List S67), (goG acc rest g).2 = true → (goG acc rest g).1.length = acc.length + g.length ∧ ∃ t, (goG acc rest g).1 = acc ++ t ∧ ∀ i, i < g.length → (t.getD i z80).f0 = (rest.drop (total (g.take i)).toNat).take (g.getD i z65).f0.toNat
  | [], acc, rest, _ => by
    refine ⟨by simp [goG], [], by simp [goG], fun i hi => absurd hi (by simp)⟩
  | x :: xs, acc, rest, h => by
    have hs : sizesOk (x :: xs) = true := by
      have := goG_ok (x :: xs) acc rest
      rw [h] at this
      simp at this
      exact this.1
    simp only [goG] at h ⊢
    split at h
    · exact absurd h (by simp)
    · rename_i hx
      rw [if_neg hx]
      obtain ⟨h1, t, h2, h3⟩ := goG_at xs _ _ h
      refine ⟨by rw [h1]; simp; omega, ⟨rest.take x.f0.toNat, x.f1⟩ :: t, by rw [h2]; simp, fun i hi => ?_⟩
      cases i with
      | zero => simp [total]
      | succ i =>
        have hi' : i < xs.length := by simpa using hi
        have := h3 i hi'
        simp only [List.getD_cons_succ, List.take_succ_cons, total] at this ⊢
        rw [this, List.drop_drop]
        have hs' : sizesOk xs = true := by simp [sizesOk] at hs ⊢; exact hs.2
        have h0 : 0 ≤ total (xs.take i) := by
          have : sizesOk (xs.take i) = true := by
            have e := sizesOk_app (xs.take i) (xs.drop i)
            rw [List.take_append_drop, hs'] at e
            simp at e; exact e.1
          have := total_ge this
          omega
        rw [Int.toNat_add (by omega) h0]
def gcut (m : List S67) (g : List S65) (k : Int) : List S67 × Bool :=
  if gOk m g = true ∧ 0 ≤ k ∧ k < (g.length : Int) then ((m.drop (total (g.take k.toNat)).toNat).take (rd_T65 g k).f0.toNat, true) else ([], false)
theorem gcut_len (m : List S67) (g : List S65) (k : Int) : (gcut m g k).1.length ≤ m.length := by
  unfold gcut
  split
  · simp; omega
  · simp
theorem total_take {g : List S65} {i : Nat} (hi : i < g.length) : total (g.take (i + 1)) = total (g.take i) + (rd_T65 g (i : Int)).f0 := by
  rw [List.take_succ_eq_append_getElem hi, total_app]
  simp [total, rd_T65, List.getElem?_eq_getElem hi]
theorem total_bd {g : List S65} (h : sizesOk g = true) (i : Nat) : 0 ≤ total (g.take i) ∧ total (g.take i) ≤ total g := by
  have e := sizesOk_app (g.take i) (g.drop i)
  rw [List.take_append_drop, h] at e
  simp at e
  have a := total_ge e.1
  have b := total_ge e.2
  have c := total_app (g.take i) (g.drop i)
  rw [List.take_append_drop] at c
  omega
theorem spec_l3Begin_ev {g : List S65} (h : sizesOk g = true) (ht : total g ≤ 1000000) {k : Int} (h0 : 0 ≤ k) (h1 : k < g.length) : Ev (fun n => spec_l3Begin.f n g k) (total (g.take k.toNat)) := by
  obtain ⟨K, rfl⟩ := Int.eq_ofNat_of_zero_le h0
  have hK : K < g.length := by omega
  have := Ev.upto (fun n (s : Int) i => spec_l3Begin.l0 n g K s i) (fun i => total (g.take i)) K (total (g.take K)) (by
    refine Ev.succ ?_
    simp only [spec_l3Begin.l0]
    exact Ev.neg (by omega) (Ev.now _)) (by
    intro i hi ih
    have b := total_bd h i
    have b' := total_bd h (i + 1)
    have hl := total_ge h
    rw [total_take (by omega)] at b'
    refine Ev.succ ?_
    simp only [spec_l3Begin.l0]
    refine Ev.pos (by omega) (Ev.pos (by omega) (Ev.pos (by omega) ?_))
    rw [w64 (by omega) (by omega), w64 (by omega) (by omega)]
    rw [total_take (by omega)] at ih
    exact ih) 0 (Nat.zero_le _)
  unfold spec_l3Begin.f
  simpa [total] using this
theorem spec_GroupsCut_ev (m : List S67) (g : List S65) (k : Int) (hm : m.length ≤ 1000000000000) (hg : g.length ≤ 1000000000000) : Ev (fun n => spec_GroupsCut.f n m g k) (gcut m g k) := by
  unfold spec_GroupsCut.f
  refine Ev.bind (spec_GroupsValid_ev m g hm hg) ?_
  cases hok : gOk m g
  · refine Ev.neg (by simp) (Ev.eqr (Ev.now _) ?_)
    unfold gcut; rw [if_neg (fun h => by rw [hok] at h; exact absurd h.1 (by simp))]
  · refine Ev.pos rfl ?_
    rw [w64 (by omega) (by omega)]
    refine Ev.conb (spec_l6In_eq _ _ _) ?_
    by_cases hk : 0 ≤ k ∧ k ≤ (g.length : Int) - 1
    · refine Ev.pos (by simp only [decide_eq_true_eq]; exact hk) ?_
      have hs := gOk_sizes hok
      have ht := gOk_total hok
      have hml := melOk_len (gOk_mel hok)
      refine Ev.bind (spec_l3Begin_ev hs (by omega) hk.1 (by omega)) ?_
      have b := total_bd hs k.toNat
      have b' := total_bd hs (k.toNat + 1)
      have hlt : k.toNat < g.length := by omega
      rw [total_take hlt] at b'
      have ek : ((k.toNat : Nat) : Int) = k := Int.toNat_of_nonneg hk.1
      rw [ek] at b'
      have hz := size_of hs hk.1 (by omega)
      refine Ev.someb ?_
      rw [w64 (x := total (g.take k.toNat) + (rd_T65 g k).f0) (by omega) (by omega)]
      refine Ev.pos hk.1 (Ev.pos (by omega) (Ev.pos b.1 (Ev.pos (by omega) (Ev.pos (by omega) (Ev.someb ?_)))))
      refine Ev.pos (by simp; omega) (Ev.eqr (Ev.now _) ?_)
      unfold gcut
      rw [if_pos ⟨hok, hk.1, by omega⟩, List.nil_append, List.drop_take]
      congr 3
      omega
    · refine Ev.neg (by simp only [decide_eq_true_eq]; exact hk) (Ev.eqr (Ev.now _) ?_)
      unfold gcut; rw [if_neg (fun h => by omega)]

/-! words for own walks -/
theorem cut_take {P : Program} {α : Type} (d : Kd α) (t e : TypeId) {i : TypeInfo} (ht : P.underlying t = some (.slice e)) (hi : P.info? e = some i) {w : World} {A : Option Addr} {c : Nat} {xs : List α} (j : Int) (hr : d.C w A xs.length xs) (hc : xs.length ≤ c) (h0 : 0 ≤ j) (hm : j ≤ xs.length) :
    (∀ W : World, (Instr.slice t (.slice A xs.length c) none (some (.int .i64 j)) none).run P W = .ok (.slice A j.toNat c) W) ∧ d.C w A j.toNat (xs.take j.toNat) ∧ j.toNat ≤ c ∧ (xs.take j.toNat).length = j.toNat := by
  have e1 : (xs.take j.toNat).length = j.toNat := by rw [List.length_take]; omega
  have h := Kd.C_take (m := j.toNat) hr (by omega)
  rw [e1] at h
  exact ⟨cut_to t e .i64 ht hi A _ c j h0 hm hc, h, by omega, e1⟩
theorem cut_drop {P : Program} {α : Type} (d : Kd α) (t e : TypeId) {i : TypeInfo} (ht : P.underlying t = some (.slice e)) (hi : P.info? e = some i) (hsz : i.size = d.sz) {w : World} {A : Option Addr} {c : Nat} {xs : List α} (j : Int) (hr : d.C w A xs.length xs) (hc : xs.length ≤ c) (h0 : 0 ≤ j) (hm : j ≤ xs.length) :
    ∃ A' c', (∀ W : World, (Instr.slice t (.slice A xs.length c) (some (.int .i64 j)) none none).run P W = .ok (.slice A' (xs.length - j.toNat) c') W) ∧ d.C w A' (xs.length - j.toNat) (xs.drop j.toNat) ∧ xs.length - j.toNat ≤ c' ∧ (xs.drop j.toNat).length = xs.length - j.toNat := by
  have e1 : (xs.drop j.toNat).length = xs.length - j.toNat := by rw [List.length_drop]
  have h := Kd.C_drop (m := j.toNat) (c := c) hr (by omega) hc
  rw [e1] at h
  exact ⟨_, _, cut_from t e .i64 ht hi d.sz hsz A _ c j h0 hm, h, by omega, e1⟩
theorem later_cell {w1 : World} {a : Addr} {v : Value} (h : w1.cell? a = some v) : ∀ o, (w1.alloc o).cell? a = some v := fun o => pw_cell_below (below_alloc (Below.refl _ _) o) h
theorem lit_R {α : Type} (d : Kd α) (W : World) (base e : Nat) (hbase : base ≤ W.heap.size) {xs : List α} {inner : List Value} (hrep : Reps (d.M W base (fun _ => False)) d.sz xs inner) (hm : xs.length ≤ 9223372036854775807) :
    d.R e (W.alloc (.cells inner.toArray e)) base (fun _ => True) (.slice (some ⟨W.heap.size, 0, none⟩) xs.length xs.length) xs := by
  refine ⟨fun _ _ => trivial, inner, ?_, ?_⟩
  · have h2 := World.ownsRow_lit (base := base) (e := e) (size := d.sz) W inner.toArray xs.length hbase (by simpa [maxLen] using hm) (by simpa using hrep.1)
    simpa using h2
  · refine hrep.imp_ (fun p c hp => d.M_mono (fun k hk => hk.elim) (Kd.M_below hp (below_alloc (Below.refl _ _) _)))
theorem lit_C {α : Type} (d : Kd α) (W : World) (e : Nat) {xs : List α} {inner : List Value} (hrep : Reps (d.M W W.heap.size (fun _ => False)) d.sz xs inner) (hm : xs.length ≤ 9223372036854775807) :
    d.C (W.alloc (.cells inner.toArray e)) (some ⟨W.heap.size, 0, none⟩) xs.length xs := (Kd.R_reads' (lit_R d W _ e (Nat.le_refl _) hrep hm)).2.2

end Go.Proofs.Ytkahgjejebhgnaa.Pure
