/- Lemmas on the printed functions for the law FnMelodySame. -/
import Derived.Test.YtclpnaaagajhiaaDoorGFnMelodySameg21
import Derived.Test.YtclpnaaagajhiaaDoorGFnMelodySameg25
import Derived.Test.YtclpnaaagajhiaaDoorGFnMelodySameg18
import Derived.Test.YtclpnaaagajhiaaDoorGFnMelodySameg29
import Derived.Test.YtclpnaaagajhiaaDoorQFnMelodySameq0
import Derived.Test.YtclpnaaagajhiaaDoorQFnMelodySameq1
import Derived.Test.YtclpnaaagajhiaaDoorQFnMelodySameq2
import Derived.Test.YtclpnaaagajhiaaDoorQFnMelodySameq3
import Derived.Deep.RegionHeld3
import Derived.BigRegion
import Derived.Deep.Slices
import Derived.Laws.CopyOwn
namespace Go.Proofs.YtclpnaaagajhiaaDoor.Pure
set_option linter.unusedVariables false
set_option linter.unusedSimpArgs false
open Go Go.RowKit Go.Proofs.YtclpnaaagajhiaaDoor.PFnMelodySame Go.Proofs.YtclpnaaagajhiaaDoorW.PrintWords Go.Proofs.YtclpnaaagajhiaaDoorW.PrintLast Go.Proofs.YtclpnaaagajhiaaDoorW.PrintMore

/-! the reference's tones and melodies: valid -/
theorem spec_l6In_eq (a b c : Int) : spec_l6In.f a b c = some (decide (b ≤ a ∧ a ≤ c)) := by
  unfold spec_l6In.f
  by_cases h : a ≥ b
  · rw [if_pos h]; simp [show b ≤ a from h]
  · rw [if_neg h]; simp [show ¬ b ≤ a from h]

/-! the reference's tones and melodies: valid -/
theorem spec_ToneValid_eq (a : Int) (b : Bool) : spec_ToneValid.f a b = some (toneOk ⟨a, b⟩) := by
  unfold spec_ToneValid.f toneOk
  rw [spec_l6In_eq]
  by_cases h : 0 ≤ a ∧ a ≤ 20
  · cases b <;> simp [h, spec_l1Letter.f]
  · simp [h]
theorem spec_MelodyValid_ev (m : List S29) (hm : m.length ≤ 1000000000000) : Ev (fun k => spec_MelodyValid.f k m) (melOk m) := by
  unfold spec_MelodyValid.f
  have := Ev.over z29 m (fun k (_ : Unit) i => spec_MelodyValid.l0 k m i) (fun _ l => l.all toneOk && decide (m.length ≤ 24)) (fun _ _ => True) (by
      intro s _
      refine Ev.succ ?_
      simp only [spec_MelodyValid.l0]
      refine Ev.eqr (Ev.neg (by omega) (Ev.now _)) ?_
      simp; omega) (by
      intro s i rest _ hi _ ih
      refine Ev.succ ?_
      simp only [spec_MelodyValid.l0]
      refine Ev.pos (by omega) (Ev.pos (by omega) (Ev.conb (spec_ToneValid_eq _ _) ?_))
      show Ev _ (toneOk (rd_T29 m i) && _ && _)
      cases ht : toneOk (rd_T29 m i)
      · exact Ev.neg (by simp [ht]) (Ev.now _)
      · refine Ev.pos (by simp [ht]) ?_
        rw [w64 (by omega) (by omega)]
        simpa using ih () trivial) 0 () (Nat.zero_le _) trivial
  refine Ev.eqr (by simpa using this) ?_
  unfold melOk
  rw [Bool.and_comm]

theorem spec_l1Height_eq {t : S29} (h : toneOk t = true) : spec_l1Height.f t.f0 t.f1 = some (hgt t) := by
  have h1 := toneOk_bd h
  have h2 := lh_bd t.f0
  have h3 := div7 h1.1 h1.2
  have h4 := mod7 h1.1
  unfold spec_l1Height.f
  have e : spec_l1Letter.f t.f0 = some (Int.tmod t.f0 7) := rfl
  have er : rd ([0, 2, 4, 5, 7, 9, 10] : List Int) (Int.tmod t.f0 7) = lh t.f0 := rfl
  simp only [Option.bind_some]
  rw [e]
  simp only [Option.bind_some]
  rw [if_pos h4.1, if_pos (by simp; omega), er, w64 (x := Int.tdiv t.f0 7) (by omega) (by omega), w64 (x := 12 * Int.tdiv t.f0 7) (by omega) (by omega), w64 (x := 12 * Int.tdiv t.f0 7 + lh t.f0) (by omega) (by omega), w64 (x := 12 * Int.tdiv t.f0 7 + lh t.f0 - 1) (by omega) (by omega)]
  unfold hgt
  split
  · congr 1; omega
  · congr 1; omega
theorem spec_l2Moved_ev (m : List S29) (k semis : Int) (hm : melOk m = true) (hk : -20 ≤ k ∧ k ≤ 20) (hs : -100 ≤ semis ∧ semis ≤ 100) : Ev (fun n => spec_l2Moved.f n m k semis) (movedP k semis m) := by
  unfold spec_l2Moved.f
  have hl := melOk_len hm
  have hall := melOk_all hm
  have := Ev.over z29 m (fun n (y : List S29) i => spec_l2Moved.l0 n m k semis y i) (fun y rest => match mvAll k semis rest with | some l => (y ++ l, true) | none => ([], false)) (fun i y => y.length = i) (by
    intro y _
    refine Ev.succ ?_
    simp only [spec_l2Moved.l0]
    exact Ev.neg (by omega) (Ev.eqr (Ev.now _) (by simp [mvAll]))) (by
    intro y i rest hy hi hdr ih
    have hrd : rd_T29 m (i : Int) = m.getD i z29 := rfl
    have ht : toneOk (m.getD i z29) = true := by
      refine List.all_eq_true.1 hall _ ?_
      rw [List.getD_eq_getElem?_getD, List.getElem?_eq_getElem hi]; exact List.getElem_mem hi
    have hb := toneOk_bd ht
    have hh := hgt_bd ht
    refine Ev.succ ?_
    simp only [spec_l2Moved.l0]
    refine Ev.pos (by omega) ?_
    -- found: on to the next tone
    have found : ∀ (z : List S29) (s : Int), s = 1 ∨ s = 2 → Ev (fun n => spec_l2Moved.l0 n m k semis z ((i : Int) + 1)) (match mvAll k semis rest with | some l => (z ++ l, true) | none => ([], false)) → Ev (fun n => spec_l2Moved.l1 n m k semis z (i : Int) true s) (match mvAll k semis rest with | some l => (z ++ l, true) | none => ([], false)) := by
      intro z s hs h
      have go : Ev (fun n => spec_l2Moved.j2 n m k semis z (i : Int) true s false) (match mvAll k semis rest with | some l => (z ++ l, true) | none => ([], false)) := by
        refine Ev.succ ?_
        simp only [spec_l2Moved.j2]
        rw [w64 (x := (i : Int) + 1) (by omega) (by omega)]
        exact Ev.neg (by simp) (Ev.pos trivial h)
      refine Ev.succ ?_
      simp only [spec_l2Moved.l1, Bool.not_true]
      rcases hs with rfl | rfl
      · exact Ev.pos (by decide) go
      · exact Ev.neg (by decide) go
    -- one try
    have one : ∀ (s : Int) (b : Bool) (R : List S29 × Bool), (s = 0 ∨ s = 1) → (s == 1) = b → (mvGood k semis (m.getD i z29) b = true → Ev (fun n => spec_l2Moved.l1 n m k semis (y ++ [mvT (m.getD i z29) k b]) (i : Int) true (s + 1)) R) → (¬ mvGood k semis (m.getD i z29) b = true → Ev (fun n => spec_l2Moved.l1 n m k semis y (i : Int) false (s + 1)) R) → Ev (fun n => spec_l2Moved.l1 n m k semis y (i : Int) false s) R := by
      intro s b R hs hsb hyes hno
      refine Ev.succ ?_
      simp only [spec_l2Moved.l1, Bool.not_false]
      refine Ev.pos (by omega) (Ev.succ ?_)
      simp only [spec_l2Moved.j2]
      rw [hrd, w64 (x := s + 1) (by omega) (by omega), hsb]
      generalize m.getD i z29 = t at ht hb hh hyes hno
      rw [w64 (x := t.f0 + k) (by omega) (by omega)]
      refine Ev.pos trivial (Ev.pos (by omega) (Ev.pos (by omega) (Ev.conb (spec_ToneValid_eq _ _) ?_)))
      have e : (⟨t.f0 + k, b⟩ : S29) = mvT t k b := rfl
      rw [e]
      unfold mvGood at hyes hno
      cases hv : toneOk (mvT t k b)
      · exact Ev.neg (by simp) (hno (by rw [hv]; simp))
      · have hh2 := hgt_bd hv
        have e1 : spec_l1Height.f (t.f0 + k) b = some (hgt (mvT t k b)) := spec_l1Height_eq (t := mvT t k b) hv
        refine Ev.pos rfl (Ev.conb e1 (Ev.conb (spec_l1Height_eq ht) ?_))
        rw [w64 (x := hgt (mvT t k b) - hgt t) (by omega) (by omega)]
        by_cases hc : hgt (mvT t k b) - hgt t = semis
        · exact Ev.pos hc (Ev.pos (by omega) (hyes (by rw [hv, decide_eq_true hc]; rfl)))
        · exact Ev.neg hc (hno (by rw [decide_eq_false hc]; simp))
    simp only [mvAll]
    refine one 0 false _ (.inl rfl) rfl (fun h => ?_) (fun h => one (0 + 1) true _ (.inr rfl) rfl (fun h' => ?_) (fun h' => ?_))
    · rw [if_pos h]
      have := found (y ++ [mvT (m.getD i z29) k false]) (0 + 1) (.inl rfl) (ih _ (by rw [List.length_append, List.length_singleton]; omega))
      refine Ev.eqr this ?_
      cases mvAll k semis rest <;> simp
    · rw [if_neg h, if_pos h']
      have := found (y ++ [mvT (m.getD i z29) k true]) (0 + 1 + 1) (.inr rfl) (ih _ (by rw [List.length_append, List.length_singleton]; omega))
      refine Ev.eqr this ?_
      cases mvAll k semis rest <;> simp
    · rw [if_neg h, if_neg h']
      refine Ev.succ ?_
      simp only [spec_l2Moved.l1]
      refine Ev.neg (by decide) (Ev.succ ?_)
      simp only [spec_l2Moved.j2]
      exact Ev.neg (by simp) (Ev.neg (by simp) (Ev.now _))) 0 [] (Nat.zero_le _) rfl
  refine Ev.eqr (by simpa using this) ?_
  unfold movedP
  cases mvAll k semis m <;> rfl
theorem spec_MelodyMove_ev (m : List S29) (k : Int) (hml : m.length ≤ 1000000000000) : Ev (fun n => spec_MelodyMove.f n m k) (mmove m k) := by
  unfold spec_MelodyMove.f mmove
  by_cases h0 : (m.length : Int) = 0
  · have e : m = [] := List.eq_nil_of_length_eq_zero (by omega)
    subst e
    exact Ev.pos rfl (Ev.now _)
  refine Ev.neg h0 (Ev.bind (spec_MelodyValid_ev m hml) ?_)
  have no : Ev (fun n => spec_MelodyMove.j0 n m k true) (([] : List S29), false) := by
    refine Ev.succ ?_
    simp only [spec_MelodyMove.j0]
    exact Ev.pos trivial (Ev.now _)
  cases hok : melOk m
  · exact Ev.neg (by simp) (Ev.eqr no (by simp))
  refine Ev.pos rfl (Ev.conb (spec_l6In_eq _ _ _) ?_)
  rw [if_pos rfl, if_neg (by omega)]
  by_cases hk : -20 ≤ k ∧ k ≤ 20
  · rw [decide_eq_true hk, if_pos hk]
    refine Ev.succ ?_
    simp only [spec_MelodyMove.j0]
    refine Ev.neg (by simp) ?_
    have hl := melOk_len hok
    have ht : toneOk (rd_T29 m 0) = true := List.all_eq_true.1 (melOk_all hok) _ (by
      unfold rd_T29
      rw [List.getD_eq_getElem?_getD, List.getElem?_eq_getElem (by simp; omega)]; exact List.getElem_mem _)
    have hb := toneOk_bd ht
    have hh := hgt_bd ht
    have one : ∀ (s : Int) (b : Bool) (R : List S29 × Bool), (s = 0 ∨ s = 1) → (s == 1) = b → (mmTry m k b = true → R = (mmOf m k b, true)) → (¬ mmTry m k b = true → Ev (fun n => spec_MelodyMove.l0 n m k (s + 1)) R) → Ev (fun n => spec_MelodyMove.l0 n m k s) R := by
      intro s b R hs hsb hyes hno
      refine Ev.succ ?_
      simp only [spec_MelodyMove.l0]
      rw [w64 (x := s + 1) (by omega) (by omega), hsb]
      unfold mmTry mmOf at hyes
      unfold mmTry at hno
      generalize hT : rd_T29 m 0 = t at ht hb hh hyes hno
      rw [w64 (x := t.f0 + k) (by omega) (by omega)]
      refine Ev.pos (by omega) (Ev.pos (by omega) (Ev.conb (spec_ToneValid_eq _ _) ?_))
      have e : (⟨t.f0 + k, b⟩ : S29) = mvT t k b := rfl
      rw [e]
      cases hv : toneOk (mvT t k b)
      · exact Ev.neg (by simp) (hno (by rw [hv]; simp))
      · have hh2 := hgt_bd hv
        have e1 : spec_l1Height.f (t.f0 + k) b = some (hgt (mvT t k b)) := spec_l1Height_eq (t := mvT t k b) hv
        refine Ev.pos rfl (Ev.conb e1 (Ev.conb (spec_l1Height_eq ht) ?_))
        rw [w64 (x := hgt (mvT t k b) - hgt t) (by omega) (by omega)]
        refine Ev.bind (spec_l2Moved_ev m k _ hok hk (by omega)) ?_
        cases hp : (movedP k (hgt (mvT t k b) - hgt t) m).2
        · exact Ev.neg (by simp) (hno (by rw [hp]; simp))
        · exact Ev.pos rfl (Ev.eqr (Ev.now _) (hyes (by rw [hv, hp]; rfl)).symm)
    refine one 0 false _ (.inl rfl) rfl (fun h => by rw [if_pos h]) (fun h => one (0 + 1) true _ (.inr rfl) rfl (fun h' => by rw [if_neg h, if_pos h']) (fun h' => ?_))
    rw [if_neg h, if_neg h']
    refine Ev.succ ?_
    simp only [spec_MelodyMove.l0]
    exact Ev.neg (by decide) (Ev.now _)
  · rw [decide_eq_false hk, if_neg hk]
    exact no

/-! pick: a number from 0 to n-1 -/
structure Code (s : List Int) : Prop where
  b : ∀ x ∈ s, 0 ≤ x ∧ x ≤ 255
  l : s.length ≤ 2000
theorem open_ev (l0 : List Int) (hw : ∀ x ∈ l0, (Lit.int .u8 x).wf = true) : ∃ s, spec_l6Open.f l0 = some (s, 0) ∧ Code s := by
  have hb : ∀ x ∈ l0, 0 ≤ x ∧ x ≤ 255 := by
    intro x hx
    have := hw x hx
    have e1 : IntKind.u8.min = 0 := by decide
    have e2 : IntKind.u8.max = 255 := by decide
    simp only [Lit.wf, e1, e2] at this
    simpa using this
  unfold spec_l6Open.f
  by_cases h : (l0.length : Int) > 2000
  · refine ⟨l0.take 2000, by rw [if_pos h, if_pos (by omega)], ⟨fun x hx => hb x (List.mem_of_mem_take hx), by rw [List.length_take]; omega⟩⟩
  · exact ⟨l0, by rw [if_neg h], ⟨hb, by omega⟩⟩
theorem pick_ev {s : List Int} (hc : Code s) (p n : Int) (hp : 0 ≤ p) (hp' : p ≤ 1000000000) :
    Evx (fun k => spec_l6Rd_pick.f k s p n) (fun r => 0 ≤ r.1 ∧ (r.1 < n ∨ r.1 = 0) ∧ r.2 = p + 1) := by
  have hw : wrap64 (p + 1) = p + 1 := w64 (by omega) (by omega)
  have hw' : wrap64 (p + 1 - 1) = p := by rw [w64 (by omega) (by omega)]; omega
  have hl := hc.l
  unfold spec_l6Rd_pick.f
  rw [hw]
  by_cases hn : n < 1
  · refine Evx.pos hn (Evx.succ ?_)
    simp only [spec_l6Rd_pick.j0, if_true]
    exact Evx.now ⟨by simp, by simp, rfl⟩
  · refine Evx.neg hn (Evx.succ ?_)
    have tm : ∀ x : Int, 0 ≤ x → 0 ≤ Int.tmod x n ∧ Int.tmod x n < n := fun x hx => ⟨Int.tmod_nonneg n hx, Int.tmod_lt_of_pos x (by omega)⟩
    by_cases h0 : s.length = 0
    · have e : ((s.length : Int) == 0) = true := by simp [h0]
      simp only [spec_l6Rd_pick.j0, e, if_true]
      exact Evx.now ⟨by simp, by simp, rfl⟩
    · have e : ((s.length : Int) == 0) = false := by rw [beq_eq_false_iff_ne]; omega
      simp only [spec_l6Rd_pick.j0, e, hw']
      refine Evx.neg (by simp) ?_
      by_cases hlt : p < (s.length : Int)
      · refine Evx.pos hlt (Evx.pos hp (Evx.neg (by omega) (Evx.now ?_)))
        have hb := rd_bd hc.b p
        rw [w64 (x := rd s p) (by omega) (by omega)]
        have := tm (rd s p) hb.1
        exact ⟨this.1, .inl this.2, rfl⟩
      · refine Evx.neg hlt (Evx.neg (by omega) ?_)
        have t1 : 0 ≤ Int.tmod p s.length := Int.tmod_nonneg _ hp
        have t1' : Int.tmod p s.length < s.length := Int.tmod_lt_of_pos p (by omega)
        rw [w64 (x := p * 7) (by omega) (by omega), w64 (x := p * 7 + 3) (by omega) (by omega)]
        have t2 : 0 ≤ Int.tmod (p * 7 + 3) s.length := Int.tmod_nonneg _ (by omega)
        have t2' : Int.tmod (p * 7 + 3) s.length < s.length := Int.tmod_lt_of_pos _ (by omega)
        refine Evx.pos t1 (Evx.pos t1' (Evx.pos t2 (Evx.pos t2' (Evx.neg (by omega) (Evx.now ?_)))))
        have hb1 := rd_bd hc.b (Int.tmod p s.length)
        have hb2 := rd_bd hc.b (Int.tmod (p * 7 + 3) s.length)
        have hd : 0 ≤ Int.tdiv p s.length ∧ Int.tdiv p s.length ≤ p := by
          rw [Int.tdiv_eq_ediv_of_nonneg hp]
          exact ⟨Int.ediv_nonneg hp (by omega), Int.ediv_le_self _ hp⟩
        generalize rd s (Int.tmod p s.length) = a at *
        generalize rd s (Int.tmod (p * 7 + 3) s.length) = b at *
        generalize Int.tdiv p s.length = c at *
        obtain ⟨X, hX, hX0, hX1⟩ : ∃ X : Int, wrap64 (wrap64 (wrap64 (wrap64 (wrap64 a * 131) + wrap64 (wrap64 b * 1117)) + wrap64 (p * 29)) + wrap64 (wrap64 c * 53)) = X ∧ 0 ≤ X ∧ X < 1000000000000 := by
          refine ⟨a * 131 + b * 1117 + p * 29 + c * 53, ?_, by omega, by omega⟩
          rw [w64 (x := a) (by omega) (by omega), w64 (x := b) (by omega) (by omega), w64 (x := c) (by omega) (by omega), w64 (x := a * 131) (by omega) (by omega), w64 (x := b * 1117) (by omega) (by omega), w64 (x := p * 29) (by omega) (by omega), w64 (x := c * 53) (by omega) (by omega), w64 (x := a * 131 + b * 1117) (by omega) (by omega), w64 (x := a * 131 + b * 1117 + p * 29) (by omega) (by omega), w64 (by omega) (by omega)]
        rw [hX]
        have hq : 0 ≤ Int.tdiv X 64 ∧ Int.tdiv X 64 ≤ X := by
          rw [Int.tdiv_eq_ediv_of_nonneg hX0]; omega
        rw [w64 (x := Int.tdiv X 64) (by omega) (by omega)]
        have := tm _ (xor_bd X (Int.tdiv X 64) hX0 (by omega) hq.1 (by omega))
        exact ⟨this.1, .inl this.2, rfl⟩

/-! l91Melody, l91At -/
theorem drawMelody_loop {s : List Int} (hc : Code s) (n : Int) (hn : n ≤ 1000) (d : Nat) : ∀ (acc : List S29) (step p : Int), (acc.length : Int) + d = n → (∀ t ∈ acc, -1 ≤ t.f0 ∧ t.f0 ≤ 21) → 1 ≤ step → step ≤ 15 → 0 ≤ p → p + 2 * d ≤ 100000000 →
    Evx (fun k => spec_l91Melody.l0 k acc n step acc.length s p) (fun r => (r.1.length : Int) = n ∧ p ≤ r.2 ∧ r.2 ≤ p + 2 * d + 2 ∧ ∀ t ∈ r.1, -1 ≤ t.f0 ∧ t.f0 ≤ 21) := by
  induction d with
  | zero =>
    intro acc step p hl ha h1 h2 hp hp'
    refine Evx.succ ?_
    simp only [spec_l91Melody.l0]
    refine Evx.neg (by omega) (Evx.ite (fun hpos => ?_) (fun _ => Evx.now ⟨(by (try simp only [List.length_set, List.length_drop, List.length_take, List.length_append, List.length_cons, List.length_nil, Int.natCast_add, Int.natCast_one, Int.natCast_zero] at *); omega), (by (try simp only [List.length_set, List.length_drop, List.length_take, List.length_append, List.length_cons, List.length_nil, Int.natCast_add, Int.natCast_one, Int.natCast_zero] at *); omega), (by (try simp only [List.length_set, List.length_drop, List.length_take, List.length_append, List.length_cons, List.length_nil, Int.natCast_add, Int.natCast_one, Int.natCast_zero] at *); omega), ha⟩))
    refine Evx.bind (pick_ev hc p 50 hp (by omega)) ?_
    rintro ⟨r, q⟩ ⟨hr0, hr1, rfl⟩
    refine Evx.ite (fun e => ?_) (fun e => Evx.ite (fun e1 => ?_) (fun _ => Evx.now ⟨(by (try simp only [List.length_set, List.length_drop, List.length_take, List.length_append, List.length_cons, List.length_nil, Int.natCast_add, Int.natCast_one, Int.natCast_zero] at *); omega), (by (try simp only [List.length_set, List.length_drop, List.length_take, List.length_append, List.length_cons, List.length_nil, Int.natCast_add, Int.natCast_one, Int.natCast_zero] at *); omega), (by (try simp only [List.length_set, List.length_drop, List.length_take, List.length_append, List.length_cons, List.length_nil, Int.natCast_add, Int.natCast_one, Int.natCast_zero] at *); omega), ha⟩))
    · refine Evx.someb (Evx.bind (pick_ev hc (p + 1) 3 (by omega) (by omega)) ?_)
      rintro ⟨u, q⟩ ⟨hu0, hu1, rfl⟩
      have hu0 : 0 ≤ u := hu0
      have hu1 : u < 3 ∨ u = 0 := hu1
      refine Evx.pos hu0 (Evx.pos (by (try simp only [List.length_set, List.length_drop, List.length_take, List.length_append, List.length_cons, List.length_nil, Int.natCast_add, Int.natCast_one, Int.natCast_zero] at *); omega) (Evx.pos (by omega) (Evx.now ⟨(by (try simp only [List.length_set, List.length_drop, List.length_take, List.length_append, List.length_cons, List.length_nil, Int.natCast_add, Int.natCast_one, Int.natCast_zero] at *); omega), (by (try simp only [List.length_set, List.length_drop, List.length_take, List.length_append, List.length_cons, List.length_nil, Int.natCast_add, Int.natCast_one, Int.natCast_zero] at *); omega), (by (try simp only [List.length_set, List.length_drop, List.length_take, List.length_append, List.length_cons, List.length_nil, Int.natCast_add, Int.natCast_one, Int.natCast_zero] at *); omega), ?_⟩)))
      refine mem_set_of ha _ _ ?_
      have : u = 0 ∨ u = 1 ∨ u = 2 := by omega
      rcases this with rfl | rfl | rfl <;> simp [rd]
    · rw [w64 (by omega) (by omega)]
      refine Evx.pos (by omega) (Evx.pos (by omega) (Evx.now ⟨(by (try simp only [List.length_set, List.length_drop, List.length_take, List.length_append, List.length_cons, List.length_nil, Int.natCast_add, Int.natCast_one, Int.natCast_zero] at *); omega), (by (try simp only [List.length_set, List.length_drop, List.length_take, List.length_append, List.length_cons, List.length_nil, Int.natCast_add, Int.natCast_one, Int.natCast_zero] at *); omega), (by (try simp only [List.length_set, List.length_drop, List.length_take, List.length_append, List.length_cons, List.length_nil, Int.natCast_add, Int.natCast_one, Int.natCast_zero] at *); omega), ?_⟩))
      refine mem_set_of ha _ _ ?_
      have hlt : (n - 1).toNat < acc.length := by omega
      show -1 ≤ (rd_T29 acc (n - 1)).f0 ∧ (rd_T29 acc (n - 1)).f0 ≤ 21
      unfold rd_T29
      rw [List.getD_eq_getElem?_getD, List.getElem?_eq_getElem hlt]
      exact ha _ (List.getElem_mem hlt)
  | succ d ih =>
    intro acc step p hl ha h1 h2 hp hp'
    refine Evx.succ ?_
    simp only [spec_l91Melody.l0]
    have wl : wrap64 ((acc.length : Int) + 1) = (acc.length : Int) + 1 := w64 (by omega) (by omega)
    have stepok : ∀ u : Int, 0 ≤ u → u < 5 ∨ u = 0 → 1 ≤ mx 1 (mn 15 (wrap64 (wrap64 (step + u) - 2))) ∧ mx 1 (mn 15 (wrap64 (wrap64 (step + u) - 2))) ≤ 15 := by
      intro u hu hu'
      rw [w64 (x := step + u) (by omega) (by omega), w64 (by omega) (by omega)]
      have a := mn_le 15 (step + u - 2)
      have b := mx_le 1 (mn 15 (step + u - 2))
      omega
    refine Evx.pos (by omega) (Evx.someb (Evx.ite (fun _ => ?_) (fun _ => ?_)))
    · refine Evx.bind (pick_ev hc p 3 hp (by omega)) ?_
      rintro ⟨r, q⟩ ⟨hr0, hr1, rfl⟩
      refine Evx.pos (by omega) (Evx.bind (pick_ev hc (p + 1) 5 (by omega) (by omega)) ?_)
      rintro ⟨u, q⟩ ⟨hu0, hu1, rfl⟩
      have so := stepok u hu0 hu1
      have := ih (acc ++ [⟨step, r == 0⟩]) _ (p + 1 + 1) (by (try simp only [List.length_set, List.length_drop, List.length_take, List.length_append, List.length_cons, List.length_nil, Int.natCast_add, Int.natCast_one, Int.natCast_zero] at *); omega) (by
        intro t ht
        rcases List.mem_append.1 ht with ht | ht
        · exact ha t ht
        · obtain rfl := List.mem_singleton.1 ht; exact ⟨(by (try simp only [List.length_set, List.length_drop, List.length_take, List.length_append, List.length_cons, List.length_nil, Int.natCast_add, Int.natCast_one, Int.natCast_zero] at *); omega), (by (try simp only [List.length_set, List.length_drop, List.length_take, List.length_append, List.length_cons, List.length_nil, Int.natCast_add, Int.natCast_one, Int.natCast_zero] at *); omega)⟩) so.1 so.2 (by omega) (by omega)
      simp only [List.length_append, List.length_singleton, Int.natCast_add, Int.natCast_one] at this
      rw [wl]
      exact this.mono (by rintro ⟨m, q⟩ ⟨e1, e2, e3, e4⟩; exact ⟨e1, (by (try simp only [List.length_set, List.length_drop, List.length_take, List.length_append, List.length_cons, List.length_nil, Int.natCast_add, Int.natCast_one, Int.natCast_zero] at *); omega), (by (try simp only [List.length_set, List.length_drop, List.length_take, List.length_append, List.length_cons, List.length_nil, Int.natCast_add, Int.natCast_one, Int.natCast_zero] at *); omega), e4⟩)
    · refine Evx.pos (by omega) (Evx.bind (pick_ev hc p 5 (by omega) (by omega)) ?_)
      rintro ⟨u, q⟩ ⟨hu0, hu1, rfl⟩
      have so := stepok u hu0 hu1
      have := ih (acc ++ [⟨step, false⟩]) _ (p + 1) (by (try simp only [List.length_set, List.length_drop, List.length_take, List.length_append, List.length_cons, List.length_nil, Int.natCast_add, Int.natCast_one, Int.natCast_zero] at *); omega) (by
        intro t ht
        rcases List.mem_append.1 ht with ht | ht
        · exact ha t ht
        · obtain rfl := List.mem_singleton.1 ht; exact ⟨(by (try simp only [List.length_set, List.length_drop, List.length_take, List.length_append, List.length_cons, List.length_nil, Int.natCast_add, Int.natCast_one, Int.natCast_zero] at *); omega), (by (try simp only [List.length_set, List.length_drop, List.length_take, List.length_append, List.length_cons, List.length_nil, Int.natCast_add, Int.natCast_one, Int.natCast_zero] at *); omega)⟩) so.1 so.2 (by omega) (by omega)
      simp only [List.length_append, List.length_singleton, Int.natCast_add, Int.natCast_one] at this
      rw [wl]
      exact this.mono (by rintro ⟨m, q⟩ ⟨e1, e2, e3, e4⟩; exact ⟨e1, (by (try simp only [List.length_set, List.length_drop, List.length_take, List.length_append, List.length_cons, List.length_nil, Int.natCast_add, Int.natCast_one, Int.natCast_zero] at *); omega), (by (try simp only [List.length_set, List.length_drop, List.length_take, List.length_append, List.length_cons, List.length_nil, Int.natCast_add, Int.natCast_one, Int.natCast_zero] at *); omega), e4⟩)
theorem drawMelody_ev {s : List Int} (hc : Code s) (p top : Int) (hp : 0 ≤ p) (hp' : p ≤ 1000000) (hm : 0 ≤ top) (hm' : top ≤ 500) :
    Evx (fun k => spec_l91Melody.f k s p top) (fun r => (r.1.length : Int) ≤ top ∧ p ≤ r.2 ∧ r.2 ≤ p + 2000 ∧ ∀ t ∈ r.1, -1 ≤ t.f0 ∧ t.f0 ≤ 21) := by
  unfold spec_l91Melody.f
  rw [w64 (x := top + 1) (by omega) (by omega)]
  refine Evx.bind (pick_ev hc p (top + 1) hp (by omega)) ?_
  rintro ⟨n, q⟩ ⟨hn0, hn1, rfl⟩
  have hn0 : 0 ≤ n := hn0
  have hn1 : n < top + 1 ∨ n = 0 := hn1
  refine Evx.bind (pick_ev hc (p + 1) 5 (by omega) (by omega)) ?_
  rintro ⟨u, q⟩ ⟨hu0, hu1, rfl⟩
  have hu0 : 0 ≤ u := hu0
  have hu1 : u < 5 ∨ u = 0 := hu1
  have := drawMelody_loop hc n (by omega) n.toNat [] (wrap64 (4 + u)) (p + 1 + 1) (by (try simp only [List.length_set, List.length_drop, List.length_take, List.length_append, List.length_cons, List.length_nil, Int.natCast_add, Int.natCast_one, Int.natCast_zero] at *); omega) (by simp) (by rw [w64 (by omega) (by omega)]; omega) (by rw [w64 (by omega) (by omega)]; omega) (by omega) (by omega)
  exact this.mono (by rintro ⟨m, q⟩ ⟨e1, e2, e3, e4⟩; exact ⟨(by (try simp only [List.length_set, List.length_drop, List.length_take, List.length_append, List.length_cons, List.length_nil, Int.natCast_add, Int.natCast_one, Int.natCast_zero] at *); omega), (by (try simp only [List.length_set, List.length_drop, List.length_take, List.length_append, List.length_cons, List.length_nil, Int.natCast_add, Int.natCast_one, Int.natCast_zero] at *); omega), (by (try simp only [List.length_set, List.length_drop, List.length_take, List.length_append, List.length_cons, List.length_nil, Int.natCast_add, Int.natCast_one, Int.natCast_zero] at *); omega), e4⟩)

/-! moved melodies: plain -/
def MV (k s : Int) : List S29 → List S29 → Prop
  | [], [] => True
  | x :: xs, y :: ys => (y.f0 = x.f0 + k ∧ toneOk y = true ∧ hgt y - hgt x = s) ∧ MV k s xs ys
  | _, _ => False
theorem MV_len {k s : Int} : ∀ {m M : List S29}, MV k s m M → M.length = m.length
  | [], [], _ => rfl
  | x :: xs, y :: ys, h => by rw [List.length_cons, List.length_cons, MV_len h.2]
  | [], _ :: _, h => h.elim
  | _ :: _, [], h => h.elim
theorem MV_get {k s : Int} : ∀ {m M : List S29}, MV k s m M → ∀ i, i < m.length → (M.getD i z29).f0 = (m.getD i z29).f0 + k
  | [], [], _, i, hi => by cases hi
  | x :: xs, y :: ys, h, 0, _ => h.1.1
  | x :: xs, y :: ys, h, i + 1, hi => by
    have := MV_get h.2 i (by simp only [List.length_cons] at hi; omega)
    simpa using this
  | [], _ :: _, h, _, _ => h.elim
  | _ :: _, [], h, _, _ => h.elim
theorem MV_ok {k s : Int} : ∀ {m M : List S29}, MV k s m M → M.all toneOk = true
  | [], [], _ => rfl
  | x :: xs, y :: ys, h => by rw [List.all_cons, h.1.2.1, MV_ok h.2]; rfl
  | [], _ :: _, h => h.elim
  | _ :: _, [], h => h.elim
theorem MV_all {k s : Int} : ∀ {m M : List S29}, mvAll k s m = some M → MV k s m M
  | [], M, h => by cases h; trivial
  | x :: xs, M, h => by
    simp only [mvAll] at h
    have good : ∀ b, mvGood k s x b = true → (mvT x k b).f0 = x.f0 + k ∧ toneOk (mvT x k b) = true ∧ hgt (mvT x k b) - hgt x = s := by
      intro b hb
      unfold mvGood at hb
      rw [Bool.and_eq_true, decide_eq_true_eq] at hb
      exact ⟨rfl, hb.1, hb.2⟩
    split at h
    · rename_i hg
      obtain ⟨l, h1, rfl⟩ := Option.map_eq_some_iff.1 h
      exact ⟨good _ hg, MV_all h1⟩
    · split at h
      · rename_i hg
        obtain ⟨l, h1, rfl⟩ := Option.map_eq_some_iff.1 h
        exact ⟨good _ hg, MV_all h1⟩
      · cases h
theorem MV_back {k s : Int} : ∀ {m M : List S29}, MV k s m M → m.all toneOk = true → ∃ L, mvAll (-k) (-s) M = some L
  | [], [], _, _ => ⟨[], rfl⟩
  | x :: xs, y :: ys, h, ha => by
    rw [List.all_cons, Bool.and_eq_true] at ha
    obtain ⟨L, hL⟩ := MV_back h.2 ha.2
    have e : mvT y (-k) x.f1 = x := by
      unfold mvT
      have : y.f0 + -k = x.f0 := by have := h.1.1; omega
      rw [this]
    have hg : mvGood (-k) (-s) y x.f1 = true := by
      unfold mvGood
      rw [e, ha.1, decide_eq_true (by have := h.1.2.2; omega)]; rfl
    simp only [mvAll]
    by_cases h1 : mvGood (-k) (-s) y false = true
    · rw [if_pos h1, hL]; exact ⟨_, rfl⟩
    · rw [if_neg h1]
      have : x.f1 = true := by
        cases hb : x.f1
        · rw [hb] at hg; exact absurd hg h1
        · rfl
      rw [this] at hg
      rw [if_pos hg, hL]; exact ⟨_, rfl⟩
  | [], _ :: _, h, _ => h.elim
  | _ :: _, [], h, _ => h.elim
theorem MV_trans {k s k' s' : Int} : ∀ {m M B : List S29}, MV k s m M → MV k' s' M B → MV (k + k') (s + s') m B
  | [], [], [], _, _ => trivial
  | x :: xs, y :: ys, z :: zs, h, g => ⟨⟨by have := h.1.1; have := g.1.1; omega, g.1.2.1, by have := h.1.2.2; have := g.1.2.2; omega⟩, MV_trans h.2 g.2⟩
  | [], [], _ :: _, _, g => g.elim
  | [], _ :: _, _, h, _ => h.elim
  | _ :: _, [], _, h, _ => h.elim
  | _ :: _, _ :: _, [], _, g => g.elim
theorem MV_diffs {k s : Int} (g : S29 → S29 → Int) (hg : ∀ x y x' y' : S29, x'.f0 = x.f0 + k → y'.f0 = y.f0 + k → hgt x' - hgt x = s → hgt y' - hgt y = s → g x y = g x' y') : ∀ {m M : List S29}, MV k s m M → diffs g m = diffs g M
  | [], [], _ => rfl
  | [x], [y], _ => rfl
  | x :: x2 :: xs, y :: y2 :: ys, h => by
    have ih := MV_diffs g hg (m := x2 :: xs) (M := y2 :: ys) h.2
    simp only [diffs]
    rw [ih, hg x x2 y y2 h.1.1 h.2.1.1 h.1.2.2 h.2.1.2.2]
  | [], _ :: _, h => h.elim
  | _ :: _, [], h => h.elim
  | [_], _ :: _ :: _, h => h.2.elim
  | _ :: _ :: _, [_], h => h.2.elim
theorem MV_same {k s : Int} {m M : List S29} (hm : melOk m = true) (h : MV k s m M) : msame m M = true := by
  have hM : melOk M = true := by
    have := melOk_len hm
    unfold melOk
    rw [MV_ok h, decide_eq_true (by rw [MV_len h]; exact this)]; rfl
  unfold msame mdiffs
  rw [hm, hM, decide_eq_true (MV_len h).symm]
  simp only [if_true]
  rw [MV_diffs semD (fun x y x' y' h1 h2 h3 h4 => by unfold semD; congr 1; omega) h, MV_diffs stepD (fun x y x' y' h1 h2 h3 h4 => by unfold stepD; congr 1; omega) h]
  simp
theorem mmove_spec {m M : List S29} {k : Int} (h : mmove m k = (M, true)) : melOk m = true ∧ ((m = [] ∧ M = []) ∨ (m ≠ [] ∧ (-20 ≤ k ∧ k ≤ 20) ∧ ∃ s, MV k s m M)) := by
  unfold mmove at h
  split at h
  · rename_i hok
    refine ⟨hok, ?_⟩
    split at h
    · rename_i h0
      cases h
      exact .inl ⟨List.eq_nil_of_length_eq_zero h0, rfl⟩
    · rename_i h0
      refine .inr ⟨fun e => h0 (by rw [e]; rfl), ?_⟩
      split at h
      · rename_i hk
        refine ⟨hk, ?_⟩
        have go : ∀ b, mmTry m k b = true → mmOf m k b = M → ∃ s, MV k s m M := by
          intro b ht ho
          unfold mmTry at ht
          rw [Bool.and_eq_true] at ht
          unfold mmOf at ho
          unfold movedP at ht ho
          obtain ⟨s, hs⟩ : ∃ s, s = hgt (mvT (rd_T29 m 0) k b) - hgt (rd_T29 m 0) := ⟨_, rfl⟩
          rw [← hs] at ht ho
          cases hl : mvAll k s m with
          | none => rw [hl] at ht; exact absurd ht.2 (by simp)
          | some l =>
            rw [hl] at ho
            have ho : l = M := ho
            subst ho
            exact ⟨s, MV_all hl⟩
        split at h
        · rename_i ht
          exact go _ ht (congrArg Prod.fst h)
        · split at h
          · rename_i ht
            exact go _ ht (congrArg Prod.fst h)
          · cases h
      · cases h
  · cases h
theorem mmove_back {m M : List S29} {k : Int} (h : mmove m k = (M, true)) (hne : m ≠ []) : ∃ B, mmove M (-k) = (B, true) := by
  obtain ⟨hok, h1 | ⟨_, hk, s, hmv⟩⟩ := mmove_spec h
  · exact absurd h1.1 hne
  have hM : melOk M = true := by
    have := melOk_len hok
    unfold melOk
    rw [MV_ok hmv, decide_eq_true (by rw [MV_len hmv]; exact this)]; rfl
  have hl := MV_len hmv
  have hpos : 0 < m.length := List.length_pos_iff.2 hne
  obtain ⟨L, hL⟩ := MV_back hmv (melOk_all hok)
  have try_ : mmTry M (-k) (rd_T29 m 0).f1 = true := by
    match m, M, hmv, hok, hL with
    | x :: xs, y :: ys, hmv, hok, hL =>
      have ex : rd_T29 (x :: xs) 0 = x := rfl
      have ey : rd_T29 (y :: ys) 0 = y := rfl
      have hx := melOk_all hok
      rw [List.all_cons, Bool.and_eq_true] at hx
      have e : mvT y (-k) x.f1 = x := by
        unfold mvT
        have : y.f0 + -k = x.f0 := by have := hmv.1.1; omega
        rw [this]
      unfold mmTry
      rw [ex, ey, e, hx.1, show hgt x - hgt y = -s by have := hmv.1.2.2; omega]
      unfold movedP
      rw [hL]; rfl
  unfold mmove
  rw [if_pos hM, if_neg (by omega), if_pos (by omega)]
  by_cases h1 : mmTry M (-k) false = true
  · rw [if_pos h1]; exact ⟨_, rfl⟩
  · rw [if_neg h1]
    cases hb : (rd_T29 m 0).f1
    · rw [hb] at try_; exact absurd try_ h1
    · rw [hb] at try_
      rw [if_pos try_]; exact ⟨_, rfl⟩

theorem MV_refl : ∀ {m : List S29}, m.all toneOk = true → MV 0 0 m m
  | [], _ => trivial
  | x :: xs, h => by
    rw [List.all_cons, Bool.and_eq_true] at h
    exact ⟨⟨by omega, h.1, by omega⟩, MV_refl h.2⟩
theorem MV_symm {k s : Int} : ∀ {m M : List S29}, MV k s m M → m.all toneOk = true → MV (-k) (-s) M m
  | [], [], _, _ => trivial
  | x :: xs, y :: ys, h, ha => by
    rw [List.all_cons, Bool.and_eq_true] at ha
    exact ⟨⟨by have := h.1.1; omega, ha.1, by have := h.1.2.2; omega⟩, MV_symm h.2 ha.2⟩
  | [], _ :: _, h, _ => h.elim
  | _ :: _, [], h, _ => h.elim
theorem MV_append {k s : Int} : ∀ {a b : List S29}, MV k s a b → ∀ {c d : List S29}, MV k s c d → MV k s (a ++ c) (b ++ d)
  | [], [], _, _, _, g => g
  | x :: xs, y :: ys, h, _, _, g => ⟨h.1, MV_append h.2 g⟩
  | [], _ :: _, h, _, _, _ => h.elim
  | _ :: _, [], h, _, _, _ => h.elim
theorem MV_reverse {k s : Int} : ∀ {m M : List S29}, MV k s m M → MV k s m.reverse M.reverse
  | [], [], _ => trivial
  | x :: xs, y :: ys, h => by
    rw [List.reverse_cons, List.reverse_cons]
    exact MV_append (MV_reverse h.2) ⟨h.1, trivial⟩
  | [], _ :: _, h => h.elim
  | _ :: _, [], h => h.elim
theorem MV_some {k s : Int} : ∀ {m M : List S29}, MV k s m M → ∃ L, mvAll k s m = some L
  | [], [], _ => ⟨[], rfl⟩
  | x :: xs, y :: ys, h => by
    obtain ⟨L, hL⟩ := MV_some h.2
    have e : mvT x k y.f1 = y := by
      unfold mvT
      have : x.f0 + k = y.f0 := h.1.1.symm
      rw [this]
    have hg : mvGood k s x y.f1 = true := by
      unfold mvGood
      rw [e, h.1.2.1, decide_eq_true h.1.2.2]; rfl
    simp only [mvAll]
    by_cases h1 : mvGood k s x false = true
    · rw [if_pos h1, hL]; exact ⟨_, rfl⟩
    · rw [if_neg h1]
      have : y.f1 = true := by
        cases hb : y.f1
        · rw [hb] at hg; exact absurd hg h1
        · rfl
      rw [this] at hg
      rw [if_pos hg, hL]; exact ⟨_, rfl⟩
  | [], _ :: _, h => h.elim
  | _ :: _, [], h => h.elim
theorem mmove_of_MV {k s : Int} {x y : S29} {xs ys : List S29} (hok : melOk (x :: xs) = true) (hk : -20 ≤ k ∧ k ≤ 20) (h : MV k s (x :: xs) (y :: ys)) : ∃ B, mmove (x :: xs) k = (B, true) := by
  obtain ⟨L, hL⟩ := MV_some h
  have try_ : mmTry (x :: xs) k y.f1 = true := by
    have ex : rd_T29 (x :: xs) 0 = x := rfl
    have e : mvT x k y.f1 = y := by
      unfold mvT
      have : x.f0 + k = y.f0 := h.1.1.symm
      rw [this]
    unfold mmTry
    rw [ex, e, h.1.2.1, h.1.2.2]
    unfold movedP
    rw [hL]; rfl
  unfold mmove
  rw [if_pos hok, if_neg (by simp), if_pos hk]
  by_cases h1 : mmTry (x :: xs) k false = true
  · rw [if_pos h1]; exact ⟨_, rfl⟩
  · rw [if_neg h1]
    cases hb : y.f1
    · rw [hb] at try_; exact absurd try_ h1
    · rw [hb] at try_
      rw [if_pos try_]; exact ⟨_, rfl⟩
theorem diffs_MV : ∀ (xs ys : List S29) (x y : S29), (x :: xs).all toneOk = true → (y :: ys).all toneOk = true → xs.length = ys.length → diffs semD (x :: xs) = diffs semD (y :: ys) → diffs stepD (x :: xs) = diffs stepD (y :: ys) → MV (y.f0 - x.f0) (hgt y - hgt x) (x :: xs) (y :: ys)
  | [], [], x, y, hx, hy, _, _, _ => by
    rw [List.all_cons, Bool.and_eq_true] at hy
    exact ⟨⟨by omega, hy.1, rfl⟩, trivial⟩
  | x2 :: xs, y2 :: ys, x, y, hx, hy, hl, h1, h2 => by
    simp only [diffs] at h1 h2
    injection h1 with a1 b1
    injection h2 with a2 b2
    rw [List.all_cons, Bool.and_eq_true] at hx hy
    have ih := diffs_MV xs ys x2 y2 hx.2 hy.2 (by simpa using hl) b1 b2
    have hx2 := hx.2
    have hy2 := hy.2
    rw [List.all_cons, Bool.and_eq_true] at hx2 hy2
    have p1 := hgt_bd hx.1
    have p2 := hgt_bd hy.1
    have p3 := hgt_bd hx2.1
    have p4 := hgt_bd hy2.1
    have q1 := toneOk_bd hx.1
    have q2 := toneOk_bd hy.1
    have q3 := toneOk_bd hx2.1
    have q4 := toneOk_bd hy2.1
    unfold semD at a1
    unfold stepD at a2
    rw [w64 (x := hgt x2 - hgt x) (by omega) (by omega), w64 (x := hgt y2 - hgt y) (by omega) (by omega)] at a1
    rw [w64 (x := x2.f0 - x.f0) (by omega) (by omega), w64 (x := y2.f0 - y.f0) (by omega) (by omega)] at a2
    have e1 : y2.f0 - x2.f0 = y.f0 - x.f0 := by omega
    have e2 : hgt y2 - hgt x2 = hgt y - hgt x := by omega
    rw [e1, e2] at ih
    exact ⟨⟨by omega, hy.1, rfl⟩, ih⟩
  | [], _ :: _, _, _, _, _, hl, _, _ => by simp at hl
  | _ :: _, [], _, _, _, _, hl, _, _ => by simp at hl
theorem msame_is {m c : List S29} (h : msame m c = true) : melOk m = true ∧ melOk c = true ∧ m.length = c.length ∧ diffs semD m = diffs semD c ∧ diffs stepD m = diffs stepD c := by
  unfold msame at h
  simp only [Bool.and_eq_true, decide_eq_true_eq, beq_iff_eq] at h
  obtain ⟨h1, h2, h3, h4, h5⟩ := h
  unfold mdiffs at h4 h5
  rw [if_pos h1, if_pos h2] at h4 h5
  exact ⟨h1, h2, h3, h4, h5⟩

theorem spec_MelodySteps_ev (m : List S29) (hm : m.length ≤ 1000000000000) : Ev (fun k => spec_MelodySteps.f k m) (mdiffs stepD m) := by
  unfold spec_MelodySteps.f mdiffs
  cases m with
  | nil =>
    refine Ev.succ ?_
    simp only [spec_MelodySteps.l0]
    refine Ev.eqr (Ev.neg (by simp) (Ev.now _)) ?_
    split <;> rfl
  | cons x l =>
    cases hok : melOk (x :: l)
    · refine Ev.succ ?_
      simp only [spec_MelodySteps.l0]
      by_cases h : (1 : Int) < ((x :: l).length : Int)
      · refine Ev.pos h (Ev.bind (spec_MelodyValid_ev _ hm) ?_)
        rw [hok]
        exact Ev.neg (by simp) (Ev.eqr (Ev.now _) (by simp))
      · exact Ev.neg h (Ev.eqr (Ev.now _) (by simp))
    · have hl := melOk_len hok
      simp only [List.length_cons] at hl
      have := Ev.over z29 l (fun k (s : List Int × S29) q => spec_MelodySteps.l0 k (x :: l) s.1 (q + 1)) (fun s rest => s.1 ++ diffs stepD (s.2 :: rest)) (fun i s => s.1.length = i ∧ s.2 = (x :: l).getD i z29) (by
        rintro ⟨s, p⟩ ⟨h1, h2⟩
        refine Ev.succ ?_
        simp only [spec_MelodySteps.l0]
        refine Ev.neg (by simp) (Ev.eqr (Ev.now _) ?_)
        simp [diffs]) (by
        rintro ⟨s, p⟩ i rest ⟨h1, h2⟩ hi hdr ih
        have h1 : s.length = i := h1
        have h2 : p = (x :: l).getD i z29 := h2
        refine Ev.succ ?_
        simp only [spec_MelodySteps.l0]
        rw [w64 (x := (i : Int) + 1 - 1) (by omega) (by omega), w64 (x := (i : Int) + 1 + 1) (by omega) (by omega)]
        refine Ev.pos (by simp; omega) (Ev.bind (spec_MelodyValid_ev _ hm) ?_)
        rw [hok]
        refine Ev.pos rfl (Ev.pos (by omega) (Ev.pos (by omega) (Ev.pos (by simp; omega) (Ev.pos (by omega) ?_))))
        have e1 : rd_T29 (x :: l) ((i : Int) + 1) = l.getD i z29 := by
          unfold rd_T29
          rw [show ((i : Int) + 1).toNat = i + 1 by omega]; rfl
        have e2 : rd_T29 (x :: l) ((i : Int) + 1 - 1) = p := by
          unfold rd_T29
          rw [show ((i : Int) + 1 - 1).toNat = i by omega, h2]
        rw [e1, e2]
        refine Ev.eqr (ih (s ++ [wrap64 ((l.getD i z29).f0 - p.f0)], l.getD i z29) ⟨by simp [h1], rfl⟩) ?_
        simp [diffs, stepD]) 0 ([], x) (Nat.zero_le _) ⟨rfl, rfl⟩
      refine Ev.eqr (by simpa using this) (by simp)

theorem spec_l2Same_ev (a b : List Int) (hl : a.length ≤ 1000000000000) : Ev (fun k => spec_l2Same.f k a b) (a == b) := by
  unfold spec_l2Same.f
  by_cases hlen : (a.length : Int) = (b.length : Int)
  · refine Ev.pos hlen ?_
    have := Ev.over (0 : Int) a (fun k (_ : Unit) i => spec_l2Same.l0 k a b i) (fun _ rest => rest == b.drop (a.length - rest.length)) (fun _ _ => True) (by
      intro s _
      refine Ev.succ ?_
      simp only [spec_l2Same.l0]
      refine Ev.eqr (Ev.neg (by omega) (Ev.now _)) ?_
      have : b.drop a.length = [] := List.drop_eq_nil_of_le (by omega)
      simp [this]) (by
      intro s i rest _ hi hdr ih
      have hrl : rest.length + 1 + i = a.length := by
        have := congrArg List.length hdr
        simp at this; omega
      refine Ev.succ ?_
      simp only [spec_l2Same.l0]
      rw [w64 (by omega) (by omega)]
      refine Ev.pos (by omega) (Ev.pos (by omega) (Ev.pos (by omega) ?_))
      have hra : rd a (i : Int) = a.getD i 0 := rfl
      have hrb : rd b (i : Int) = b.getD i 0 := rfl
      rw [hra, hrb]
      have e2 : a.length - (a.getD i 0 :: rest).length = i := by simp; omega
      have e1 : a.length - rest.length = i + 1 := by omega
      have e3 : b.drop i = b.getD i 0 :: b.drop (i + 1) := by
        rw [List.drop_eq_getElem_cons (by omega), List.getD_eq_getElem?_getD, List.getElem?_eq_getElem (by omega)]; rfl
      rw [e2, e3]
      have ih := ih () trivial
      rw [e1] at ih
      by_cases h : a.getD i 0 = b.getD i 0
      · refine Ev.pos h (Ev.eqr ih ?_)
        rw [h, Bool.eq_iff_iff]; simp
      · refine Ev.neg h (Ev.eqr (Ev.now _) ?_)
        symm; rw [beq_eq_false_iff_ne]; intro hc; exact h (List.cons.inj hc).1) 0 () (Nat.zero_le _) trivial
    simpa using this
  · refine Ev.neg hlen (Ev.eqr (Ev.now _) ?_)
    symm; rw [beq_eq_false_iff_ne]; rintro rfl; exact hlen rfl
theorem spec_MelodySemis_ev (m : List S29) (hok : melOk m = true) : Ev (fun k => spec_MelodySemis.f k m) (mdiffs semD m) := by
  have hl := melOk_len hok
  have hall := List.all_eq_true.1 (melOk_all hok)
  unfold spec_MelodySemis.f mdiffs
  rw [if_pos hok]
  have fin : ∀ (X : List Int) (q : Int), Ev (fun k => spec_MelodySemis.j1 k m X q false) X := by
    intro X q
    refine Ev.succ ?_
    simp only [spec_MelodySemis.j1]
    exact Ev.neg (by simp) (Ev.now _)
  cases m with
  | nil =>
    refine Ev.succ ?_
    simp only [spec_MelodySemis.l0]
    exact Ev.neg (by simp) (fin _ _)
  | cons x l =>
    have := Ev.over z29 l (fun k (s : List Int × S29) q => spec_MelodySemis.l0 k (x :: l) s.1 (q + 1)) (fun s rest => s.1 ++ diffs semD (s.2 :: rest)) (fun i s => s.1.length = i ∧ s.2 = (x :: l).getD i z29) (by
      rintro ⟨s, p⟩ ⟨h1, h2⟩
      refine Ev.succ ?_
      simp only [spec_MelodySemis.l0]
      refine Ev.neg (by simp) (Ev.eqr (fin _ _) ?_)
      simp [diffs]) (by
      rintro ⟨s, p⟩ i rest ⟨h1, h2⟩ hi hdr ih
      have h1 : s.length = i := h1
      have h2 : p = (x :: l).getD i z29 := h2
      simp only [List.length_cons] at hl
      refine Ev.succ ?_
      simp only [spec_MelodySemis.l0]
      refine Ev.pos (by simp; omega) (Ev.bind (spec_MelodyValid_ev _ (by simp only [List.length_cons]; omega)) ?_)
      rw [hok]
      refine Ev.succ ?_
      simp only [spec_MelodySemis.j1]
      rw [w64 (x := (i : Int) + 1 - 1) (by omega) (by omega), w64 (x := (i : Int) + 1 + 1) (by omega) (by omega)]
      have e1 : rd_T29 (x :: l) ((i : Int) + 1) = l.getD i z29 := by
        unfold rd_T29
        rw [show ((i : Int) + 1).toNat = i + 1 by omega]; rfl
      have e2 : rd_T29 (x :: l) ((i : Int) + 1 - 1) = p := by
        unfold rd_T29
        rw [show ((i : Int) + 1 - 1).toNat = i by omega, h2]
      rw [e1, e2]
      have o1 : toneOk (l.getD i z29) = true := by
        refine hall _ (List.mem_cons_of_mem _ ?_)
        rw [List.getD_eq_getElem?_getD, List.getElem?_eq_getElem hi]; exact List.getElem_mem hi
      have o2 : toneOk p = true := by
        rw [h2]
        refine hall _ ?_
        rw [List.getD_eq_getElem?_getD, List.getElem?_eq_getElem (show i < (x :: l).length by simp only [List.length_cons]; omega)]; exact List.getElem_mem _
      refine Ev.pos trivial (Ev.pos (by omega) (Ev.pos (by simp only [List.length_cons]; omega) (Ev.conb (spec_l1Height_eq o1) (Ev.pos (by omega) (Ev.pos (by simp only [List.length_cons]; omega) (Ev.conb (spec_l1Height_eq o2) (Ev.pos (by omega) ?_)))))))
      refine Ev.eqr (ih (s ++ [wrap64 (hgt (l.getD i z29) - hgt p)], l.getD i z29) ⟨by simp [h1], rfl⟩) ?_
      simp [diffs, semD]) 0 ([], x) (Nat.zero_le _) ⟨rfl, rfl⟩
    refine Ev.eqr (by simpa using this) (by simp)
theorem spec_MelodySame_ev (a b : List S29) (ha : a.length ≤ 1000000000000) (hb : b.length ≤ 1000000000000) : Ev (fun k => spec_MelodySame.f k a b) (msame a b) := by
  unfold spec_MelodySame.f msame
  refine Ev.bind (spec_MelodyValid_ev a ha) ?_
  cases h1 : melOk a
  · exact Ev.neg (by simp) (Ev.eqr (Ev.now _) rfl)
  refine Ev.pos rfl (Ev.bind (spec_MelodyValid_ev b hb) ?_)
  cases h2 : melOk b
  · exact Ev.neg (by simp) (Ev.eqr (Ev.now _) rfl)
  refine Ev.pos rfl ?_
  by_cases h3 : a.length = b.length
  case neg => exact Ev.neg (by omega) (Ev.eqr (Ev.now _) (by rw [decide_eq_false h3]; rfl))
  rw [decide_eq_true h3]
  refine Ev.pos (by omega) (Ev.bind (spec_MelodySemis_ev a h1) (Ev.bind (spec_MelodySemis_ev b h2) (Ev.bind (spec_l2Same_ev _ _ (by have := mdiffs_len semD a; omega)) ?_)))
  cases h4 : mdiffs semD a == mdiffs semD b
  · exact Ev.neg (by simp) (Ev.eqr (Ev.now _) rfl)
  exact Ev.pos rfl (Ev.bind (spec_MelodySteps_ev a ha) (Ev.bind (spec_MelodySteps_ev b hb) (Ev.bind (spec_l2Same_ev _ _ (by have := mdiffs_len stepD a; omega)) (Ev.eqr (Ev.now _) (by simp)))))

end Go.Proofs.YtclpnaaagajhiaaDoor.Pure
