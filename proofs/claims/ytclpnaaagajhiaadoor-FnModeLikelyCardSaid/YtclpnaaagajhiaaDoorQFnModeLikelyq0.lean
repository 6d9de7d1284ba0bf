/- Lemmas on the printed functions for the law FnModeLikely. -/
import Derived.Test.YtclpnaaagajhiaaDoorGFnModeLikelyg10
import Derived.Test.YtclpnaaagajhiaaDoorGFnModeLikelyg29
import Derived.Test.YtclpnaaagajhiaaDoorGFnModeLikelyg13
import Derived.Deep.RegionHeld3
import Derived.BigRegion
import Derived.Deep.Slices
import Derived.Laws.CopyOwn
namespace Go.Proofs.YtclpnaaagajhiaaDoor.Pure
set_option linter.unusedVariables false
set_option linter.unusedSimpArgs false
open Go Go.RowKit Go.Proofs.YtclpnaaagajhiaaDoor.PFnModeLikely Go.Proofs.YtclpnaaagajhiaaDoorW.PrintWords Go.Proofs.YtclpnaaagajhiaaDoorW.PrintLast Go.Proofs.YtclpnaaagajhiaaDoorW.PrintMore

/-! words: Ev, wrap64, lists -/
theorem Ev.succ {α : Type} {g : Nat → Option α} {r : α} (h : Ev (fun k => g (k + 1)) r) : Ev g r := Ev.step (fun _ => rfl) h
theorem Ev.pos {α : Type} {c : Prop} [Decidable c] {f g : Nat → Option α} {r : α} (hc : c) (h : Ev f r) : Ev (fun k => if c then f k else g k) r := by
  simp only [if_pos hc]; exact h
theorem Ev.neg {α : Type} {c : Prop} [Decidable c] {f g : Nat → Option α} {r : α} (hc : ¬ c) (h : Ev g r) : Ev (fun k => if c then f k else g k) r := by
  simp only [if_neg hc]; exact h
theorem Ev.uniq {α : Type} {g : Nat → Option α} {r r' : α} (h : Ev g r) (h' : Ev g r') : r = r' := by
  obtain ⟨K, h⟩ := h; obtain ⟨K', h'⟩ := h'
  have a := h (max K K') (Nat.le_max_left _ _)
  have b := h' (max K K') (Nat.le_max_right _ _)
  exact Option.some.inj (a.symm.trans b)
theorem Ev.someb {α β : Type} {a : α} {f : Nat → α → Option β} {r : β} (h : Ev (fun n => f n a) r) : Ev (fun n => (some a).bind (f n)) r := h
theorem Ev.conb {α β : Type} {x : Option α} {a : α} {f : Nat → α → Option β} {r : β} (hx : x = some a) (h : Ev (fun n => f n a) r) : Ev (fun n => x.bind (f n)) r := by subst hx; exact h
theorem Ev.eqr {α : Type} {g : Nat → Option α} {r r' : α} (h : Ev g r) (e : r = r') : Ev g r' := e ▸ h
theorem Ev.eqg {α : Type} {g g' : Nat → Option α} {r : α} (h : Ev g r) (e : g' = g) : Ev g' r := e ▸ h
/-- A loop over the places of a list, from the front. -/
theorem Ev.over {α ρ σ : Type} (d : α) (xs : List α) (L : Nat → σ → Int → Option ρ) (F : σ → List α → ρ) (I : Nat → σ → Prop)
    (hend : ∀ s, I xs.length s → Ev (fun k => L k s (xs.length : Int)) (F s []))
    (hstep : ∀ s (i : Nat) rest, I i s → i < xs.length → xs.drop i = xs.getD i d :: rest → (∀ s', I (i + 1) s' → Ev (fun k => L k s' ((i : Int) + 1)) (F s' rest)) → Ev (fun k => L k s (i : Int)) (F s (xs.getD i d :: rest))) :
    ∀ (i : Nat) (s : σ), i ≤ xs.length → I i s → Ev (fun k => L k s (i : Int)) (F s (xs.drop i)) := by
  intro i s hi hI
  obtain ⟨n, hn⟩ : ∃ n, n = xs.length - i := ⟨_, rfl⟩
  induction n generalizing i s with
  | zero =>
    have e : i = xs.length := by omega
    subst e
    rw [List.drop_length]
    exact hend s hI
  | succ n ih =>
    have hlt : i < xs.length := by omega
    have e : xs.drop i = xs.getD i d :: xs.drop (i + 1) := by
      rw [List.drop_eq_getElem_cons hlt, List.getD_eq_getElem?_getD, List.getElem?_eq_getElem hlt]; rfl
    rw [e]
    refine hstep s i _ hI hlt e (fun s' hs' => ?_)
    have := ih (i + 1) s' (by omega) hs' (by omega)
    simpa using this
theorem w64 {x : Int} (h : -9223372036854775808 ≤ x) (h' : x ≤ 9223372036854775807) : wrap64 x = x := by unfold wrap64; omega
theorem xor_bd (x y : Int) (hx : 0 ≤ x) (hx' : x < 4611686018427387904) (hy : 0 ≤ y) (hy' : y < 4611686018427387904) : 0 ≤ Go.bits .xor .i64 x y := by
  obtain ⟨a, rfl⟩ := Int.eq_ofNat_of_zero_le hx
  obtain ⟨b, rfl⟩ := Int.eq_ofNat_of_zero_le hy
  have ha : a < 2 ^ 62 := by omega
  have hb : b < 2 ^ 62 := by omega
  have hc : a ^^^ b < 2 ^ 62 := Nat.xor_lt_two_pow ha hb
  have ha' : a % 2 ^ IntKind.i64.bits = a := Nat.mod_eq_of_lt (Nat.lt_of_lt_of_le ha (by decide))
  have hb' : b % 2 ^ IntKind.i64.bits = b := Nat.mod_eq_of_lt (Nat.lt_of_lt_of_le hb (by decide))
  have e : Go.bits .xor .i64 (a : Int) (b : Int) = ((a ^^^ b : Nat) : Int) := by
    simp only [Go.bits, BitVec.ofInt_natCast, BitVec.toNat_xor, BitVec.toNat_ofNat, ha', hb']
    rw [Go.IntKind.wrap_i64]; omega
  rw [e]; omega
theorem rd_nat (xs : List Int) (i : Nat) : rd xs (i : Int) = xs.getD i 0 := rfl
theorem mx_le (a b : Int) : a ≤ mx a b ∧ b ≤ mx a b ∧ (mx a b = a ∨ mx a b = b) := by unfold mx; split <;> omega
theorem mn_le (a b : Int) : mn a b ≤ a ∧ mn a b ≤ b ∧ (mn a b = a ∨ mn a b = b) := by unfold mn; split <;> omega
/-- From some number of rounds on there is an answer, and it is such a one. -/
def Evx {α : Type} (g : Nat → Option α) (P : α → Prop) : Prop := ∃ r, Ev g r ∧ P r
theorem Evx.now {α : Type} {P : α → Prop} {r : α} (h : P r) : Evx (fun _ => some r) P := ⟨r, Ev.now r, h⟩
theorem Evx.ev {α : Type} {g : Nat → Option α} {P : α → Prop} {r : α} (h : Ev g r) (hP : P r) : Evx g P := ⟨r, h, hP⟩
theorem Evx.mono {α : Type} {g : Nat → Option α} {P Q : α → Prop} (h : Evx g P) (hPQ : ∀ r, P r → Q r) : Evx g Q := by
  obtain ⟨r, h, hP⟩ := h; exact ⟨r, h, hPQ r hP⟩
theorem Evx.bind {α β : Type} {g : Nat → Option α} {f : Nat → α → Option β} {P : α → Prop} {Q : β → Prop} (h : Evx g P) (k : ∀ a, P a → Evx (fun n => f n a) Q) : Evx (fun n => (g n).bind (f n)) Q := by
  obtain ⟨a, h, hP⟩ := h
  obtain ⟨r, h', hQ⟩ := k a hP
  exact ⟨r, Ev.bind h h', hQ⟩
theorem Evx.succ {α : Type} {g : Nat → Option α} {P : α → Prop} (h : Evx (fun k => g (k + 1)) P) : Evx g P := by
  obtain ⟨r, h, hP⟩ := h; exact ⟨r, Ev.succ h, hP⟩
theorem Evx.pos {α : Type} {c : Prop} [Decidable c] {f g : Nat → Option α} {P : α → Prop} (hc : c) (h : Evx f P) : Evx (fun k => if c then f k else g k) P := by
  simp only [if_pos hc]; exact h
theorem Evx.neg {α : Type} {c : Prop} [Decidable c] {f g : Nat → Option α} {P : α → Prop} (hc : ¬ c) (h : Evx g P) : Evx (fun k => if c then f k else g k) P := by
  simp only [if_neg hc]; exact h
theorem Evx.ite {α : Type} {c : Prop} [Decidable c] {f g : Nat → Option α} {P : α → Prop} (h : c → Evx f P) (h' : ¬ c → Evx g P) : Evx (fun k => if c then f k else g k) P := by
  by_cases hc : c
  · exact Evx.pos hc (h hc)
  · exact Evx.neg hc (h' hc)
theorem Evx.someb {α β : Type} {a : α} {f : Nat → α → Option β} {P : β → Prop} (h : Evx (fun n => f n a) P) : Evx (fun n => (some a).bind (f n)) P := h
theorem Evx.conb {α β : Type} {x : Option α} {a : α} {f : Nat → α → Option β} {P : β → Prop} (hx : x = some a) (h : Evx (fun n => f n a) P) : Evx (fun n => x.bind (f n)) P := by subst hx; exact h
theorem Evx.bind1 {α β : Type} {g : Nat → Option α} {f : Nat → α → Option β} {a : α} {Q : β → Prop} (h : Ev g a) (k : Evx (fun n => f n a) Q) : Evx (fun n => (g n).bind (f n)) Q := by
  obtain ⟨r, h', hQ⟩ := k
  exact ⟨r, Ev.bind h h', hQ⟩
theorem rd_bd {s : List Int} (hs : ∀ x ∈ s, 0 ≤ x ∧ x ≤ 255) (i : Int) : 0 ≤ rd s i ∧ rd s i ≤ 255 := by
  unfold rd
  rw [List.getD_eq_getElem?_getD]
  cases h : s[i.toNat]? with
  | none => simp
  | some v => exact hs v (List.mem_of_getElem? h)
theorem mem_set_of {α : Type} {P : α → Prop} {l : List α} (h : ∀ x ∈ l, P x) (i : Nat) (v : α) (hv : P v) : ∀ x ∈ l.set i v, P x := by
  intro x hx
  rcases List.mem_or_eq_of_mem_set hx with hx | hx
  · exact h x hx
  · exact hx ▸ hv

/-! pick: a number from 0 to n-1 -/
structure Code (s : List Int) : Prop where
  b : ∀ x ∈ s, 0 ≤ x ∧ x ≤ 255
  l : s.length ≤ 2000
theorem open_ev (l0 : List Int) (hw : ∀ x ∈ l0, (Lit.int .u8 x).wf = true) : ∃ s, spec_l6Open.f l0 = some (s, 0) ∧ Code s := by
  have hb : ∀ x ∈ l0, 0 ≤ x ∧ x ≤ 255 := by
    intro x hx
    have := hw x hx
    have e1 : IntKind.u8.min = 0 := by decide
    have e2 : IntKind.u8.max = 255 := by decide
    simp only [Lit.wf, e1, e2] at this
    simpa using this
  unfold spec_l6Open.f
  by_cases h : (l0.length : Int) > 2000
  · refine ⟨l0.take 2000, by rw [if_pos h, if_pos (by omega)], ⟨fun x hx => hb x (List.mem_of_mem_take hx), by rw [List.length_take]; omega⟩⟩
  · exact ⟨l0, by rw [if_neg h], ⟨hb, by omega⟩⟩
theorem pick_ev {s : List Int} (hc : Code s) (p n : Int) (hp : 0 ≤ p) (hp' : p ≤ 1000000000) :
    Evx (fun k => spec_l6Rd_pick.f k s p n) (fun r => 0 ≤ r.1 ∧ (r.1 < n ∨ r.1 = 0) ∧ r.2 = p + 1) := by
  have hw : wrap64 (p + 1) = p + 1 := w64 (by omega) (by omega)
  have hw' : wrap64 (p + 1 - 1) = p := by rw [w64 (by omega) (by omega)]; omega
  have hl := hc.l
  unfold spec_l6Rd_pick.f
  rw [hw]
  by_cases hn : n < 1
  · refine Evx.pos hn (Evx.succ ?_)
    simp only [spec_l6Rd_pick.j0, if_true]
    exact Evx.now ⟨by simp, by simp, rfl⟩
  · refine Evx.neg hn (Evx.succ ?_)
    have tm : ∀ x : Int, 0 ≤ x → 0 ≤ Int.tmod x n ∧ Int.tmod x n < n := fun x hx => ⟨Int.tmod_nonneg n hx, Int.tmod_lt_of_pos x (by omega)⟩
    by_cases h0 : s.length = 0
    · have e : ((s.length : Int) == 0) = true := by simp [h0]
      simp only [spec_l6Rd_pick.j0, e, if_true]
      exact Evx.now ⟨by simp, by simp, rfl⟩
    · have e : ((s.length : Int) == 0) = false := by rw [beq_eq_false_iff_ne]; omega
      simp only [spec_l6Rd_pick.j0, e, hw']
      refine Evx.neg (by simp) ?_
      by_cases hlt : p < (s.length : Int)
      · refine Evx.pos hlt (Evx.pos hp (Evx.neg (by omega) (Evx.now ?_)))
        have hb := rd_bd hc.b p
        rw [w64 (x := rd s p) (by omega) (by omega)]
        have := tm (rd s p) hb.1
        exact ⟨this.1, .inl this.2, rfl⟩
      · refine Evx.neg hlt (Evx.neg (by omega) ?_)
        have t1 : 0 ≤ Int.tmod p s.length := Int.tmod_nonneg _ hp
        have t1' : Int.tmod p s.length < s.length := Int.tmod_lt_of_pos p (by omega)
        rw [w64 (x := p * 7) (by omega) (by omega), w64 (x := p * 7 + 3) (by omega) (by omega)]
        have t2 : 0 ≤ Int.tmod (p * 7 + 3) s.length := Int.tmod_nonneg _ (by omega)
        have t2' : Int.tmod (p * 7 + 3) s.length < s.length := Int.tmod_lt_of_pos _ (by omega)
        refine Evx.pos t1 (Evx.pos t1' (Evx.pos t2 (Evx.pos t2' (Evx.neg (by omega) (Evx.now ?_)))))
        have hb1 := rd_bd hc.b (Int.tmod p s.length)
        have hb2 := rd_bd hc.b (Int.tmod (p * 7 + 3) s.length)
        have hd : 0 ≤ Int.tdiv p s.length ∧ Int.tdiv p s.length ≤ p := by
          rw [Int.tdiv_eq_ediv_of_nonneg hp]
          exact ⟨Int.ediv_nonneg hp (by omega), Int.ediv_le_self _ hp⟩
        generalize rd s (Int.tmod p s.length) = a at *
        generalize rd s (Int.tmod (p * 7 + 3) s.length) = b at *
        generalize Int.tdiv p s.length = c at *
        obtain ⟨X, hX, hX0, hX1⟩ : ∃ X : Int, wrap64 (wrap64 (wrap64 (wrap64 (wrap64 a * 131) + wrap64 (wrap64 b * 1117)) + wrap64 (p * 29)) + wrap64 (wrap64 c * 53)) = X ∧ 0 ≤ X ∧ X < 1000000000000 := by
          refine ⟨a * 131 + b * 1117 + p * 29 + c * 53, ?_, by omega, by omega⟩
          rw [w64 (x := a) (by omega) (by omega), w64 (x := b) (by omega) (by omega), w64 (x := c) (by omega) (by omega), w64 (x := a * 131) (by omega) (by omega), w64 (x := b * 1117) (by omega) (by omega), w64 (x := p * 29) (by omega) (by omega), w64 (x := c * 53) (by omega) (by omega), w64 (x := a * 131 + b * 1117) (by omega) (by omega), w64 (x := a * 131 + b * 1117 + p * 29) (by omega) (by omega), w64 (by omega) (by omega)]
        rw [hX]
        have hq : 0 ≤ Int.tdiv X 64 ∧ Int.tdiv X 64 ≤ X := by
          rw [Int.tdiv_eq_ediv_of_nonneg hX0]; omega
        rw [w64 (x := Int.tdiv X 64) (by omega) (by omega)]
        have := tm _ (xor_bd X (Int.tdiv X 64) hX0 (by omega) hq.1 (by omega))
        exact ⟨this.1, .inl this.2, rfl⟩

theorem Ev.upto {ρ σ : Type} (L : Nat → σ → Int → Option ρ) (S : Nat → σ) (n : Nat) (r : ρ) (hend : Ev (fun k => L k (S n) (n : Int)) r)
    (hstep : ∀ i < n, Ev (fun k => L k (S (i + 1)) ((i : Int) + 1)) r → Ev (fun k => L k (S i) (i : Int)) r) : ∀ i ≤ n, Ev (fun k => L k (S i) (i : Int)) r := by
  intro i hi
  obtain ⟨d, hd⟩ : ∃ d, d = n - i := ⟨_, rfl⟩
  induction d generalizing i with
  | zero => obtain rfl : i = n := by omega
            exact hend
  | succ d ih =>
    have := ih (i + 1) (by omega) (by omega)
    refine hstep i (by omega) ?_
    simpa using this

/-! tones and melodies: valid -/
def toneOk (t : S29) : Bool := decide (0 ≤ t.f0 ∧ t.f0 ≤ 20) && (!t.f1 || Int.tmod t.f0 7 == 2)
def melOk (m : List S29) : Bool := decide (m.length ≤ 24) && m.all toneOk
theorem melOk_len {m : List S29} (h : melOk m = true) : m.length ≤ 24 := by
  unfold melOk at h; simp at h; exact h.1
theorem impl_Tone_valid_eq (a : Int) (b : Bool) : impl_Tone_valid.f a b = some (toneOk ⟨a, b⟩) := by
  unfold impl_Tone_valid.f toneOk
  by_cases h : a ≥ 0
  · by_cases h' : a ≤ 20
    · cases b
      · simp [h, h']
      · simp [h, h']
    · simp [h, h']
  · have : ¬ (0 ≤ a) := h
    simp [this]
theorem impl_MelodyValid_ev (m : List S29) : Ev (fun k => impl_MelodyValid.f k m) (melOk m) := by
  unfold impl_MelodyValid.f
  by_cases h : (m.length : Int) > 24
  · refine Ev.eqr (Ev.pos h (Ev.now _)) ?_
    unfold melOk
    rw [decide_eq_false (by omega)]; rfl
  · refine Ev.eqr (Ev.neg h (r := m.all toneOk) ?_) (by unfold melOk; rw [decide_eq_true (by omega)]; rfl)
    have := Ev.over z29 m (fun k (_ : Unit) i => impl_MelodyValid.l0 k m m.length i) (fun _ l => l.all toneOk) (fun _ _ => True) (by
      intro s _
      refine Ev.succ ?_
      simp only [impl_MelodyValid.l0]
      exact Ev.neg (by omega) (Ev.now _)) (by
      intro s i rest _ hi _ ih
      refine Ev.succ ?_
      simp only [impl_MelodyValid.l0]
      refine Ev.pos (by omega) (Ev.pos (by omega) (Ev.pos (by omega) (Ev.conb (impl_Tone_valid_eq _ _) ?_)))
      show Ev _ (toneOk (rd_T29 m i) && _)
      cases ht : toneOk (rd_T29 m i)
      · exact Ev.neg (by simp [ht]) (Ev.now _)
      · refine Ev.pos (by simp [ht]) ?_
        rw [w64 (by omega) (by omega)]
        simpa using ih () trivial) 0 () (Nat.zero_le _) trivial
    simpa using this

/-! the reference's tones and melodies: valid -/
theorem spec_l6In_eq (a b c : Int) : spec_l6In.f a b c = some (decide (b ≤ a ∧ a ≤ c)) := by
  unfold spec_l6In.f
  by_cases h : a ≥ b
  · rw [if_pos h]; simp [show b ≤ a from h]
  · rw [if_neg h]; simp [show ¬ b ≤ a from h]
theorem spec_ToneValid_eq (a : Int) (b : Bool) : spec_ToneValid.f a b = some (toneOk ⟨a, b⟩) := by
  unfold spec_ToneValid.f toneOk
  rw [spec_l6In_eq]
  by_cases h : 0 ≤ a ∧ a ≤ 20
  · cases b <;> simp [h, spec_l1Letter.f]
  · simp [h]
theorem spec_MelodyValid_ev (m : List S29) (hm : m.length ≤ 1000000000000) : Ev (fun k => spec_MelodyValid.f k m) (melOk m) := by
  unfold spec_MelodyValid.f
  have := Ev.over z29 m (fun k (_ : Unit) i => spec_MelodyValid.l0 k m i) (fun _ l => l.all toneOk && decide (m.length ≤ 24)) (fun _ _ => True) (by
      intro s _
      refine Ev.succ ?_
      simp only [spec_MelodyValid.l0]
      refine Ev.eqr (Ev.neg (by omega) (Ev.now _)) ?_
      simp; omega) (by
      intro s i rest _ hi _ ih
      refine Ev.succ ?_
      simp only [spec_MelodyValid.l0]
      refine Ev.pos (by omega) (Ev.pos (by omega) (Ev.conb (spec_ToneValid_eq _ _) ?_))
      show Ev _ (toneOk (rd_T29 m i) && _ && _)
      cases ht : toneOk (rd_T29 m i)
      · exact Ev.neg (by simp [ht]) (Ev.now _)
      · refine Ev.pos (by simp [ht]) ?_
        rw [w64 (by omega) (by omega)]
        simpa using ih () trivial) 0 () (Nat.zero_le _) trivial
  refine Ev.eqr (by simpa using this) ?_
  unfold melOk
  rw [Bool.and_comm]

/-! l91Melody, l91At -/
theorem drawMelody_loop {s : List Int} (hc : Code s) (n : Int) (hn : n ≤ 1000) (d : Nat) : ∀ (acc : List S29) (step p : Int), (acc.length : Int) + d = n → (∀ t ∈ acc, -1 ≤ t.f0 ∧ t.f0 ≤ 21) → 1 ≤ step → step ≤ 15 → 0 ≤ p → p + 2 * d ≤ 100000000 →
    Evx (fun k => spec_l91Melody.l0 k acc n step acc.length s p) (fun r => (r.1.length : Int) = n ∧ p ≤ r.2 ∧ r.2 ≤ p + 2 * d + 2 ∧ ∀ t ∈ r.1, -1 ≤ t.f0 ∧ t.f0 ≤ 21) := by
  induction d with
  | zero =>
    intro acc step p hl ha h1 h2 hp hp'
    refine Evx.succ ?_
    simp only [spec_l91Melody.l0]
    refine Evx.neg (by omega) (Evx.ite (fun hpos => ?_) (fun _ => Evx.now ⟨(by (try simp only [List.length_set, List.length_drop, List.length_take, List.length_append, List.length_cons, List.length_nil, Int.natCast_add, Int.natCast_one, Int.natCast_zero] at *); omega), (by (try simp only [List.length_set, List.length_drop, List.length_take, List.length_append, List.length_cons, List.length_nil, Int.natCast_add, Int.natCast_one, Int.natCast_zero] at *); omega), (by (try simp only [List.length_set, List.length_drop, List.length_take, List.length_append, List.length_cons, List.length_nil, Int.natCast_add, Int.natCast_one, Int.natCast_zero] at *); omega), ha⟩))
    refine Evx.bind (pick_ev hc p 50 hp (by omega)) ?_
    rintro ⟨r, q⟩ ⟨hr0, hr1, rfl⟩
    refine Evx.ite (fun e => ?_) (fun e => Evx.ite (fun e1 => ?_) (fun _ => Evx.now ⟨(by (try simp only [List.length_set, List.length_drop, List.length_take, List.length_append, List.length_cons, List.length_nil, Int.natCast_add, Int.natCast_one, Int.natCast_zero] at *); omega), (by (try simp only [List.length_set, List.length_drop, List.length_take, List.length_append, List.length_cons, List.length_nil, Int.natCast_add, Int.natCast_one, Int.natCast_zero] at *); omega), (by (try simp only [List.length_set, List.length_drop, List.length_take, List.length_append, List.length_cons, List.length_nil, Int.natCast_add, Int.natCast_one, Int.natCast_zero] at *); omega), ha⟩))
    · refine Evx.someb (Evx.bind (pick_ev hc (p + 1) 3 (by omega) (by omega)) ?_)
      rintro ⟨u, q⟩ ⟨hu0, hu1, rfl⟩
      have hu0 : 0 ≤ u := hu0
      have hu1 : u < 3 ∨ u = 0 := hu1
      refine Evx.pos hu0 (Evx.pos (by (try simp only [List.length_set, List.length_drop, List.length_take, List.length_append, List.length_cons, List.length_nil, Int.natCast_add, Int.natCast_one, Int.natCast_zero] at *); omega) (Evx.pos (by omega) (Evx.now ⟨(by (try simp only [List.length_set, List.length_drop, List.length_take, List.length_append, List.length_cons, List.length_nil, Int.natCast_add, Int.natCast_one, Int.natCast_zero] at *); omega), (by (try simp only [List.length_set, List.length_drop, List.length_take, List.length_append, List.length_cons, List.length_nil, Int.natCast_add, Int.natCast_one, Int.natCast_zero] at *); omega), (by (try simp only [List.length_set, List.length_drop, List.length_take, List.length_append, List.length_cons, List.length_nil, Int.natCast_add, Int.natCast_one, Int.natCast_zero] at *); omega), ?_⟩)))
      refine mem_set_of ha _ _ ?_
      have : u = 0 ∨ u = 1 ∨ u = 2 := by omega
      rcases this with rfl | rfl | rfl <;> simp [rd]
    · rw [w64 (by omega) (by omega)]
      refine Evx.pos (by omega) (Evx.pos (by omega) (Evx.now ⟨(by (try simp only [List.length_set, List.length_drop, List.length_take, List.length_append, List.length_cons, List.length_nil, Int.natCast_add, Int.natCast_one, Int.natCast_zero] at *); omega), (by (try simp only [List.length_set, List.length_drop, List.length_take, List.length_append, List.length_cons, List.length_nil, Int.natCast_add, Int.natCast_one, Int.natCast_zero] at *); omega), (by (try simp only [List.length_set, List.length_drop, List.length_take, List.length_append, List.length_cons, List.length_nil, Int.natCast_add, Int.natCast_one, Int.natCast_zero] at *); omega), ?_⟩))
      refine mem_set_of ha _ _ ?_
      have hlt : (n - 1).toNat < acc.length := by omega
      show -1 ≤ (rd_T29 acc (n - 1)).f0 ∧ (rd_T29 acc (n - 1)).f0 ≤ 21
      unfold rd_T29
      rw [List.getD_eq_getElem?_getD, List.getElem?_eq_getElem hlt]
      exact ha _ (List.getElem_mem hlt)
  | succ d ih =>
    intro acc step p hl ha h1 h2 hp hp'
    refine Evx.succ ?_
    simp only [spec_l91Melody.l0]
    have wl : wrap64 ((acc.length : Int) + 1) = (acc.length : Int) + 1 := w64 (by omega) (by omega)
    have stepok : ∀ u : Int, 0 ≤ u → u < 5 ∨ u = 0 → 1 ≤ mx 1 (mn 15 (wrap64 (wrap64 (step + u) - 2))) ∧ mx 1 (mn 15 (wrap64 (wrap64 (step + u) - 2))) ≤ 15 := by
      intro u hu hu'
      rw [w64 (x := step + u) (by omega) (by omega), w64 (by omega) (by omega)]
      have a := mn_le 15 (step + u - 2)
      have b := mx_le 1 (mn 15 (step + u - 2))
      omega
    refine Evx.pos (by omega) (Evx.someb (Evx.ite (fun _ => ?_) (fun _ => ?_)))
    · refine Evx.bind (pick_ev hc p 3 hp (by omega)) ?_
      rintro ⟨r, q⟩ ⟨hr0, hr1, rfl⟩
      refine Evx.pos (by omega) (Evx.bind (pick_ev hc (p + 1) 5 (by omega) (by omega)) ?_)
      rintro ⟨u, q⟩ ⟨hu0, hu1, rfl⟩
      have so := stepok u hu0 hu1
      have := ih (acc ++ [⟨step, r == 0⟩]) _ (p + 1 + 1) (by (try simp only [List.length_set, List.length_drop, List.length_take, List.length_append, List.length_cons, List.length_nil, Int.natCast_add, Int.natCast_one, Int.natCast_zero] at *); omega) (by
        intro t ht
        rcases List.mem_append.1 ht with ht | ht
        · exact ha t ht
        · obtain rfl := List.mem_singleton.1 ht; exact ⟨(by (try simp only [List.length_set, List.length_drop, List.length_take, List.length_append, List.length_cons, List.length_nil, Int.natCast_add, Int.natCast_one, Int.natCast_zero] at *); omega), (by (try simp only [List.length_set, List.length_drop, List.length_take, List.length_append, List.length_cons, List.length_nil, Int.natCast_add, Int.natCast_one, Int.natCast_zero] at *); omega)⟩) so.1 so.2 (by omega) (by omega)
      simp only [List.length_append, List.length_singleton, Int.natCast_add, Int.natCast_one] at this
      rw [wl]
      exact this.mono (by rintro ⟨m, q⟩ ⟨e1, e2, e3, e4⟩; exact ⟨e1, (by (try simp only [List.length_set, List.length_drop, List.length_take, List.length_append, List.length_cons, List.length_nil, Int.natCast_add, Int.natCast_one, Int.natCast_zero] at *); omega), (by (try simp only [List.length_set, List.length_drop, List.length_take, List.length_append, List.length_cons, List.length_nil, Int.natCast_add, Int.natCast_one, Int.natCast_zero] at *); omega), e4⟩)
    · refine Evx.pos (by omega) (Evx.bind (pick_ev hc p 5 (by omega) (by omega)) ?_)
      rintro ⟨u, q⟩ ⟨hu0, hu1, rfl⟩
      have so := stepok u hu0 hu1
      have := ih (acc ++ [⟨step, false⟩]) _ (p + 1) (by (try simp only [List.length_set, List.length_drop, List.length_take, List.length_append, List.length_cons, List.length_nil, Int.natCast_add, Int.natCast_one, Int.natCast_zero] at *); omega) (by
        intro t ht
        rcases List.mem_append.1 ht with ht | ht
        · exact ha t ht
        · obtain rfl := List.mem_singleton.1 ht; exact ⟨(by (try simp only [List.length_set, List.length_drop, List.length_take, List.length_append, List.length_cons, List.length_nil, Int.natCast_add, Int.natCast_one, Int.natCast_zero] at *); omega), (by (try simp only [List.length_set, List.length_drop, List.length_take, List.length_append, List.length_cons, List.length_nil, Int.natCast_add, Int.natCast_one, Int.natCast_zero] at *); omega)⟩) so.1 so.2 (by omega) (by omega)
      simp only [List.length_append, List.length_singleton, Int.natCast_add, Int.natCast_one] at this
      rw [wl]
      exact this.mono (by rintro ⟨m, q⟩ ⟨e1, e2, e3, e4⟩; exact ⟨e1, (by (try simp only [List.length_set, List.length_drop, List.length_take, List.length_append, List.length_cons, List.length_nil, Int.natCast_add, Int.natCast_one, Int.natCast_zero] at *); omega), (by (try simp only [List.length_set, List.length_drop, List.length_take, List.length_append, List.length_cons, List.length_nil, Int.natCast_add, Int.natCast_one, Int.natCast_zero] at *); omega), e4⟩)
theorem drawMelody_ev {s : List Int} (hc : Code s) (p top : Int) (hp : 0 ≤ p) (hp' : p ≤ 1000000) (hm : 0 ≤ top) (hm' : top ≤ 500) :
    Evx (fun k => spec_l91Melody.f k s p top) (fun r => (r.1.length : Int) ≤ top ∧ p ≤ r.2 ∧ r.2 ≤ p + 2000 ∧ ∀ t ∈ r.1, -1 ≤ t.f0 ∧ t.f0 ≤ 21) := by
  unfold spec_l91Melody.f
  rw [w64 (x := top + 1) (by omega) (by omega)]
  refine Evx.bind (pick_ev hc p (top + 1) hp (by omega)) ?_
  rintro ⟨n, q⟩ ⟨hn0, hn1, rfl⟩
  have hn0 : 0 ≤ n := hn0
  have hn1 : n < top + 1 ∨ n = 0 := hn1
  refine Evx.bind (pick_ev hc (p + 1) 5 (by omega) (by omega)) ?_
  rintro ⟨u, q⟩ ⟨hu0, hu1, rfl⟩
  have hu0 : 0 ≤ u := hu0
  have hu1 : u < 5 ∨ u = 0 := hu1
  have := drawMelody_loop hc n (by omega) n.toNat [] (wrap64 (4 + u)) (p + 1 + 1) (by (try simp only [List.length_set, List.length_drop, List.length_take, List.length_append, List.length_cons, List.length_nil, Int.natCast_add, Int.natCast_one, Int.natCast_zero] at *); omega) (by simp) (by rw [w64 (by omega) (by omega)]; omega) (by rw [w64 (by omega) (by omega)]; omega) (by omega) (by omega)
  exact this.mono (by rintro ⟨m, q⟩ ⟨e1, e2, e3, e4⟩; exact ⟨(by (try simp only [List.length_set, List.length_drop, List.length_take, List.length_append, List.length_cons, List.length_nil, Int.natCast_add, Int.natCast_one, Int.natCast_zero] at *); omega), (by (try simp only [List.length_set, List.length_drop, List.length_take, List.length_append, List.length_cons, List.length_nil, Int.natCast_add, Int.natCast_one, Int.natCast_zero] at *); omega), (by (try simp only [List.length_set, List.length_drop, List.length_take, List.length_append, List.length_cons, List.length_nil, Int.natCast_add, Int.natCast_one, Int.natCast_zero] at *); omega), e4⟩)

theorem drawChant_ev {s : List Int} (hc : Code s) (p : Int) (hp : 0 ≤ p) (hp' : p ≤ 1000000) :
    Evx (fun k => spec_l92Chant.f k s p) (fun r => (r.1.length : Int) ≤ 8 ∧ p ≤ r.2 ∧ r.2 ≤ p + 3000) := by
  unfold spec_l92Chant.f
  refine Evx.bind (drawMelody_ev hc p 7 hp hp' (by omega) (by omega)) ?_
  rintro ⟨m, q⟩ ⟨h1, h2, h3, _⟩
  have h1 : (m.length : Int) ≤ 7 := h1
  have h2 : p ≤ q := h2
  have h3 : q ≤ p + 2000 := h3
  refine Evx.bind (pick_ev hc q 5 (by omega) (by omega)) ?_
  rintro ⟨u, q'⟩ ⟨_, _, rfl⟩
  refine Evx.ite (fun _ => ?_) (fun _ => Evx.now ⟨by show (m.length : Int) ≤ 8; omega, by show p ≤ q + 1; omega, by show q + 1 ≤ p + 3000; omega⟩)
  refine Evx.bind1 (spec_MelodyValid_ev m (by omega)) ?_
  refine Evx.ite (fun _ => ?_) (fun _ => Evx.now ⟨by show (m.length : Int) ≤ 8; omega, by show p ≤ q + 1; omega, by show q + 1 ≤ p + 3000; omega⟩)
  refine Evx.bind (pick_ev hc (q + 1) 4 (by omega) (by omega)) ?_
  rintro ⟨u2, q2⟩ ⟨_, _, rfl⟩
  refine Evx.pos (by omega) (Evx.now ⟨?_, ?_, ?_⟩)
  · show ((m ++ [_]).length : Int) ≤ 8
    rw [List.length_append, List.length_singleton]; omega
  · show p ≤ q + 1 + 1; omega
  · show q + 1 + 1 ≤ p + 3000; omega

/-! modes -/
def mRow (mode : Int) : Int × Int × Int × Int :=
  if mode = 1 then (4, 8, 3, 12) else if mode = 2 then (4, 6, 0, 9) else if mode = 3 then (5, 10, 4, 13) else if mode = 4 then (5, 8, 1, 10) else if mode = 5 then (6, 10, 5, 14) else if mode = 6 then (6, 8, 2, 11) else if mode = 7 then (7, 11, 6, 15) else (7, 10, 3, 12)
def mOk (mode : Int) : Bool := decide (1 ≤ mode ∧ mode ≤ 8)
theorem mOk_cases {mode : Int} (h : mOk mode = true) : mode = 1 ∨ mode = 2 ∨ mode = 3 ∨ mode = 4 ∨ mode = 5 ∨ mode = 6 ∨ mode = 7 ∨ mode = 8 := by
  unfold mOk at h; simp at h; omega
def mlo : Int → List S29 → Int
  | a, [] => a
  | a, x :: xs => mlo (mn a x.f0) xs
def mhi : Int → List S29 → Int
  | a, [] => a
  | a, x :: xs => mhi (mx a x.f0) xs
def mSome (m : List S29) : Bool := melOk m && decide (0 < m.length)
def mrange (m : List S29) : Int × Int × Bool := if mSome m = true then (mlo (rd_T29 m 0).f0 m, mhi (rd_T29 m 0).f0 m, true) else (0, 0, false)
def mIn (m : List S29) (mode : Int) : Bool :=
  mSome m && (mOk mode && ((rd_T29 m ((m.length : Int) - 1)).f0 == (mRow mode).1 && (!(rd_T29 m ((m.length : Int) - 1)).f1 && (decide ((mRow mode).2.2.1 ≤ mlo (rd_T29 m 0).f0 m) && decide (mhi (rd_T29 m 0).f0 m ≤ (mRow mode).2.2.2)))))
def mUp (m : List S29) : Nat → List Int
  | 0 => []
  | n + 1 => if mIn m ((n : Int) + 1) = true then mUp m n ++ [(n : Int) + 1] else mUp m n
theorem mUp_len (m : List S29) : ∀ n, (mUp m n).length ≤ n
  | 0 => by simp [mUp]
  | n + 1 => by
    have := mUp_len m n
    simp only [mUp]
    split
    · simp; omega
    · omega

theorem spec_MelodyRange_ev (m : List S29) (hm : m.length ≤ 1000000000000) : Ev (fun k => spec_MelodyRange.f k m) (mrange m) := by
  unfold spec_MelodyRange.f mrange mSome
  refine Ev.bind (spec_MelodyValid_ev m hm) ?_
  cases hok : melOk m
  · refine Ev.neg (by simp) (Ev.succ ?_)
    simp only [spec_MelodyRange.j0, if_true]
    exact Ev.eqr (Ev.now _) (by simp)
  refine Ev.pos rfl (Ev.succ ?_)
  simp only [spec_MelodyRange.j0]
  by_cases h0 : 0 < m.length
  · rw [decide_eq_true h0, if_pos (by simp)]
    refine Ev.neg (by simp; intro h; subst h; simp at h0) (Ev.pos (by omega) ?_)
    have := Ev.over z29 m (fun k (s : Int × Int) i => spec_MelodyRange.l0 k m s.1 s.2 i) (fun s rest => (mlo s.1 rest, mhi s.2 rest, true)) (fun _ _ => True) (by
      intro s _
      refine Ev.succ ?_
      simp only [spec_MelodyRange.l0, mlo, mhi]
      exact Ev.neg (by omega) (Ev.now _)) (by
      intro s i rest _ hi _ ih
      refine Ev.succ ?_
      simp only [spec_MelodyRange.l0, mlo, mhi]
      rw [w64 (by omega) (by omega)]
      exact Ev.pos (by omega) (Ev.pos (by omega) (ih (_, _) trivial))) 0 ((rd_T29 m 0).f0, (rd_T29 m 0).f0) (Nat.zero_le _) trivial
    simpa using this
  · have e : m = [] := List.eq_nil_of_length_eq_zero (by omega)
    subst e
    exact Ev.pos rfl (Ev.eqr (Ev.now _) (by simp))
theorem spec_l5Mode_eq (mode : Int) : spec_l5Mode.f mode = some (mOk mode) := by
  unfold spec_l5Mode.f
  rw [spec_l6In_eq]; rfl
theorem spec_ModeFinal_eq {mode : Int} (h : mOk mode = true) : spec_ModeFinal.f mode = some (mRow mode).1 := by
  rcases mOk_cases h with rfl | rfl | rfl | rfl | rfl | rfl | rfl | rfl <;> kernel_rfl
theorem spec_ModeRange_eq {mode : Int} (h : mOk mode = true) : spec_ModeRange.f mode = some ((mRow mode).2.2.1, (mRow mode).2.2.2, true) := by
  rcases mOk_cases h with rfl | rfl | rfl | rfl | rfl | rfl | rfl | rfl <;> kernel_rfl
theorem spec_ModeRange_no {mode : Int} (h : mOk mode = false) : spec_ModeRange.f mode = some (0, 0, false) := by
  unfold spec_ModeRange.f
  rw [spec_l5Mode_eq, h]; rfl
theorem spec_ModeIn_ev (m : List S29) (mode : Int) (hm : m.length ≤ 1000000000000) : Ev (fun k => spec_ModeIn.f k m mode) (mIn m mode) := by
  unfold spec_ModeIn.f
  refine Ev.bind (spec_MelodyRange_ev m hm) ?_
  unfold mIn mrange
  cases hs : mSome m
  · rw [if_neg (by simp)]
    cases hok : mOk mode
    · exact Ev.conb (spec_ModeRange_no hok) (Ev.neg (by simp) (Ev.now _))
    · exact Ev.conb (spec_ModeRange_eq hok) (Ev.neg (by simp) (Ev.now _))
  rw [if_pos rfl]
  have h0 : 0 < m.length := by unfold mSome at hs; simp at hs; exact hs.2
  cases hok : mOk mode
  · exact Ev.conb (spec_ModeRange_no hok) (Ev.pos rfl (Ev.neg (by simp) (Ev.now _)))
  refine Ev.conb (spec_ModeRange_eq hok) (Ev.pos rfl (Ev.pos rfl ?_))
  simp only [Bool.true_and]
  rw [w64 (x := (m.length : Int) - 1) (by omega) (by omega)]
  by_cases h1 : mlo (rd_T29 m 0).f0 m < (mRow mode).2.2.1
  · refine Ev.pos h1 (Ev.eqr (Ev.now _) ?_)
    rw [decide_eq_false (by omega : ¬ (mRow mode).2.2.1 ≤ mlo (rd_T29 m 0).f0 m)]; simp
  · refine Ev.neg h1 ?_
    rw [decide_eq_true (by omega : (mRow mode).2.2.1 ≤ mlo (rd_T29 m 0).f0 m)]
    by_cases h2 : mhi (rd_T29 m 0).f0 m > (mRow mode).2.2.2
    · refine Ev.pos h2 (Ev.eqr (Ev.now _) ?_)
      rw [decide_eq_false (by omega : ¬ mhi (rd_T29 m 0).f0 m ≤ (mRow mode).2.2.2)]; simp
    · refine Ev.neg h2 (Ev.pos (by omega) (Ev.pos (by omega) (Ev.conb (spec_ModeFinal_eq hok) (Ev.eqr (Ev.now _) ?_))))
      rw [decide_eq_true (by omega : mhi (rd_T29 m 0).f0 m ≤ (mRow mode).2.2.2)]; simp

theorem spec_ModeAll_ev (m : List S29) (hm : m.length ≤ 1000000000000) : Ev (fun k => spec_ModeAll.f k m) (mUp m 8) := by
  unfold spec_ModeAll.f
  have := Ev.upto (fun k (s : List Int) i => spec_ModeAll.l0 k m s (i + 1)) (fun i => mUp m i) 8 (mUp m 8) (by
    refine Ev.succ ?_
    simp only [spec_ModeAll.l0]
    exact Ev.neg (by omega) (Ev.now _)) (by
    intro i hi ih
    have hl := mUp_len m i
    refine Ev.succ ?_
    simp only [spec_ModeAll.l0]
    rw [w64 (by omega) (by omega)]
    refine Ev.pos (by omega) (Ev.bind (spec_ModeIn_ev m _ hm) ?_)
    simp only [mUp] at ih
    by_cases h : mIn m ((i : Int) + 1) = true
    · rw [if_pos h] at ih
      exact Ev.pos h (Ev.pos (by omega) ih)
    · rw [if_neg h] at ih
      exact Ev.neg h ih) 0 (Nat.zero_le _)
  simpa [mUp] using this

/-! tenors, and the likely mode -/
def mTen (mode : Int) : Int := if mOk mode = true then (mRow mode).2.1 else -1
def mCount (mode : Int) : List S29 → Int
  | [] => 0
  | x :: xs => (if x.f0 = mTen mode then 1 else 0) + mCount mode xs
theorem mCount_bd (mode : Int) : ∀ l, 0 ≤ mCount mode l ∧ mCount mode l ≤ (l.length : Int)
  | [] => by simp [mCount]
  | x :: xs => by
    have := mCount_bd mode xs
    simp only [mCount, List.length_cons]
    split <;> omega
def mBest (m : List S29) : Int → List Int → Int
  | b, [] => b
  | b, x :: xs => mBest m (if mCount x m > mCount b m then x else b) xs
def mLikely (m : List S29) : Int × Bool := match mUp m 8 with
  | [] => (0, false)
  | x :: xs => (mBest m x xs, true)
theorem mUp_bd (m : List S29) : ∀ n, ∀ x ∈ mUp m n, 1 ≤ x ∧ x ≤ (n : Int)
  | 0, x, h => by simp [mUp] at h
  | n + 1, x, h => by
    simp only [mUp] at h
    split at h
    · rcases List.mem_append.1 h with h | h
      · have := mUp_bd m n x h; omega
      · have := List.mem_singleton.1 h; omega
    · have := mUp_bd m n x h; omega
/-- The program's way: the best so far and its count. -/
def mGo (m : List S29) : Int → Int → List Int → Int × Int
  | b, c, [] => (b, c)
  | b, c, x :: xs => if mCount x m > c then mGo m x (mCount x m) xs else mGo m b c xs
theorem mGo_best (m : List S29) : ∀ l b, mGo m b (mCount b m) l = (mBest m b l, mCount (mBest m b l) m)
  | [], b => rfl
  | x :: xs, b => by
    simp only [mGo, mBest]
    by_cases h : mCount x m > mCount b m
    · rw [if_pos h, if_pos h, mGo_best m xs]
    · rw [if_neg h, if_neg h, mGo_best m xs]
theorem mGo_likely (m : List S29) : mLikely m = ((mGo m 0 (-1) (mUp m 8)).1, decide (0 ≤ (mGo m 0 (-1) (mUp m 8)).2)) := by
  unfold mLikely
  cases mUp m 8 with
  | nil => rfl
  | cons x xs =>
    have h := (mCount_bd x m).1
    have e : mGo m 0 (-1) (x :: xs) = (mBest m x xs, mCount (mBest m x xs) m) := by
      simp only [mGo]
      rw [if_pos (by omega), mGo_best]
    have h2 := (mCount_bd (mBest m x xs) m).1
    refine Prod.ext ?_ ?_
    · show mBest m x xs = (mGo m 0 (-1) (x :: xs)).1
      rw [e]
    · exact (decide_eq_true (by rw [e]; exact h2)).symm
theorem spec_ModeTenor_eq (mode : Int) : spec_ModeTenor.f mode = some (mTen mode) := by
  cases h : mOk mode
  · unfold spec_ModeTenor.f mTen
    rw [spec_l5Mode_eq, h]; rfl
  · rcases mOk_cases h with rfl | rfl | rfl | rfl | rfl | rfl | rfl | rfl <;> kernel_rfl
theorem spec_l5Tenors_ev (m : List S29) (mode : Int) (hm : m.length ≤ 1000000000000) : Ev (fun k => spec_l5Tenors.f k m mode) (mCount mode m) := by
  unfold spec_l5Tenors.f
  have := Ev.over z29 m (fun k (s : Int) i => spec_l5Tenors.l0 k m mode s i) (fun s rest => s + mCount mode rest) (fun i s => 0 ≤ s ∧ s ≤ i) (by
    intro s _
    refine Ev.succ ?_
    simp only [spec_l5Tenors.l0, mCount]
    exact Ev.eqr (Ev.neg (by omega) (Ev.now _)) (by omega)) (by
    intro s i rest hs hi _ ih
    refine Ev.succ ?_
    simp only [spec_l5Tenors.l0, mCount]
    rw [w64 (x := s + 1) (by omega) (by omega), w64 (by omega) (by omega)]
    refine Ev.pos (by omega) (Ev.pos (by omega) (Ev.conb (spec_ModeTenor_eq mode) ?_))
    have hrd : rd_T29 m (i : Int) = m.getD i z29 := rfl
    rw [hrd]
    by_cases h : (m.getD i z29).f0 = mTen mode
    · rw [if_pos h]
      exact Ev.pos h (Ev.eqr (ih _ (by omega)) (by omega))
    · rw [if_neg h]
      exact Ev.neg h (Ev.eqr (ih _ (by omega)) (by omega))) 0 0 (Nat.zero_le _) (by omega)
  simpa using this
theorem spec_ModeLikely_ev (m : List S29) (hm : m.length ≤ 1000000000000) : Ev (fun k => spec_ModeLikely.f k m) (mLikely m) := by
  unfold spec_ModeLikely.f mLikely
  refine Ev.bind (spec_ModeAll_ev m hm) ?_
  have hl := mUp_len m 8
  cases hL : mUp m 8 with
  | nil => exact Ev.pos rfl (Ev.now _)
  | cons x xs =>
    rw [hL] at hl
    refine Ev.neg (by rw [List.length_cons]; omega) (Ev.pos (by rw [List.length_cons]; omega) ?_)
    have h0 : rd (x :: xs) 0 = x := rfl
    rw [h0]
    have := Ev.over (0 : Int) (x :: xs) (fun k (s : Int) i => spec_ModeLikely.l0 k m (x :: xs) s i) (fun s rest => (mBest m s rest, true)) (fun _ _ => True) (by
      intro s _
      refine Ev.succ ?_
      simp only [spec_ModeLikely.l0, mBest]
      exact Ev.neg (by omega) (Ev.now _)) (by
      intro s i rest _ hi _ ih
      refine Ev.succ ?_
      simp only [spec_ModeLikely.l0, mBest]
      rw [w64 (by omega) (by omega)]
      refine Ev.pos (by omega) (Ev.pos (by omega) (Ev.bind (spec_l5Tenors_ev m _ hm) (Ev.bind (spec_l5Tenors_ev m _ hm) ?_)))
      have hrd : rd (x :: xs) (i : Int) = (x :: xs).getD i 0 := rfl
      rw [hrd]
      by_cases h : mCount ((x :: xs).getD i 0) m > mCount s m
      · rw [if_pos h]
        exact Ev.pos h (ih _ trivial)
      · rw [if_neg h]
        exact Ev.neg h (ih _ trivial)) 0 x (Nat.zero_le _) trivial
    refine Ev.eqr (by simpa using this) ?_
    simp only [mBest]
    rw [if_neg (by omega)]

end Go.Proofs.YtclpnaaagajhiaaDoor.Pure
