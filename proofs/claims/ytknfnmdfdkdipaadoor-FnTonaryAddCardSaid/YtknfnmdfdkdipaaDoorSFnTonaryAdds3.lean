/- Lemmas for the law FnTonaryAdd. -/
import Derived.Sort.Walk0
import Derived.Lib.Strings
import Derived.BigRegion
import Derived.Deep.Slices
import Derived.Laws.CopyOwn
import Derived.Lib.Slices
import Derived.Lib.Walk
import Derived.Lib.Bytealg
import Derived.Outline
import Derived.Lib.Overlaps
import Derived.Lib.AppendZeros
import Derived.Test.YtknfnmdfdkdipaaDoorSFnTonaryAdds2
namespace Go.Proofs.YtknfnmdfdkdipaaDoor.Pure
set_option linter.unusedVariables false
set_option linter.unusedSimpArgs false
open Go Go.RowKit Go.Proofs.YtknfnmdfdkdipaaDoor.PFnTonaryAdd Go.Proofs.YtknfnmdfdkdipaaDoorW.PrintWords Go.Proofs.YtknfnmdfdkdipaaDoorW.PrintLast Go.Proofs.YtknfnmdfdkdipaaDoorW.PrintMore

theorem Ev.succ {α : Type} {g : Nat → Option α} {r : α} (h : Ev (fun k => g (k + 1)) r) : Ev g r := Ev.step (fun _ => rfl) h
theorem Ev.pos {α : Type} {c : Prop} [Decidable c] {f g : Nat → Option α} {r : α} (hc : c) (h : Ev f r) : Ev (fun k => if c then f k else g k) r := by
 simp only [if_pos hc]; exact h
theorem Ev.neg {α : Type} {c : Prop} [Decidable c] {f g : Nat → Option α} {r : α} (hc : ¬ c) (h : Ev g r) : Ev (fun k => if c then f k else g k) r := by
 simp only [if_neg hc]; exact h
theorem Ev.conb {α β : Type} {x : Option α} {a : α} {f : Nat → α → Option β} {r : β} (hx : x = some a) (h : Ev (fun n => f n a) r) : Ev (fun n => x.bind (f n)) r := by subst hx; exact h
theorem Ev.eqr {α : Type} {g : Nat → Option α} {r r' : α} (h : Ev g r) (e : r = r') : Ev g r' := e ▸ h
/-- A loop over the places of a list, from the front. -/
theorem Ev.over {α ρ σ : Type} (d : α) (xs : List α) (L : Nat → σ → Int → Option ρ) (F : σ → List α → ρ) (I : Nat → σ → Prop)
 (hend : ∀ s, I xs.length s → Ev (fun k => L k s (xs.length : Int)) (F s []))
 (hstep : ∀ s (i : Nat) rest, I i s → i < xs.length → xs.drop i = xs.getD i d :: rest → (∀ s', I (i + 1) s' → Ev (fun k => L k s' ((i : Int) + 1)) (F s' rest)) → Ev (fun k => L k s (i : Int)) (F s (xs.getD i d :: rest))) :
 ∀ (i : Nat) (s : σ), i ≤ xs.length → I i s → Ev (fun k => L k s (i : Int)) (F s (xs.drop i)) := by
 intro i s hi hI
 obtain ⟨n, hn⟩ : ∃ n, n = xs.length - i := ⟨_, rfl⟩
 induction n generalizing i s with
 | zero =>
  have e : i = xs.length := by omega
  subst e
  rw [List.drop_length]
  exact hend s hI
 | succ n ih =>
  have hlt : i < xs.length := by omega
  have e : xs.drop i = xs.getD i d :: xs.drop (i + 1) := by
   rw [List.drop_eq_getElem_cons hlt, List.getD_eq_getElem?_getD, List.getElem?_eq_getElem hlt]; rfl
  rw [e]
  refine hstep s i _ hI hlt e (fun s' hs' => ?_)
  have := ih (i + 1) s' (by omega) hs' (by omega)
  simpa using this
theorem w64 {x : Int} (h : -9223372036854775808 ≤ x) (h' : x ≤ 9223372036854775807) : wrap64 x = x := by unfold wrap64; omega
theorem xor_bd (x y : Int) (hx : 0 ≤ x) (hx' : x < 4611686018427387904) (hy : 0 ≤ y) (hy' : y < 4611686018427387904) : 0 ≤ Go.bits .xor .i64 x y := by
 obtain ⟨a, rfl⟩ := Int.eq_ofNat_of_zero_le hx
 obtain ⟨b, rfl⟩ := Int.eq_ofNat_of_zero_le hy
 have ha : a < 2 ^ 62 := by omega
 have hb : b < 2 ^ 62 := by omega
 have hc : a ^^^ b < 2 ^ 62 := Nat.xor_lt_two_pow ha hb
 have ha' : a % 2 ^ IntKind.i64.bits = a := Nat.mod_eq_of_lt (Nat.lt_of_lt_of_le ha (by decide))
 have hb' : b % 2 ^ IntKind.i64.bits = b := Nat.mod_eq_of_lt (Nat.lt_of_lt_of_le hb (by decide))
 have e : Go.bits .xor .i64 (a : Int) (b : Int) = ((a ^^^ b : Nat) : Int) := by
  simp only [Go.bits, BitVec.ofInt_natCast, BitVec.toNat_xor, BitVec.toNat_ofNat, ha', hb']
  rw [Go.IntKind.wrap_i64]; omega
 rw [e]; omega
theorem rd_nat (xs : List Int) (i : Nat) : rd xs (i : Int) = xs.getD i 0 := rfl
theorem mx_le (a b : Int) : a ≤ mx a b ∧ b ≤ mx a b ∧ (mx a b = a ∨ mx a b = b) := by unfold mx; split <;> omega
/-- From some number of rounds on there is an answer, and it is such a one. -/
def Evx {α : Type} (g : Nat → Option α) (P : α → Prop) : Prop := ∃ r, Ev g r ∧ P r
theorem Evx.now {α : Type} {P : α → Prop} {r : α} (h : P r) : Evx (fun _ => some r) P := ⟨r, Ev.now r, h⟩
theorem Evx.mono {α : Type} {g : Nat → Option α} {P Q : α → Prop} (h : Evx g P) (hPQ : ∀ r, P r → Q r) : Evx g Q := by
 obtain ⟨r, h, hP⟩ := h; exact ⟨r, h, hPQ r hP⟩
theorem Evx.bind {α β : Type} {g : Nat → Option α} {f : Nat → α → Option β} {P : α → Prop} {Q : β → Prop} (h : Evx g P) (k : ∀ a, P a → Evx (fun n => f n a) Q) : Evx (fun n => (g n).bind (f n)) Q := by
 obtain ⟨a, h, hP⟩ := h
 obtain ⟨r, h', hQ⟩ := k a hP
 exact ⟨r, Ev.bind h h', hQ⟩
theorem Evx.succ {α : Type} {g : Nat → Option α} {P : α → Prop} (h : Evx (fun k => g (k + 1)) P) : Evx g P := by
 obtain ⟨r, h, hP⟩ := h; exact ⟨r, Ev.succ h, hP⟩
theorem Evx.pos {α : Type} {c : Prop} [Decidable c] {f g : Nat → Option α} {P : α → Prop} (hc : c) (h : Evx f P) : Evx (fun k => if c then f k else g k) P := by
 simp only [if_pos hc]; exact h
theorem Evx.neg {α : Type} {c : Prop} [Decidable c] {f g : Nat → Option α} {P : α → Prop} (hc : ¬ c) (h : Evx g P) : Evx (fun k => if c then f k else g k) P := by
 simp only [if_neg hc]; exact h
theorem Evx.ite {α : Type} {c : Prop} [Decidable c] {f g : Nat → Option α} {P : α → Prop} (h : c → Evx f P) (h' : ¬ c → Evx g P) : Evx (fun k => if c then f k else g k) P := by
 by_cases hc : c
 ·
  exact Evx.pos hc (h hc)
 ·
  exact Evx.neg hc (h' hc)
theorem Evx.someb {α β : Type} {a : α} {f : Nat → α → Option β} {P : β → Prop} (h : Evx (fun n => f n a) P) : Evx (fun n => (some a).bind (f n)) P := h
theorem Evx.conb {α β : Type} {x : Option α} {a : α} {f : Nat → α → Option β} {P : β → Prop} (hx : x = some a) (h : Evx (fun n => f n a) P) : Evx (fun n => x.bind (f n)) P := by subst hx; exact h
theorem Evx.bind1 {α β : Type} {g : Nat → Option α} {f : Nat → α → Option β} {a : α} {Q : β → Prop} (h : Ev g a) (k : Evx (fun n => f n a) Q) : Evx (fun n => (g n).bind (f n)) Q := by
 obtain ⟨r, h', hQ⟩ := k
 exact ⟨r, Ev.bind h h', hQ⟩
theorem rd_bd {s : List Int} (hs : ∀ x ∈ s, 0 ≤ x ∧ x ≤ 255) (i : Int) : 0 ≤ rd s i ∧ rd s i ≤ 255 := by
 unfold rd
 rw [List.getD_eq_getElem?_getD]
 cases h : s[i.toNat]? with
 | none => simp
 | some v => exact hs v (List.mem_of_getElem? h)
def toneOk (t : S74) : Bool := decide (0 ≤ t.f0 ∧ t.f0 ≤ 20) && (!t.f1 || Int.tmod t.f0 7 == 2)
def melOk (m : List S74) : Bool := decide (m.length ≤ 24) && m.all toneOk
theorem melOk_len {m : List S74} (h : melOk m = true) : m.length ≤ 24 := by
 unfold melOk at h; simp at h; exact h.1
theorem impl_Tone_valid_eq (a : Int) (b : Bool) : impl_Tone_valid.f a b = some (toneOk ⟨a, b⟩) := by
 unfold impl_Tone_valid.f toneOk
 by_cases h : a ≥ 0
 ·
  by_cases h' : a ≤ 20
  ·
   cases b
   ·
    simp [h, h']
   ·
    simp [h, h']
  ·
   simp [h, h']
 ·
  have : ¬ (0 ≤ a) := h
  simp [this]

theorem impl_MelodyValid_ev (m : List S74) : Ev (fun k => impl_MelodyValid.f k m) (melOk m) := by
 unfold impl_MelodyValid.f
 by_cases h : (m.length : Int) > 24
 ·
  refine Ev.eqr (Ev.pos h (Ev.now _)) ?_
  unfold melOk
  rw [decide_eq_false (by omega)]; rfl
 ·
  refine Ev.eqr (Ev.neg h (r := m.all toneOk) ?_) (by unfold melOk; rw [decide_eq_true (by omega)]; rfl)
  have := Ev.over z74 m (fun k (_ : Unit) i => impl_MelodyValid.l0 k m m.length i) (fun _ l => l.all toneOk) (fun _ _ => True) (by
   intro s _
   refine Ev.succ ?_
   simp only [impl_MelodyValid.l0]
   exact Ev.neg (by omega) (Ev.now _)) (by
   intro s i rest _ hi _ ih
   refine Ev.succ ?_
   simp only [impl_MelodyValid.l0]
   refine Ev.pos (by omega) (Ev.pos (by omega) (Ev.pos (by omega) (Ev.conb (impl_Tone_valid_eq _ _) ?_)))
   show Ev _ (toneOk (rd_T74 m i) && _)
   cases ht : toneOk (rd_T74 m i)
   ·
    exact Ev.neg (by simp [ht]) (Ev.now _)
   ·
    refine Ev.pos (by simp [ht]) ?_
    rw [w64 (by omega) (by omega)]
    simpa using ih () trivial) 0 () (Nat.zero_le _) trivial
  simpa using this

def mRow (mode : Int) : Int × Int × Int × Int :=
 if mode = 1 then (4, 8, 3, 12) else if mode = 2 then (4, 6, 0, 9) else if mode = 3 then (5, 10, 4, 13) else if mode = 4 then (5, 8, 1, 10) else if mode = 5 then (6, 10, 5, 14) else if mode = 6 then (6, 8, 2, 11) else if mode = 7 then (7, 11, 6, 15) else (7, 10, 3, 12)
def mOk (mode : Int) : Bool := decide (1 ≤ mode ∧ mode ≤ 8)
theorem mOk_cases {mode : Int} (h : mOk mode = true) : mode = 1 ∨ mode = 2 ∨ mode = 3 ∨ mode = 4 ∨ mode = 5 ∨ mode = 6 ∨ mode = 7 ∨ mode = 8 := by
 unfold mOk at h; simp at h; omega
def mlo : Int → List S74 → Int
 | a, [] => a
 | a, x :: xs => mlo (mn a x.f0) xs
def mhi : Int → List S74 → Int
 | a, [] => a
 | a, x :: xs => mhi (mx a x.f0) xs
def mSome (m : List S74) : Bool := melOk m && decide (0 < m.length)
def mIn (m : List S74) (mode : Int) : Bool :=
 mSome m && (mOk mode && ((rd_T74 m ((m.length : Int) - 1)).f0 == (mRow mode).1 && (!(rd_T74 m ((m.length : Int) - 1)).f1 && (decide ((mRow mode).2.2.1 ≤ mlo (rd_T74 m 0).f0 m) && decide (mhi (rd_T74 m 0).f0 m ≤ (mRow mode).2.2.2)))))
def mUp (m : List S74) : Nat → List Int
 | 0 => []
 | n + 1 => if mIn m ((n : Int) + 1) = true then mUp m n ++ [(n : Int) + 1] else mUp m n
def lowB (l : List UInt8) : Bool := l.all fun c => decide (97 ≤ c.toNat ∧ c.toNat ≤ 122)
def entOk (e : S26) : Bool := mOk e.f1 && (decide (1 ≤ e.f0.size ∧ e.f0.size ≤ 10) && (lowB e.f0.data.toList && (decide (1 ≤ e.f2.length ∧ e.f2.length ≤ 8) && melOk e.f2)))
def nmLt (a b : ByteArray) : Bool := Op.bytesLess a.toList b.toList
def befE (p e : S26) : Bool := if p.f1 < e.f1 then true else if p.f1 = e.f1 then nmLt p.f0 e.f0 else false
def tOkFrom : Option S26 → List S26 → Bool
 | _, [] => true
 | none, e :: es => entOk e && tOkFrom (some e) es
 | some p, e :: es => entOk e && (befE p e && tOkFrom (some e) es)
def tonOk (L : List S26) : Bool := decide (L.length ≤ 20) && tOkFrom none L
def prevOf (L : List S26) (i : Nat) : Option S26 := if i = 0 then none else some (rd_T26 L ((i : Int) - 1))
theorem nmLt_tot (a b : ByteArray) : (Op.bytesLess a.toList b.toList || a.toList == b.toList) = !nmLt b a := by
 unfold nmLt
 rw [bytesLess_eq, bytesLess_eq]
 by_cases h1 : a.toList < b.toList
 ·
  have h2 : ¬ b.toList < a.toList := fun h => List.lt_asymm h1 h
  simp [h1, h2]
 ·
  by_cases h2 : b.toList < a.toList
  ·
   have h3 : ¬ a.toList = b.toList := fun e => by rw [e] at h2; exact List.lt_irrefl _ h2
   simp [h1, h2, h3]
  ·
   have h3 : a.toList = b.toList := by
    exact List.le_antisymm (List.not_lt.1 h2) (List.not_lt.1 h1)
   rw [h3]
   simp [List.lt_irrefl]

def lhL : List Int := [0, 2, 4, 5, 7, 9, 10]
def lh (x : Int) : Int := lhL.getD (Int.tmod x 7).toNat 0
def hgt (t : S74) : Int := if t.f1 = true then lh t.f0 + 12 * Int.tdiv t.f0 7 - 1 else lh t.f0 + 12 * Int.tdiv t.f0 7
theorem toneOk_bd {t : S74} (h : toneOk t = true) : 0 ≤ t.f0 ∧ t.f0 ≤ 20 := by unfold toneOk at h; simp at h; exact h.1
theorem lh_bd (x : Int) : 0 ≤ lh x ∧ lh x ≤ 10 := by
 unfold lh
 generalize (Int.tmod x 7).toNat = n
 match n with
 | 0 => decide
 | 1 => decide
 | 2 => decide
 | 3 => decide
 | 4 => decide
 | 5 => decide
 | 6 => decide
 | n + 7 =>
  have : lhL.getD (n + 7) 0 = 0 := rfl
  rw [this]; decide
theorem mod7 {x : Int} (h : 0 ≤ x) : 0 ≤ Int.tmod x 7 ∧ Int.tmod x 7 < 7 := ⟨Int.tmod_nonneg _ h, Int.tmod_lt_of_pos _ (by decide)⟩
theorem div7 {x : Int} (h : 0 ≤ x) (h' : x ≤ 20) : 0 ≤ Int.tdiv x 7 ∧ Int.tdiv x 7 ≤ 2 := by
 rw [Int.tdiv_eq_ediv_of_nonneg h]; omega
def mvT (t : S74) (k : Int) (s : Bool) : S74 := ⟨t.f0 + k, s⟩
def mvGood (k semis : Int) (t : S74) (s : Bool) : Bool := toneOk (mvT t k s) && decide (hgt (mvT t k s) - hgt t = semis)
def mvAll (k semis : Int) : List S74 → Option (List S74)
 | [] => some []
 | t :: ts => if mvGood k semis t false = true then (mvAll k semis ts).map (mvT t k false :: ·) else if mvGood k semis t true = true then (mvAll k semis ts).map (mvT t k true :: ·) else none
theorem impl_equalNumbers_ev (a b : List Int) (hl : a.length ≤ 1000000000000) : Ev (fun k => impl_equalNumbers.f k a b) (a == b) := by
 unfold impl_equalNumbers.f
 by_cases hlen : (a.length : Int) = (b.length : Int)
 ·
  refine Ev.pos hlen ?_
  have := Ev.over (0 : Int) a (fun k (_ : Unit) i => impl_equalNumbers.l0 k b a a.length i) (fun _ rest => rest == b.drop (a.length - rest.length)) (fun _ _ => True) (by
   intro s _
   refine Ev.succ ?_
   simp only [impl_equalNumbers.l0]
   refine Ev.eqr (Ev.neg (by omega) (Ev.now _)) ?_
   have : b.drop a.length = [] := List.drop_eq_nil_of_le (by omega)
   simp [this]) (by
   intro s i rest _ hi hdr ih
   have hrl : rest.length + 1 + i = a.length := by
    have := congrArg List.length hdr
    simp at this; omega
   refine Ev.succ ?_
   simp only [impl_equalNumbers.l0]
   rw [w64 (by omega) (by omega)]
   refine Ev.pos (by omega) (Ev.pos (by omega) (Ev.pos (by omega) (Ev.pos (by omega) ?_)))
   have hra : rd a (i : Int) = a.getD i 0 := rfl
   have hrb : rd b (i : Int) = b.getD i 0 := rfl
   rw [hra, hrb]
   have e2 : a.length - (a.getD i 0 :: rest).length = i := by simp; omega
   have e1 : a.length - rest.length = i + 1 := by omega
   have e3 : b.drop i = b.getD i 0 :: b.drop (i + 1) := by
    rw [List.drop_eq_getElem_cons (by omega), List.getD_eq_getElem?_getD, List.getElem?_eq_getElem (by omega)]; rfl
   rw [e2, e3]
   have ih := ih () trivial
   rw [e1] at ih
   by_cases h : a.getD i 0 = b.getD i 0
   ·
    refine Ev.pos h (Ev.eqr ih ?_)
    rw [h, Bool.eq_iff_iff]; simp
   ·
    refine Ev.neg h (Ev.eqr (Ev.now _) ?_)
    symm; rw [beq_eq_false_iff_ne]; intro hc; exact h (List.cons.inj hc).1) 0 () (Nat.zero_le _) trivial
  simpa using this
 ·
  refine Ev.neg hlen (Ev.eqr (Ev.now _) ?_)
  symm; rw [beq_eq_false_iff_ne]; rintro rfl; exact hlen rfl

def Lk (w : World) (B : Nat) : Value → List S74 → Prop
 | v, [] => v = .pointer none
 | v, x :: xs => ∃ b nx, v = .pointer (some ⟨b, 0, none⟩) ∧ B ≤ b ∧ w.heap[b]? = some (.cells #[.int .i64 x.f0, .bool x.f1, nx] 88 (0, 0)) ∧ Lk w B nx xs
theorem Lk.below {w w' : World} {B : Nat} (hb : Below w.heap.size w w') : ∀ {xs : List S74} {v : Value}, Lk w B v xs → Lk w' B v xs
 | [], _, h => h
 | x :: xs, _, ⟨b, nx, h1, h2, h3, h4⟩ => ⟨b, nx, h1, h2, (hb.block _ (blk_lt h3)).trans h3, Lk.below hb h4⟩
theorem Lk.ptr {w : World} {B : Nat} : ∀ {xs : List S74} {v : Value}, Lk w B v xs → ∃ p, v = .pointer p
 | [], _, h => ⟨_, h⟩
 | x :: xs, _, ⟨b, nx, h1, _⟩ => ⟨_, h1⟩
set_option maxHeartbeats 4000000 in
set_option maxRecDepth 100000 in
theorem impl_linked_calls (m : List S74) (A0 : Option Addr) (c0 : Nat) (w : World) (hr0 : Kd.C k74 w A0 m.length m) (hc0 : m.length ≤ c0) (hm : m.length ≤ 1000000000000) :
 Calls Tryd.prog 56 #[.slice A0 m.length c0] w fun e w' => ∃ v, e = .returned v ∧ Lk w' w.heap.size v m ∧ Below w.heap.size w w' := by
 have HR0 := Aside0.mk hr0
 have HC0 := Aside0.mk hc0
 clear hr0 hc0
 have hu := Tryd.underlying88
 have hu1 := Tryd.underlying74
 go_enter Tryd.func56, Tryd.ntmps56
 go_wp2
 go_loopg [3, 4] m.length (fun kq v3 v4 w' => ∃ (i : Int), v4 = .int .i64 i ∧ Aside0 (kq = (i + 1).toNat ∧ -1 ≤ i ∧ i < (m.length : Int)) ∧ Aside0 (Lk w' w.heap.size v3 (m.drop (i + 1).toNat)) ∧ Aside0 (Below w.heap.size w w'))
 case atStart =>
  have e : ((m.length : Int) - 1 + 1).toNat = m.length := by omega
  have hL : Lk w w.heap.size (.pointer none) (m.drop ((m.length : Int) - 1 + 1).toNat) := by rw [e, List.drop_length]; rfl
  exact ⟨(m.length : Int) - 1, rfl, ⟨by omega, by omega, by omega⟩, ⟨hL⟩, ⟨by repeat (first | exact Below.refl _ _ | apply below_alloc | apply pw_below_drewN | apply below_drew1)⟩⟩
 case round =>
  obtain ⟨i, rfl, HX, HL, HB⟩ := hrel
  obtain ⟨hk, hi0, hi1⟩ := HX.out
  obtain ⟨p, rfl⟩ := HL.out.ptr
  by_cases h : 0 ≤ i
  ·
   have d1 : decide (0 ≤ i) = true := decide_eq_true h
   obtain ⟨ad, e1, ux0, ux1⟩ := at_T74 HR0.out i h hi1
   subst e1
   have hx0 := (HB.out.cell (World.block_lt_of_cell? w _ ux0)).trans ux0
   have hx1 := (HB.out.cell (World.block_lt_of_cell? w _ ux1)).trans ux1
   obtain ⟨X, hX⟩ : ∃ X, X = rd_T74 m i := ⟨_, rfl⟩
   rw [← hX] at hx0 hx1
   have hdr : Aside0 (m.drop (i - 1 + 1).toNat = X :: m.drop (i + 1).toNat) := by
    have e0 : (i - 1 + 1).toNat = i.toNat := by omega
    have e1 : (i + 1).toNat = i.toNat + 1 := by omega
    refine ⟨?_⟩
    rw [e0, e1, List.drop_eq_getElem_cons (by omega), hX]
    unfold rd_T74
    rw [List.getD_eq_getElem?_getD, List.getElem?_eq_getElem (by omega)]; rfl
   have NX : Aside0 ((i - 1 + 1).toNat < gk ∧ -1 ≤ i - 1 ∧ i - 1 < (m.length : Int)) := ⟨by omega, by omega, by omega⟩
   have j0 := eq_true h
   have j1 := eq_true hi1
   clear hX ux0 ux1 hk
   go_wp2_with ((with_reducible refine gate_dst (N := 18) rfl ?_); refine box_event ?hg (N := 18) ?hd (cs := #[.int .i64 X.f0, .bool X.f1, .pointer p]) (t := 88) ?hr ?_; (case hd => rfl); (case hg => rfl); (case hr => first | (go_simp; done) | (go_simp; rfl)); intro gb hg w3 hbox hb3; have HBX := Aside0.mk hbox; have HL3 := Aside0.mk (HL.out.below hb3); have HB3 := Aside0.mk (below_step HB.out hb3); have GW := Aside0.mk (show w.heap.size ≤ gb from (by rw [hg]; exact HB.out.size)); clear hg hbox hb3)
   go_roundg ((i - 1 + 1).toNat)
   case measure => exact NX.out.1
   case rel => exact ⟨i - 1, rfl, ⟨rfl, NX.out.2⟩, ⟨by rw [hdr.out]; exact ⟨gb, _, rfl, GW.out, HBX.out, HL3.out⟩⟩, HB3⟩
  ·
   have d1 : decide (0 ≤ i) = false := decide_eq_false h
   obtain rfl : i = -1 := by omega
   have HL' := HL.out
   go_wp2
   go_ret
   exact ⟨_, rfl, HL', HB.out⟩

def diffs (g : S74 → S74 → Int) : List S74 → List Int
 | [] => []
 | [_] => []
 | x :: y :: r => g x y :: diffs g (y :: r)
theorem diffs_len (g : S74 → S74 → Int) : ∀ m : List S74, (diffs g m).length = m.length - 1
 | [] => rfl
 | [_] => rfl
 | x :: y :: r => by
  have := diffs_len g (y :: r)
  simp only [diffs, List.length_cons] at this ⊢
  omega
def mdiffs (g : S74 → S74 → Int) (m : List S74) : List Int := if melOk m = true then diffs g m else []
theorem Lk.grown {w w1 : World} {B B' : Nat} {ok : Nat → Prop} {v0 : Value} {X : List Int} (hr : Kd.R (Kd.int .i64) 3 w B' ok v0 X) (hg : w.grownBy w1 v0.ownBlock) : ∀ {xs : List S74} {v : Value}, Lk w B v xs → Lk w1 B v xs
 | [], _, h => h
 | x :: xs, _, ⟨b, nx, h1, h2, h3, h4⟩ => ⟨b, nx, h1, h2, blk_grown h3 hg (Kd.R_ne hr h3 (by decide)), Lk.grown hr hg h4⟩
theorem melOk_all {m : List S74} (h : melOk m = true) : m.all toneOk = true := by
 unfold melOk at h; rw [Bool.and_eq_true] at h; exact h.2

end Go.Proofs.YtknfnmdfdkdipaaDoor.Pure
namespace Go.Proofs.YtknfnmdfdkdipaaDoor.Pure
set_option linter.unusedVariables false
set_option linter.unusedSimpArgs false
open Go Go.RowKit Go.Proofs.YtknfnmdfdkdipaaDoor.PFnTonaryAdd Go.Proofs.YtknfnmdfdkdipaaDoorW.PrintWords Go.Proofs.YtknfnmdfdkdipaaDoorW.PrintLast Go.Proofs.YtknfnmdfdkdipaaDoorW.PrintMore

def hCells : Array Value := #[.int .i64 0, .int .i64 2, .int .i64 4, .int .i64 5, .int .i64 7, .int .i64 9, .int .i64 10]
def HTab (w : World) : Prop := ∃ t fz, w.heap[2]? = some (.cells hCells t fz)
theorem HTab.below {w w' : World} (h : HTab w) (hb : Below w.heap.size w w') : HTab w' := by
 obtain ⟨t, fz, h⟩ := h
 exact ⟨t, fz, (hb.block _ (blk_lt h)).trans h⟩
theorem HTab.at {w : World} (h : HTab w) (x : Int) (h0 : 0 ≤ x) : w.cell? ⟨2, (Int.tmod x 7).toNat, none⟩ = some (.int .i64 (lh x)) := by
 obtain ⟨t, fz, h⟩ := h
 refine (cell_of_row w _ _ hCells t fz h).trans ?_
 have := mod7 h0
 unfold lh
 obtain ⟨n, hn⟩ : ∃ n, n = (Int.tmod x 7).toNat := ⟨_, rfl⟩
 rw [← hn]
 have hn7 : n < 7 := by omega
 clear hn
 match n, hn7 with
 | 0, _ => rfl
 | 1, _ => rfl
 | 2, _ => rfl
 | 3, _ => rfl
 | 4, _ => rfl
 | 5, _ => rfl
 | 6, _ => rfl
set_option maxHeartbeats 4000000 in
set_option maxRecDepth 100000 in
theorem impl_height_calls (t : S74) (w : World) (ht : HTab w) (hok : toneOk t = true) :
 Calls Tryd.prog 57 #[.agg #[.int .i64 t.f0, .bool t.f1]] w fun e w' => e = .returned (.int .i64 (hgt t)) ∧ Below w.heap.size w w' := by
 have hu1 := Tryd.underlying74
 have hb := toneOk_bd hok
 have h4 := mod7 hb.1
 have h3 := div7 hb.1 hb.2
 have hl := lh_bd t.f0
 have HT := Aside0.mk ht
 have e1 : wrap64 (Int.tdiv t.f0 7) = Int.tdiv t.f0 7 := w64 (by omega) (by omega)
 have e2 : wrap64 (12 * Int.tdiv t.f0 7) = 12 * Int.tdiv t.f0 7 := w64 (by omega) (by omega)
 have e3 : wrap64 (lh t.f0 + 12 * Int.tdiv t.f0 7) = lh t.f0 + 12 * Int.tdiv t.f0 7 := w64 (by omega) (by omega)
 have e4 : wrap64 (lh t.f0 + 12 * Int.tdiv t.f0 7 - 1) = lh t.f0 + 12 * Int.tdiv t.f0 7 - 1 := w64 (by omega) (by omega)
 have i1 := eq_true h4.1
 have i2 := eq_true h4.2
 cases hs : t.f1
 ·
  have eh : hgt t = lh t.f0 + 12 * Int.tdiv t.f0 7 := by unfold hgt; rw [hs]; rfl
  rw [eh]
  clear eh hok ht
  go_enter Tryd.func57, Tryd.ntmps57
  go_wp2_with ((with_reducible refine gate_dst (N := 1) rfl ?_); refine box_event ?hg (N := 1) ?hd (cs := #[.int .i64 t.f0, .bool false]) (t := 74) ?hr ?_; (case hd => rfl); (case hg => rfl); (case hr => first | (go_simp; done) | (go_simp; rfl)); intro gb hg w3 hbox hb3; have HB3 := Aside0.mk hb3; have hx0 : w3.cell? ⟨gb, 0, none⟩ = some (.int .i64 t.f0) := (blk_cell hbox 0).trans rfl; have hx1 : w3.cell? ⟨gb, 1, none⟩ = some (.bool false) := (blk_cell hbox 1).trans rfl; have hgl := (HT.out.below hb3).at t.f0 hb.1; clear hg hbox hb3)
  go_region
  all_goals
   go_wp2
   go_ret
   exact ⟨rfl, below_drew1 HB3.out⟩
 ·
  have eh : hgt t = lh t.f0 + 12 * Int.tdiv t.f0 7 - 1 := by unfold hgt; rw [hs]; rfl
  rw [eh]
  clear eh hok ht
  go_enter Tryd.func57, Tryd.ntmps57
  go_wp2_with ((with_reducible refine gate_dst (N := 1) rfl ?_); refine box_event ?hg (N := 1) ?hd (cs := #[.int .i64 t.f0, .bool true]) (t := 74) ?hr ?_; (case hd => rfl); (case hg => rfl); (case hr => first | (go_simp; done) | (go_simp; rfl)); intro gb hg w3 hbox hb3; have HB3 := Aside0.mk hb3; have hx0 : w3.cell? ⟨gb, 0, none⟩ = some (.int .i64 t.f0) := (blk_cell hbox 0).trans rfl; have hx1 : w3.cell? ⟨gb, 1, none⟩ = some (.bool true) := (blk_cell hbox 1).trans rfl; have hgl := (HT.out.below hb3).at t.f0 hb.1; clear hg hbox hb3)
  go_region
  all_goals
   go_wp2
   go_ret
   exact ⟨rfl, below_drew1 HB3.out⟩

end Go.Proofs.YtknfnmdfdkdipaaDoor.Pure
namespace Go.Proofs.YtknfnmdfdkdipaaDoor.Pure
set_option linter.unusedVariables false
set_option linter.unusedSimpArgs false
open Go Go.RowKit Go.Proofs.YtknfnmdfdkdipaaDoor.PFnTonaryAdd Go.Proofs.YtknfnmdfdkdipaaDoorW.PrintWords Go.Proofs.YtknfnmdfdkdipaaDoorW.PrintLast Go.Proofs.YtknfnmdfdkdipaaDoorW.PrintMore

set_option maxHeartbeats 4000000 in
set_option maxRecDepth 100000 in
theorem impl_differencesSemis_calls (g : S74 → S74 → Int) (I : World → Prop) (hI : ∀ w w' : World, I w → Below w.heap.size w w' → I w')
 (hC : ∀ (x y : S74) (w : World), toneOk x = true → toneOk y = true → I w → Calls Tryd.prog 51 #[.agg #[.int .i64 x.f0, .bool x.f1], .agg #[.int .i64 y.f0, .bool y.f1]] w fun e w' => e = .returned (.tuple #[.int .i64 (g x y), .bool true]) ∧ Below w.heap.size w w')
 (m : List S74) (A0 : Option Addr) (c0 : Nat) (w : World) (h0 : I w) (hr0 : Kd.C k74 w A0 m.length m) (hc0 : m.length ≤ c0) (hm : m.length ≤ 1000000000000) :
 Calls Tryd.prog 50 #[.slice A0 m.length c0, .func (.func 51) #[] #[]] w fun e w' => ∃ v, e = .returned v ∧ Kd.R (Kd.int .i64) 3 w' w.heap.size (fun _ => True) v (mdiffs g m) ∧ Below w.heap.size w w' := by
 obtain ⟨kk, hv⟩ := Ev.rounds (impl_MelodyValid_ev m)
 have hu := Tryd.underlying88
 have hu1 := Tryd.underlying74
 have HI := Aside0.mk info3
 have HII := Aside0.mk hI
 have HCC := Aside0.mk hC
 have H0 := Aside0.mk h0
 have HR0 := Aside0.mk hr0
 have HC0 := Aside0.mk hc0
 have HV := Aside0.mk hv
 clear hr0 hc0 hv hI hC h0
 cases hok : melOk m
 ·
  have e : mdiffs g m = [] := by unfold mdiffs; rw [hok]; rfl
  rw [e]
  rw [hok] at HV
  clear hok e
  go_enter Tryd.func50, Tryd.ntmps50
  go_wp2_with (first
   | ((with_reducible refine gate_dst (N := 9) rfl ?_); refine Kd.R_lit (Kd.int .i64) _ 3 ?hg (N := 9) ?hd (xs := ([] : List Int)) (inner := []) (ok := fun _ => True) (okp := fun _ => True) ?hr (Reps.none _ _) (fun _ hk => hk) trivial (Below.refl _ _) (Nat.le_refl _) (by simp) ?_; (case hd => rfl); (case hg => rfl); (case hr => first | (go_simp; done) | (go_simp; rfl)); intro v1 w1 ho1 hb1 _ _; obtain ⟨A1, c1, rfl⟩ := Kd.R_slice ho1; have HO1 := Aside0.mk ho1; have HB1 := Aside0.mk hb1; clear ho1 hb1)
   | (go_at_call 25; refine (impl_MelodyValid.calls kk _ _ m false _ (Kd.C_below HR0.out HB1.out) HC0.out HV.out).mono ?_; rintro e w2 ⟨rfl, hb2⟩))
  go_ret
  exact ⟨_, rfl, Kd.R_below HO1.out hb2, below_step HB1.out hb2⟩
 rw [hok] at HV
 have e : mdiffs g m = diffs g m := by unfold mdiffs; rw [hok]; rfl
 rw [e]
 have hall := melOk_all hok
 have hlen := melOk_len hok
 cases m with
 | nil =>
  clear hok e
  go_enter Tryd.func50, Tryd.ntmps50
  go_wp2_with (first
   | ((with_reducible refine gate_dst (N := 9) rfl ?_); refine Kd.R_lit (Kd.int .i64) _ 3 ?hg (N := 9) ?hd (xs := ([] : List Int)) (inner := []) (ok := fun _ => True) (okp := fun _ => True) ?hr (Reps.none _ _) (fun _ hk => hk) trivial (Below.refl _ _) (Nat.le_refl _) (by simp) ?_; (case hd => rfl); (case hg => rfl); (case hr => first | (go_simp; done) | (go_simp; rfl)); intro v1 w1 ho1 hb1 _ _; obtain ⟨A1, c1, rfl⟩ := Kd.R_slice ho1; have HO1 := Aside0.mk ho1; have HB1 := Aside0.mk hb1; clear ho1 hb1)
   | (go_at_call 25; refine (impl_MelodyValid.calls kk _ _ [] true _ (Kd.C_below HR0.out HB1.out) HC0.out HV.out).mono ?_; rintro e w2 ⟨rfl, hb2⟩))
  go_ret
  exact ⟨_, rfl, Kd.R_below HO1.out hb2, below_step HB1.out hb2⟩
 | cons x0 l0 =>
  obtain ⟨m, hmm⟩ : ∃ m, m = x0 :: l0 := ⟨_, rfl⟩
  have hne : ((m.length : Int) == 0) = false := by rw [beq_eq_false_iff_ne, hmm]; simp; omega
  have hne' : (m.length == 0) = false := by rw [beq_eq_false_iff_ne, hmm]; simp
  obtain ⟨D, hD⟩ : ∃ D, D = diffs g (x0 :: l0) := ⟨_, rfl⟩
  rw [← hD]
  have HD := Aside0.mk hD
  rw [List.all_cons, Bool.and_eq_true] at hall
  have HALL := Aside0.mk (And.intro hall.1 (And.intro hall.2 (show l0.length ≤ 23 by simp only [List.length_cons] at hlen; omega)))
  rw [← hmm] at HR0 HC0 HV hm ⊢
  have HMM := Aside0.mk hmm
  clear hok e hD hall hlen hmm
  go_enter Tryd.func50, Tryd.ntmps50
  go_wp2_with (first
   | ((with_reducible refine gate_dst (N := 9) rfl ?_); refine Kd.R_lit (Kd.int .i64) _ 3 ?hg (N := 9) ?hd (xs := ([] : List Int)) (inner := []) (ok := fun _ => True) (okp := fun _ => True) ?hr (Reps.none _ _) (fun _ hk => hk) trivial (Below.refl _ _) (Nat.le_refl _) (by simp) ?_; (case hd => rfl); (case hg => rfl); (case hr => first | (go_simp; done) | (go_simp; rfl)); intro v1 w1 ho1 hb1 _ _; have HO1 := Aside0.mk ho1; have HB1 := Aside0.mk hb1; clear ho1 hb1)
   | (go_at_call 25; refine (impl_MelodyValid.calls kk _ _ m true _ (Kd.C_below HR0.out HB1.out) HC0.out HV.out).mono ?_; rintro e w2 ⟨rfl, hb2⟩; have HO2 := Aside0.mk (Kd.R_below HO1.out hb2); have HB2 := Aside0.mk (below_step HB1.out hb2); clear hb2)
   | (go_at_call 56; refine (impl_linked_calls m _ _ w2 (Kd.C_below HR0.out HB2.out) HC0.out hm).mono ?_; rintro e w3 ⟨v3, rfl, hl3, hb3⟩; have HL3 := Aside0.mk hl3; have HO3 := Aside0.mk (Kd.R_below HO2.out hb3); have HB3 := Aside0.mk (below_step HB2.out hb3); clear hl3 hb3))
  go_loopg [5, 6] l0.length (fun kq v5 v6 w' => ∃ (X : List Int) (x : S74) (l : List S74), Aside0 (kq = l.length ∧ X ++ diffs g (x :: l) = D ∧ toneOk x = true ∧ l.all toneOk = true ∧ X.length + l.length ≤ 23) ∧ Aside0 (Kd.R (Kd.int .i64) 3 w' w.heap.size (fun _ => True) v5 X) ∧ Aside0 (Lk w' w2.heap.size v6 (x :: l)) ∧ Aside0 (Below w.heap.size w w'))
  case atStart => exact ⟨[], x0, l0, ⟨rfl, HD.out.symm, HALL.out.1, HALL.out.2.1, by simpa using HALL.out.2.2⟩, HO3, ⟨by rw [← HMM.out]; exact HL3.out⟩, HB3⟩
  case round =>
   clear HO3 HL3 HB3
   obtain ⟨X, x, l, HX, HO, HL, HB⟩ := hrel
   obtain ⟨b, nx, e1, hbw, hbx, hnx⟩ := HL.out
   subst e1
   have hx0 : wr.cell? ⟨b, 0, none⟩ = some (.int .i64 x.f0) := (blk_cell hbx 0).trans rfl
   have hx1 : wr.cell? ⟨b, 1, none⟩ = some (.bool x.f1) := (blk_cell hbx 1).trans rfl
   have hx2 : wr.cell? ⟨b, 2, none⟩ = some nx := (blk_cell hbx 2).trans rfl
   have HBX := Aside0.mk hbx
   cases l with
   | nil =>
    obtain rfl : nx = .pointer none := hnx
    obtain ⟨A5, c5, e5⟩ := Kd.R_slice HO.out
    subst e5
    have hXD : X = D := by have := HX.out.2.1; simpa [diffs] using this
    subst hXD
    clear hbx
    go_wp2
    go_ret
    exact ⟨_, rfl, HO.out, HB.out⟩
   | cons y l =>
    have HNX := Aside0.mk hnx
    obtain ⟨b', nx', e2, hbw', hby, hny⟩ := hnx
    subst e2
    have hy0 : wr.cell? ⟨b', 0, none⟩ = some (.int .i64 y.f0) := (blk_cell hby 0).trans rfl
    have hy1 : wr.cell? ⟨b', 1, none⟩ = some (.bool y.f1) := (blk_cell hby 1).trans rfl
    have dx0 : wr.drew.cell? ⟨b, 0, none⟩ = some (.int .i64 x.f0) := hx0
    have dx1 : wr.drew.cell? ⟨b, 1, none⟩ = some (.bool x.f1) := hx1
    have dx2 : wr.drew.cell? ⟨b, 2, none⟩ = some (.pointer (some ⟨b', 0, none⟩)) := hx2
    have dy0 : wr.drew.cell? ⟨b', 0, none⟩ = some (.int .i64 y.f0) := hy0
    have dy1 : wr.drew.cell? ⟨b', 1, none⟩ = some (.bool y.f1) := hy1
    have hall := HX.out.2.2.2.1
    rw [List.all_cons, Bool.and_eq_true] at hall
    have NX : Aside0 (l.length < gk ∧ X ++ [g x y] ++ diffs g (y :: l) = D ∧ toneOk y = true ∧ l.all toneOk = true ∧ (X ++ [g x y]).length + l.length ≤ 23) := ⟨by have := HX.out.1; simp only [List.length_cons] at this; omega, by have := HX.out.2.1; simp only [diffs] at this; rw [List.append_assoc]; exact this, hall.1, hall.2, by have := HX.out.2.2.2.2; simp only [List.length_append, List.length_cons, List.length_nil] at this ⊢; omega⟩
    have HXT := Aside0.mk HX.out.2.2.1
    have bx : X.length ≤ 23 := by have := HX.out.2.2.2.2; omega
    have HDB := Aside0.mk (below_drew1 HB.out)
    have HID := Aside0.mk (HII.out _ _ H0.out HDB.out)
    clear hall hbx hby hny
    go_wp2
    go_region_held3 (fun w' => w'.cell? ⟨b, 0, none⟩ = some (.int .i64 x.f0) ∧ w'.cell? ⟨b, 1, none⟩ = some (.bool x.f1) ∧ w'.cell? ⟨b, 2, none⟩ = some (.pointer (some ⟨b', 0, none⟩)) ∧ w'.cell? ⟨b', 0, none⟩ = some (.int .i64 y.f0) ∧ w'.cell? ⟨b', 1, none⟩ = some (.bool y.f1))
     (first
      | exact ⟨dx0, dx1, dx2, dy0, dy1⟩
      | go_keep
      | exact ⟨pw_cell_below hb4 dx0, pw_cell_below hb4 dx1, pw_cell_below hb4 dx2, pw_cell_below hb4 dy0, pw_cell_below hb4 dy1⟩
      | fail)
     (first
      | (go_at_call 51; refine (HCC.out x y wr.drew HXT.out NX.out.2.2.1 HID.out).mono ?_; rintro e w4 ⟨rfl, hb4⟩)
      | fail)
    have HO4 := Aside0.mk (Kd.R_below (show Kd.R (Kd.int .i64) 3 wr.drew w.heap.size (fun _ => True) _ X from Kd.R_drew HO.out) hb4)
    have HB4 := Aside0.mk (below_step HDB.out hb4)
    have HBX4 := Aside0.mk (blk_below (show wr.drew.heap[b]? = _ from HBX.out) hb4)
    have HNX4 := Aside0.mk (Lk.below hb4 (show Lk wr.drew w2.heap.size _ (y :: l) from HNX.out.below (below_drew1 (Below.refl _ _))))
    clear hx0 hx1 hx2 hy0 hy1 dx0 dx1 dx2 dy0 dy1 hb4
    go_wp2_with ((with_reducible refine gate_builtin (b := .append) (xs := #[.tmp 47, .tmp 49]) rfl ?_); at_builtin; go_loud (refine Kd.R_append (Kd.int .i64) (w0 := w) w.heap.size rfl (.tmp 47) (.tmp 49) 33 3 (.int .i64 0) 8 rfl Tryd.underlying33 HI.out rfl (by decide) (by omega) _ X (g x y) [.int .i64 (g x y)] (fun _ => True) (fun _ => False) rfl rfl ?aP (fun _ hk => hk.elim) (fun _ _ => trivial) HO4.out HB4.out HB4.out.size (by omega) ?_); (case aP => exact rfl); intro v9 wC ho9 hb9 hg9 hat9; have HO9 := Aside0.mk ho9; have HB9 := Aside0.mk hb9; have HNX9 := Aside0.mk (Lk.grown HO4.out hg9 HNX4.out); have cx2 : wC.cell? ⟨b, 2, none⟩ = some (.pointer (some ⟨b', 0, none⟩)) := (blk_cell (blk_grown HBX4.out hg9 (Kd.R_ne HO4.out HBX4.out (by decide))) 2).trans rfl; clear ho9 hb9 hg9 hat9)
    go_roundg l.length
    case measure => exact NX.out.1
    case rel => exact ⟨X ++ [g x y], y, l, ⟨rfl, NX.out.2⟩, HO9, HNX9, HB9⟩

def semD (x y : S74) : Int := wrap64 (hgt y - hgt x)
set_option maxHeartbeats 4000000 in
set_option maxRecDepth 100000 in
theorem impl_ToneSemis_good (x y : S74) (w : World) (hx : toneOk x = true) (hy : toneOk y = true) (ht : HTab w) : Calls Tryd.prog 51 #[.agg #[.int .i64 x.f0, .bool x.f1], .agg #[.int .i64 y.f0, .bool y.f1]] w fun e w' => e = .returned (.tuple #[.int .i64 (semD x y), .bool true]) ∧ Below w.heap.size w w' := by
 have hu1 := Tryd.underlying74
 have HVX := Aside0.mk (show impl_Tone_valid.f x.f0 x.f1 = some true by rw [impl_Tone_valid_eq]; exact congrArg some hx)
 have HVY := Aside0.mk (show impl_Tone_valid.f y.f0 y.f1 = some true by rw [impl_Tone_valid_eq]; exact congrArg some hy)
 have HXO := Aside0.mk hx
 have HYO := Aside0.mk hy
 have HT := Aside0.mk ht
 clear hx hy ht
 go_enter Tryd.func51, Tryd.ntmps51
 go_upto_region 3 with (first
  | ((with_reducible refine gate_dst (N := 2) rfl ?_); refine box_event ?hg (N := 2) ?hd (cs := #[.int .i64 x.f0, .bool x.f1]) (t := 74) ?hr ?_; (case hd => rfl); (case hg => rfl); (case hr => first | (go_simp; done) | (go_simp; rfl)); intro gx hg w3 hbox hb3; have HBX := Aside0.mk hbox; have HB3 := Aside0.mk hb3; have hx0 : w3.cell? ⟨gx, 0, none⟩ = some (.int .i64 x.f0) := (blk_cell hbox 0).trans rfl; have hx1 : w3.cell? ⟨gx, 1, none⟩ = some (.bool x.f1) := (blk_cell hbox 1).trans rfl; clear hg hbox hb3)
  | ((with_reducible refine gate_dst (N := 3) rfl ?_); refine box_event ?hg (N := 3) ?hd (cs := #[.int .i64 y.f0, .bool y.f1]) (t := 74) ?hr ?_; (case hd => rfl); (case hg => rfl); (case hr => first | (go_simp; done) | (go_simp; rfl)); intro gy hg w4 hbox hb4; have HBX4 := Aside0.mk (blk_below HBX.out hb4); have HBY4 := Aside0.mk hbox; have HB4 := Aside0.mk (below_step HB3.out hb4); have hxa0 := pw_cell_below hb4 hx0; have hxa1 := pw_cell_below hb4 hx1; clear hg hbox hb4)
  | (go_at_call 40; with_reducible refine (impl_Tone_valid.calls x.f0 x.f1 true w4 HVX.out).mono ?_; rintro e w5 ⟨rfl, hb5⟩; have HBX5 := Aside0.mk (blk_below HBX4.out hb5); have HBY5 := Aside0.mk (blk_below HBY4.out hb5); have HB5 := Aside0.mk (below_step HB4.out hb5); have hya0 : w5.cell? ⟨gy, 0, none⟩ = some (.int .i64 y.f0) := (blk_cell HBY5.out 0).trans rfl; have hya1 : w5.cell? ⟨gy, 1, none⟩ = some (.bool y.f1) := (blk_cell HBY5.out 1).trans rfl; clear hb5)
  | (go_at_call 40; with_reducible refine (impl_Tone_valid.calls y.f0 y.f1 true w5 HVY.out).mono ?_; rintro e w6 ⟨rfl, hb6⟩; have HBX6 := Aside0.mk (blk_below HBX5.out hb6); have HBY6 := Aside0.mk (blk_below HBY5.out hb6); have HB6 := Aside0.mk (below_step HB5.out hb6); clear hb6))
 clear hx0 hx1 hxa0 hxa1 hya0 hya1
 have dx0 : w6.drew.cell? ⟨gx, 0, none⟩ = some (.int .i64 x.f0) := (blk_cell HBX6.out 0).trans rfl
 have dx1 : w6.drew.cell? ⟨gx, 1, none⟩ = some (.bool x.f1) := (blk_cell HBX6.out 1).trans rfl
 have dy0 : w6.drew.cell? ⟨gy, 0, none⟩ = some (.int .i64 y.f0) := (blk_cell HBY6.out 0).trans rfl
 have dy1 : w6.drew.cell? ⟨gy, 1, none⟩ = some (.bool y.f1) := (blk_cell HBY6.out 1).trans rfl
 have HDB := Aside0.mk (below_drew1 HB6.out)
 go_region_held3 (fun w' => w'.cell? ⟨gx, 0, none⟩ = some (.int .i64 x.f0) ∧ w'.cell? ⟨gx, 1, none⟩ = some (.bool x.f1) ∧ w'.cell? ⟨gy, 0, none⟩ = some (.int .i64 y.f0) ∧ w'.cell? ⟨gy, 1, none⟩ = some (.bool y.f1))
  (first
   | exact ⟨dx0, dx1, dy0, dy1⟩
   | go_keep
   | exact ⟨pw_cell_below hb7 dx0, pw_cell_below hb7 dx1, pw_cell_below hb7 dy0, pw_cell_below hb7 dy1⟩
   | exact ⟨pw_cell_below (below_step hb7 hb8) dx0, pw_cell_below (below_step hb7 hb8) dx1, pw_cell_below (below_step hb7 hb8) dy0, pw_cell_below (below_step hb7 hb8) dy1⟩
   | fail)
  (first
   | (go_at_call 57; with_reducible refine (impl_height_calls y w6.drew (HT.out.below HDB.out) HYO.out).mono ?_; rintro e w7 ⟨rfl, hb7⟩)
   | (go_at_call 57; with_reducible refine (impl_height_calls x w7 (HT.out.below (below_step HDB.out hb7)) HXO.out).mono ?_; rintro e w8 ⟨rfl, hb8⟩)
   | fail)
 have HB8 := Aside0.mk (below_step HDB.out (below_step hb7 hb8))
 clear dx0 dx1 dy0 dy1 hb7 hb8
 go_wp2
 go_ret2
 exact ⟨by rw [show semD x y = IntKind.i64.wrap (hgt y - hgt x) from (i64_w _).symm]; rfl, HB8.out⟩
set_option maxHeartbeats 4000000 in
set_option maxRecDepth 100000 in
theorem impl_MelodySemis_calls (m : List S74) (A0 : Option Addr) (c0 : Nat) (w : World) (ht : HTab w) (hr0 : Kd.C k74 w A0 m.length m) (hc0 : m.length ≤ c0) (hm : m.length ≤ 1000000000000) :
 Calls Tryd.prog 42 #[.slice A0 m.length c0] w fun e w' => ∃ v, e = .returned v ∧ Kd.R (Kd.int .i64) 3 w' w.heap.size (fun _ => True) v (mdiffs semD m) ∧ Below w.heap.size w w' := by
 have HR0 := Aside0.mk hr0
 have HC0 := Aside0.mk hc0
 have HT := Aside0.mk ht
 clear hr0 hc0 ht
 go_enter Tryd.func42, Tryd.ntmps42
 go_wp2_with (go_at_call 50; refine (impl_differencesSemis_calls semD HTab (fun _ _ h hb => h.below hb) (fun x y w hx hy h => impl_ToneSemis_good x y w hx hy h) m A0 c0 _ HT.out HR0.out HC0.out hm).mono ?_; rintro e w1 ⟨v, rfl, ho, hb⟩; obtain ⟨A1, c1, rfl⟩ := Kd.R_slice ho)
 go_ret
 exact ⟨_, rfl, ho, hb⟩

end Go.Proofs.YtknfnmdfdkdipaaDoor.Pure
namespace Go.Proofs.YtknfnmdfdkdipaaDoor.Pure
set_option linter.unusedVariables false
set_option linter.unusedSimpArgs false
open Go Go.RowKit Go.Proofs.YtknfnmdfdkdipaaDoor.PFnTonaryAdd Go.Proofs.YtknfnmdfdkdipaaDoorW.PrintWords Go.Proofs.YtknfnmdfdkdipaaDoorW.PrintLast Go.Proofs.YtknfnmdfdkdipaaDoorW.PrintMore

set_option maxHeartbeats 4000000 in
set_option maxRecDepth 100000 in
theorem impl_differencesSteps_calls (g : S74 → S74 → Int) (I : World → Prop) (hI : ∀ w w' : World, I w → Below w.heap.size w w' → I w')
 (hC : ∀ (x y : S74) (w : World), toneOk x = true → toneOk y = true → I w → Calls Tryd.prog 52 #[.agg #[.int .i64 x.f0, .bool x.f1], .agg #[.int .i64 y.f0, .bool y.f1]] w fun e w' => e = .returned (.tuple #[.int .i64 (g x y), .bool true]) ∧ Below w.heap.size w w')
 (m : List S74) (A0 : Option Addr) (c0 : Nat) (w : World) (h0 : I w) (hr0 : Kd.C k74 w A0 m.length m) (hc0 : m.length ≤ c0) (hm : m.length ≤ 1000000000000) :
 Calls Tryd.prog 50 #[.slice A0 m.length c0, .func (.func 52) #[] #[]] w fun e w' => ∃ v, e = .returned v ∧ Kd.R (Kd.int .i64) 3 w' w.heap.size (fun _ => True) v (mdiffs g m) ∧ Below w.heap.size w w' := by
 obtain ⟨kk, hv⟩ := Ev.rounds (impl_MelodyValid_ev m)
 have hu := Tryd.underlying88
 have hu1 := Tryd.underlying74
 have HI := Aside0.mk info3
 have HII := Aside0.mk hI
 have HCC := Aside0.mk hC
 have H0 := Aside0.mk h0
 have HR0 := Aside0.mk hr0
 have HC0 := Aside0.mk hc0
 have HV := Aside0.mk hv
 clear hr0 hc0 hv hI hC h0
 cases hok : melOk m
 ·
  have e : mdiffs g m = [] := by unfold mdiffs; rw [hok]; rfl
  rw [e]
  rw [hok] at HV
  clear hok e
  go_enter Tryd.func50, Tryd.ntmps50
  go_wp2_with (first
   | ((with_reducible refine gate_dst (N := 9) rfl ?_); refine Kd.R_lit (Kd.int .i64) _ 3 ?hg (N := 9) ?hd (xs := ([] : List Int)) (inner := []) (ok := fun _ => True) (okp := fun _ => True) ?hr (Reps.none _ _) (fun _ hk => hk) trivial (Below.refl _ _) (Nat.le_refl _) (by simp) ?_; (case hd => rfl); (case hg => rfl); (case hr => first | (go_simp; done) | (go_simp; rfl)); intro v1 w1 ho1 hb1 _ _; obtain ⟨A1, c1, rfl⟩ := Kd.R_slice ho1; have HO1 := Aside0.mk ho1; have HB1 := Aside0.mk hb1; clear ho1 hb1)
   | (go_at_call 25; refine (impl_MelodyValid.calls kk _ _ m false _ (Kd.C_below HR0.out HB1.out) HC0.out HV.out).mono ?_; rintro e w2 ⟨rfl, hb2⟩))
  go_ret
  exact ⟨_, rfl, Kd.R_below HO1.out hb2, below_step HB1.out hb2⟩
 rw [hok] at HV
 have e : mdiffs g m = diffs g m := by unfold mdiffs; rw [hok]; rfl
 rw [e]
 have hall := melOk_all hok
 have hlen := melOk_len hok
 cases m with
 | nil =>
  clear hok e
  go_enter Tryd.func50, Tryd.ntmps50
  go_wp2_with (first
   | ((with_reducible refine gate_dst (N := 9) rfl ?_); refine Kd.R_lit (Kd.int .i64) _ 3 ?hg (N := 9) ?hd (xs := ([] : List Int)) (inner := []) (ok := fun _ => True) (okp := fun _ => True) ?hr (Reps.none _ _) (fun _ hk => hk) trivial (Below.refl _ _) (Nat.le_refl _) (by simp) ?_; (case hd => rfl); (case hg => rfl); (case hr => first | (go_simp; done) | (go_simp; rfl)); intro v1 w1 ho1 hb1 _ _; obtain ⟨A1, c1, rfl⟩ := Kd.R_slice ho1; have HO1 := Aside0.mk ho1; have HB1 := Aside0.mk hb1; clear ho1 hb1)
   | (go_at_call 25; refine (impl_MelodyValid.calls kk _ _ [] true _ (Kd.C_below HR0.out HB1.out) HC0.out HV.out).mono ?_; rintro e w2 ⟨rfl, hb2⟩))
  go_ret
  exact ⟨_, rfl, Kd.R_below HO1.out hb2, below_step HB1.out hb2⟩
 | cons x0 l0 =>
  obtain ⟨m, hmm⟩ : ∃ m, m = x0 :: l0 := ⟨_, rfl⟩
  have hne : ((m.length : Int) == 0) = false := by rw [beq_eq_false_iff_ne, hmm]; simp; omega
  have hne' : (m.length == 0) = false := by rw [beq_eq_false_iff_ne, hmm]; simp
  obtain ⟨D, hD⟩ : ∃ D, D = diffs g (x0 :: l0) := ⟨_, rfl⟩
  rw [← hD]
  have HD := Aside0.mk hD
  rw [List.all_cons, Bool.and_eq_true] at hall
  have HALL := Aside0.mk (And.intro hall.1 (And.intro hall.2 (show l0.length ≤ 23 by simp only [List.length_cons] at hlen; omega)))
  rw [← hmm] at HR0 HC0 HV hm ⊢
  have HMM := Aside0.mk hmm
  clear hok e hD hall hlen hmm
  go_enter Tryd.func50, Tryd.ntmps50
  go_wp2_with (first
   | ((with_reducible refine gate_dst (N := 9) rfl ?_); refine Kd.R_lit (Kd.int .i64) _ 3 ?hg (N := 9) ?hd (xs := ([] : List Int)) (inner := []) (ok := fun _ => True) (okp := fun _ => True) ?hr (Reps.none _ _) (fun _ hk => hk) trivial (Below.refl _ _) (Nat.le_refl _) (by simp) ?_; (case hd => rfl); (case hg => rfl); (case hr => first | (go_simp; done) | (go_simp; rfl)); intro v1 w1 ho1 hb1 _ _; have HO1 := Aside0.mk ho1; have HB1 := Aside0.mk hb1; clear ho1 hb1)
   | (go_at_call 25; refine (impl_MelodyValid.calls kk _ _ m true _ (Kd.C_below HR0.out HB1.out) HC0.out HV.out).mono ?_; rintro e w2 ⟨rfl, hb2⟩; have HO2 := Aside0.mk (Kd.R_below HO1.out hb2); have HB2 := Aside0.mk (below_step HB1.out hb2); clear hb2)
   | (go_at_call 56; refine (impl_linked_calls m _ _ w2 (Kd.C_below HR0.out HB2.out) HC0.out hm).mono ?_; rintro e w3 ⟨v3, rfl, hl3, hb3⟩; have HL3 := Aside0.mk hl3; have HO3 := Aside0.mk (Kd.R_below HO2.out hb3); have HB3 := Aside0.mk (below_step HB2.out hb3); clear hl3 hb3))
  go_loopg [5, 6] l0.length (fun kq v5 v6 w' => ∃ (X : List Int) (x : S74) (l : List S74), Aside0 (kq = l.length ∧ X ++ diffs g (x :: l) = D ∧ toneOk x = true ∧ l.all toneOk = true ∧ X.length + l.length ≤ 23) ∧ Aside0 (Kd.R (Kd.int .i64) 3 w' w.heap.size (fun _ => True) v5 X) ∧ Aside0 (Lk w' w2.heap.size v6 (x :: l)) ∧ Aside0 (Below w.heap.size w w'))
  case atStart => exact ⟨[], x0, l0, ⟨rfl, HD.out.symm, HALL.out.1, HALL.out.2.1, by simpa using HALL.out.2.2⟩, HO3, ⟨by rw [← HMM.out]; exact HL3.out⟩, HB3⟩
  case round =>
   clear HO3 HL3 HB3
   obtain ⟨X, x, l, HX, HO, HL, HB⟩ := hrel
   obtain ⟨b, nx, e1, hbw, hbx, hnx⟩ := HL.out
   subst e1
   have hx0 : wr.cell? ⟨b, 0, none⟩ = some (.int .i64 x.f0) := (blk_cell hbx 0).trans rfl
   have hx1 : wr.cell? ⟨b, 1, none⟩ = some (.bool x.f1) := (blk_cell hbx 1).trans rfl
   have hx2 : wr.cell? ⟨b, 2, none⟩ = some nx := (blk_cell hbx 2).trans rfl
   have HBX := Aside0.mk hbx
   cases l with
   | nil =>
    obtain rfl : nx = .pointer none := hnx
    obtain ⟨A5, c5, e5⟩ := Kd.R_slice HO.out
    subst e5
    have hXD : X = D := by have := HX.out.2.1; simpa [diffs] using this
    subst hXD
    clear hbx
    go_wp2
    go_ret
    exact ⟨_, rfl, HO.out, HB.out⟩
   | cons y l =>
    have HNX := Aside0.mk hnx
    obtain ⟨b', nx', e2, hbw', hby, hny⟩ := hnx
    subst e2
    have hy0 : wr.cell? ⟨b', 0, none⟩ = some (.int .i64 y.f0) := (blk_cell hby 0).trans rfl
    have hy1 : wr.cell? ⟨b', 1, none⟩ = some (.bool y.f1) := (blk_cell hby 1).trans rfl
    have dx0 : wr.drew.cell? ⟨b, 0, none⟩ = some (.int .i64 x.f0) := hx0
    have dx1 : wr.drew.cell? ⟨b, 1, none⟩ = some (.bool x.f1) := hx1
    have dx2 : wr.drew.cell? ⟨b, 2, none⟩ = some (.pointer (some ⟨b', 0, none⟩)) := hx2
    have dy0 : wr.drew.cell? ⟨b', 0, none⟩ = some (.int .i64 y.f0) := hy0
    have dy1 : wr.drew.cell? ⟨b', 1, none⟩ = some (.bool y.f1) := hy1
    have hall := HX.out.2.2.2.1
    rw [List.all_cons, Bool.and_eq_true] at hall
    have NX : Aside0 (l.length < gk ∧ X ++ [g x y] ++ diffs g (y :: l) = D ∧ toneOk y = true ∧ l.all toneOk = true ∧ (X ++ [g x y]).length + l.length ≤ 23) := ⟨by have := HX.out.1; simp only [List.length_cons] at this; omega, by have := HX.out.2.1; simp only [diffs] at this; rw [List.append_assoc]; exact this, hall.1, hall.2, by have := HX.out.2.2.2.2; simp only [List.length_append, List.length_cons, List.length_nil] at this ⊢; omega⟩
    have HXT := Aside0.mk HX.out.2.2.1
    have bx : X.length ≤ 23 := by have := HX.out.2.2.2.2; omega
    have HDB := Aside0.mk (below_drew1 HB.out)
    have HID := Aside0.mk (HII.out _ _ H0.out HDB.out)
    clear hall hbx hby hny
    go_wp2
    go_region_held3 (fun w' => w'.cell? ⟨b, 0, none⟩ = some (.int .i64 x.f0) ∧ w'.cell? ⟨b, 1, none⟩ = some (.bool x.f1) ∧ w'.cell? ⟨b, 2, none⟩ = some (.pointer (some ⟨b', 0, none⟩)) ∧ w'.cell? ⟨b', 0, none⟩ = some (.int .i64 y.f0) ∧ w'.cell? ⟨b', 1, none⟩ = some (.bool y.f1))
     (first
      | exact ⟨dx0, dx1, dx2, dy0, dy1⟩
      | go_keep
      | exact ⟨pw_cell_below hb4 dx0, pw_cell_below hb4 dx1, pw_cell_below hb4 dx2, pw_cell_below hb4 dy0, pw_cell_below hb4 dy1⟩
      | fail)
     (first
      | (go_at_call 52; refine (HCC.out x y wr.drew HXT.out NX.out.2.2.1 HID.out).mono ?_; rintro e w4 ⟨rfl, hb4⟩)
      | fail)
    have HO4 := Aside0.mk (Kd.R_below (show Kd.R (Kd.int .i64) 3 wr.drew w.heap.size (fun _ => True) _ X from Kd.R_drew HO.out) hb4)
    have HB4 := Aside0.mk (below_step HDB.out hb4)
    have HBX4 := Aside0.mk (blk_below (show wr.drew.heap[b]? = _ from HBX.out) hb4)
    have HNX4 := Aside0.mk (Lk.below hb4 (show Lk wr.drew w2.heap.size _ (y :: l) from HNX.out.below (below_drew1 (Below.refl _ _))))
    clear hx0 hx1 hx2 hy0 hy1 dx0 dx1 dx2 dy0 dy1 hb4
    go_wp2_with ((with_reducible refine gate_builtin (b := .append) (xs := #[.tmp 47, .tmp 49]) rfl ?_); at_builtin; go_loud (refine Kd.R_append (Kd.int .i64) (w0 := w) w.heap.size rfl (.tmp 47) (.tmp 49) 33 3 (.int .i64 0) 8 rfl Tryd.underlying33 HI.out rfl (by decide) (by omega) _ X (g x y) [.int .i64 (g x y)] (fun _ => True) (fun _ => False) rfl rfl ?aP (fun _ hk => hk.elim) (fun _ _ => trivial) HO4.out HB4.out HB4.out.size (by omega) ?_); (case aP => exact rfl); intro v9 wC ho9 hb9 hg9 hat9; have HO9 := Aside0.mk ho9; have HB9 := Aside0.mk hb9; have HNX9 := Aside0.mk (Lk.grown HO4.out hg9 HNX4.out); have cx2 : wC.cell? ⟨b, 2, none⟩ = some (.pointer (some ⟨b', 0, none⟩)) := (blk_cell (blk_grown HBX4.out hg9 (Kd.R_ne HO4.out HBX4.out (by decide))) 2).trans rfl; clear ho9 hb9 hg9 hat9)
    go_roundg l.length
    case measure => exact NX.out.1
    case rel => exact ⟨X ++ [g x y], y, l, ⟨rfl, NX.out.2⟩, HO9, HNX9, HB9⟩

def stepD (x y : S74) : Int := wrap64 (y.f0 - x.f0)
theorem impl_ToneSteps_good (x y : S74) (w : World) (hx : toneOk x = true) (hy : toneOk y = true) : Calls Tryd.prog 52 #[.agg #[.int .i64 x.f0, .bool x.f1], .agg #[.int .i64 y.f0, .bool y.f1]] w fun e w' => e = .returned (.tuple #[.int .i64 (stepD x y), .bool true]) ∧ Below w.heap.size w w' := by
 refine impl_ToneSteps.calls x.f0 x.f1 y.f0 y.f1 _ _ w ?_
 unfold impl_ToneSteps.f
 have h1 : impl_Tone_valid.f x.f0 x.f1 = some true := by rw [impl_Tone_valid_eq]; exact congrArg some hx
 have h2 : impl_Tone_valid.f y.f0 y.f1 = some true := by rw [impl_Tone_valid_eq]; exact congrArg some hy
 rw [h1, h2]; rfl
set_option maxHeartbeats 4000000 in
set_option maxRecDepth 100000 in
theorem impl_MelodySteps_calls (m : List S74) (A0 : Option Addr) (c0 : Nat) (w : World) (hr0 : Kd.C k74 w A0 m.length m) (hc0 : m.length ≤ c0) (hm : m.length ≤ 1000000000000) :
 Calls Tryd.prog 43 #[.slice A0 m.length c0] w fun e w' => ∃ v, e = .returned v ∧ Kd.R (Kd.int .i64) 3 w' w.heap.size (fun _ => True) v (mdiffs stepD m) ∧ Below w.heap.size w w' := by
 have HR0 := Aside0.mk hr0
 have HC0 := Aside0.mk hc0
 clear hr0 hc0
 go_enter Tryd.func43, Tryd.ntmps43
 go_wp2_with (go_at_call 50; refine (impl_differencesSteps_calls stepD (fun _ => True) (fun _ _ _ _ => trivial) (fun x y w hx hy _ => impl_ToneSteps_good x y w hx hy) m A0 c0 _ trivial HR0.out HC0.out hm).mono ?_; rintro e w1 ⟨v, rfl, ho, hb⟩; obtain ⟨A1, c1, rfl⟩ := Kd.R_slice ho)
 go_ret
 exact ⟨_, rfl, ho, hb⟩

def msame (a b : List S74) : Bool := melOk a && (melOk b && (decide (a.length = b.length) && ((mdiffs semD a == mdiffs semD b) && (mdiffs stepD a == mdiffs stepD b))))
theorem mdiffs_len (g : S74 → S74 → Int) (m : List S74) : (mdiffs g m).length ≤ m.length := by
 unfold mdiffs
 split
 ·
  rw [diffs_len]; omega
 ·
  exact Nat.zero_le _
set_option maxHeartbeats 8000000 in
set_option maxRecDepth 100000 in
theorem impl_MelodySame_calls (a b : List S74) (A0 : Option Addr) (c0 : Nat) (A1 : Option Addr) (c1 : Nat) (w : World) (ht : HTab w) (hr0 : Kd.C k74 w A0 a.length a) (hc0 : a.length ≤ c0) (hr1 : Kd.C k74 w A1 b.length b) (hc1 : b.length ≤ c1) (ha : a.length ≤ 1000000000000) (hb : b.length ≤ 1000000000000) :
 Calls Tryd.prog 26 #[.slice A0 a.length c0, .slice A1 b.length c1] w fun e w' => e = .returned (.bool (msame a b)) ∧ Below w.heap.size w w' := by
 obtain ⟨ka, hva⟩ := Ev.rounds (impl_MelodyValid_ev a)
 obtain ⟨kb, hvb⟩ := Ev.rounds (impl_MelodyValid_ev b)
 have HR0 := Aside0.mk hr0
 have HC0 := Aside0.mk hc0
 have HR1 := Aside0.mk hr1
 have HC1 := Aside0.mk hc1
 have HVA := Aside0.mk hva
 have HVB := Aside0.mk hvb
 have HT := Aside0.mk ht
 clear hr0 hc0 hr1 hc1 hva hvb ht
 unfold msame
 cases h1 : melOk a
 ·
  rw [h1] at HVA
  clear h1
  go_enter Tryd.func26, Tryd.ntmps26
  go_wp2_with (go_at_call 25; with_reducible refine (impl_MelodyValid.calls ka _ _ a false w HR0.out HC0.out HVA.out).mono ?_; rintro e w1 ⟨rfl, hb1⟩)
  go_ret
  exact ⟨rfl, hb1⟩
 rw [h1] at HVA
 clear h1
 cases h2 : melOk b
 ·
  rw [h2] at HVB
  clear h2
  go_enter Tryd.func26, Tryd.ntmps26
  go_wp2_with (first
   | (go_at_call 25; with_reducible refine (impl_MelodyValid.calls ka _ _ a true w HR0.out HC0.out HVA.out).mono ?_; rintro e w1 ⟨rfl, hb1⟩; have HB1 := Aside0.mk hb1; clear hb1)
   | (go_at_call 25; with_reducible refine (impl_MelodyValid.calls kb _ _ b false w1 (Kd.C_below HR1.out HB1.out) HC1.out HVB.out).mono ?_; rintro e w2 ⟨rfl, hb2⟩; have HB2 := Aside0.mk (below_step HB1.out hb2); clear hb2))
  go_ret
  exact ⟨rfl, HB2.out⟩
 rw [h2] at HVB
 clear h2
 by_cases h3 : a.length = b.length
 case neg =>
  rw [decide_eq_false h3]
  have d1 : ((a.length : Int) == (b.length : Int)) = false := by rw [beq_eq_false_iff_ne]; omega
  have d2 : (a.length == b.length) = false := by rw [beq_eq_false_iff_ne]; exact h3
  clear h3
  go_enter Tryd.func26, Tryd.ntmps26
  go_wp2_with (first
   | (go_at_call 25; with_reducible refine (impl_MelodyValid.calls ka _ _ a true w HR0.out HC0.out HVA.out).mono ?_; rintro e w1 ⟨rfl, hb1⟩; have HB1 := Aside0.mk hb1; clear hb1)
   | (go_at_call 25; with_reducible refine (impl_MelodyValid.calls kb _ _ b true w1 (Kd.C_below HR1.out HB1.out) HC1.out HVB.out).mono ?_; rintro e w2 ⟨rfl, hb2⟩; have HB2 := Aside0.mk (below_step HB1.out hb2); clear hb2))
  go_ret
  exact ⟨rfl, HB2.out⟩
 rw [decide_eq_true h3]
 have d1 : ((a.length : Int) == (b.length : Int)) = true := by rw [beq_iff_eq]; omega
 have d2 : (a.length == b.length) = true := by rw [beq_iff_eq]; exact h3
 clear h3
 obtain ⟨ke, hve⟩ := Ev.rounds (impl_equalNumbers_ev (mdiffs semD a) (mdiffs semD b) (by have := mdiffs_len semD a; omega))
 have HVE := Aside0.mk hve
 clear hve
 cases h4 : mdiffs semD a == mdiffs semD b
 ·
  rw [h4] at HVE
  clear h4
  go_enter Tryd.func26, Tryd.ntmps26
  go_wp2_with (first
   | (go_at_call 25; with_reducible refine (impl_MelodyValid.calls ka _ _ a true w HR0.out HC0.out HVA.out).mono ?_; rintro e w1 ⟨rfl, hb1⟩; have HB1 := Aside0.mk hb1; clear hb1)
   | (go_at_call 25; with_reducible refine (impl_MelodyValid.calls kb _ _ b true w1 (Kd.C_below HR1.out HB1.out) HC1.out HVB.out).mono ?_; rintro e w2 ⟨rfl, hb2⟩; have HB2 := Aside0.mk (below_step HB1.out hb2); clear hb2)
   | (go_at_call 42; with_reducible refine (impl_MelodySemis_calls a _ _ w2 (HT.out.below HB2.out) (Kd.C_below HR0.out HB2.out) HC0.out ha).mono ?_; rintro e w3 ⟨v3, rfl, ho3, hb3⟩; obtain ⟨A3, c3, rfl⟩ := Kd.R_slice ho3; have HO3 := Aside0.mk ho3; have HB3 := Aside0.mk (below_step HB2.out hb3); clear ho3 hb3)
   | (go_at_call 42; with_reducible refine (impl_MelodySemis_calls b _ _ w3 (HT.out.below HB3.out) (Kd.C_below HR1.out HB3.out) HC1.out hb).mono ?_; rintro e w4 ⟨v4, rfl, ho4, hb4⟩; obtain ⟨A4, c4, rfl⟩ := Kd.R_slice ho4; have HO34 := Aside0.mk (Kd.R_below HO3.out hb4); have HO4 := Aside0.mk ho4; have HB4 := Aside0.mk (below_step HB3.out hb4); clear ho4 hb4)
   | (go_at_call 41; with_reducible refine (impl_equalNumbers.calls ke _ _ _ _ _ _ false w4 (Kd.R_reads' HO34.out).2.2 (Kd.R_reads' HO34.out).2.1 (Kd.R_reads' HO4.out).2.2 (Kd.R_reads' HO4.out).2.1 HVE.out).mono ?_; rintro e w5 ⟨rfl, hb5⟩; have HB5 := Aside0.mk (below_step HB4.out hb5.below); clear hb5))
  go_ret
  exact ⟨rfl, HB5.out⟩
 rw [h4] at HVE
 clear h4
 obtain ⟨kf, hvf⟩ := Ev.rounds (impl_equalNumbers_ev (mdiffs stepD a) (mdiffs stepD b) (by have := mdiffs_len stepD a; omega))
 obtain ⟨R, hR⟩ : ∃ R, R = (mdiffs stepD a == mdiffs stepD b) := ⟨_, rfl⟩
 rw [← hR] at hvf
 rw [← hR]
 have HVF := Aside0.mk hvf
 clear hvf hR
 go_enter Tryd.func26, Tryd.ntmps26
 go_wp2_with (first
  | (go_at_call 25; with_reducible refine (impl_MelodyValid.calls ka _ _ a true w HR0.out HC0.out HVA.out).mono ?_; rintro e w1 ⟨rfl, hb1⟩; have HB1 := Aside0.mk hb1; clear hb1)
  | (go_at_call 25; with_reducible refine (impl_MelodyValid.calls kb _ _ b true w1 (Kd.C_below HR1.out HB1.out) HC1.out HVB.out).mono ?_; rintro e w2 ⟨rfl, hb2⟩; have HB2 := Aside0.mk (below_step HB1.out hb2); clear hb2)
  | (go_at_call 42; with_reducible refine (impl_MelodySemis_calls a _ _ w2 (HT.out.below HB2.out) (Kd.C_below HR0.out HB2.out) HC0.out ha).mono ?_; rintro e w3 ⟨v3, rfl, ho3, hb3⟩; obtain ⟨A3, c3, rfl⟩ := Kd.R_slice ho3; have HO3 := Aside0.mk ho3; have HB3 := Aside0.mk (below_step HB2.out hb3); clear ho3 hb3)
  | (go_at_call 42; with_reducible refine (impl_MelodySemis_calls b _ _ w3 (HT.out.below HB3.out) (Kd.C_below HR1.out HB3.out) HC1.out hb).mono ?_; rintro e w4 ⟨v4, rfl, ho4, hb4⟩; obtain ⟨A4, c4, rfl⟩ := Kd.R_slice ho4; have HO34 := Aside0.mk (Kd.R_below HO3.out hb4); have HO4 := Aside0.mk ho4; have HB4 := Aside0.mk (below_step HB3.out hb4); clear ho4 hb4)
  | (go_at_call 41; with_reducible refine (impl_equalNumbers.calls ke _ _ _ _ _ _ true w4 (Kd.R_reads' HO34.out).2.2 (Kd.R_reads' HO34.out).2.1 (Kd.R_reads' HO4.out).2.2 (Kd.R_reads' HO4.out).2.1 HVE.out).mono ?_; rintro e w5 ⟨rfl, hb5⟩; have HB5 := Aside0.mk (below_step HB4.out hb5.below); clear hb5)
  | (go_at_call 43; with_reducible refine (impl_MelodySteps_calls a _ _ w5 (Kd.C_below HR0.out HB5.out) HC0.out ha).mono ?_; rintro e w6 ⟨v6, rfl, ho6, hb6⟩; obtain ⟨A6, c6, rfl⟩ := Kd.R_slice ho6; have HO6 := Aside0.mk ho6; have HB6 := Aside0.mk (below_step HB5.out hb6); clear ho6 hb6)
  | (go_at_call 43; with_reducible refine (impl_MelodySteps_calls b _ _ w6 (Kd.C_below HR1.out HB6.out) HC1.out hb).mono ?_; rintro e w7 ⟨v7, rfl, ho7, hb7⟩; obtain ⟨A7, c7, rfl⟩ := Kd.R_slice ho7; have HO67 := Aside0.mk (Kd.R_below HO6.out hb7); have HO7 := Aside0.mk ho7; have HB7 := Aside0.mk (below_step HB6.out hb7); clear ho7 hb7)
  | (go_at_call 41; with_reducible refine (impl_equalNumbers.calls kf _ _ _ _ _ _ R w7 (Kd.R_reads' HO67.out).2.2 (Kd.R_reads' HO67.out).2.1 (Kd.R_reads' HO7.out).2.2 (Kd.R_reads' HO7.out).2.1 HVF.out).mono ?_; rintro e w8 ⟨rfl, hb8⟩; have HB8 := Aside0.mk (below_step HB7.out hb8.below); clear hb8))
 go_ret
 exact ⟨by simp, HB8.out⟩

end Go.Proofs.YtknfnmdfdkdipaaDoor.Pure
namespace Go.Proofs.YtknfnmdfdkdipaaDoor.Pure
set_option linter.unusedVariables false
set_option linter.unusedSimpArgs false
open Go Go.RowKit Go.Proofs.YtknfnmdfdkdipaaDoor.PFnTonaryAdd Go.Proofs.YtknfnmdfdkdipaaDoorW.PrintWords Go.Proofs.YtknfnmdfdkdipaaDoorW.PrintLast Go.Proofs.YtknfnmdfdkdipaaDoorW.PrintMore

def mCells : Array Value := #[.int .i64 4, .int .i64 8, .int .i64 3, .int .i64 12, .int .i64 4, .int .i64 6, .int .i64 0, .int .i64 9, .int .i64 5, .int .i64 10, .int .i64 4, .int .i64 13, .int .i64 5, .int .i64 8, .int .i64 1, .int .i64 10, .int .i64 6, .int .i64 10, .int .i64 5, .int .i64 14, .int .i64 6, .int .i64 8, .int .i64 2, .int .i64 11, .int .i64 7, .int .i64 11, .int .i64 6, .int .i64 15, .int .i64 7, .int .i64 10, .int .i64 3, .int .i64 12]
def MTab (w : World) : Prop := ∃ t fz, w.heap[0]? = some (.cells mCells t fz)
theorem MTab.below {w w' : World} (h : MTab w) (hb : Below w.heap.size w w') : MTab w' := by
 obtain ⟨t, fz, h⟩ := h
 exact ⟨t, fz, (hb.block _ (blk_lt h)).trans h⟩
theorem MTab.cell {w : World} (h : MTab w) (i : Nat) : w.cell? ⟨0, i, none⟩ = mCells[i]? := by
 obtain ⟨t, fz, h⟩ := h
 exact cell_of_row w _ i mCells t fz h
def mRz (mode : Int) : Int × Int × Int × Int := if mOk mode = true then mRow mode else (0, 0, 0, 0)
set_option maxHeartbeats 4000000 in
set_option maxRecDepth 100000 in
theorem impl_modeAt_calls (mode : Int) (w : World) (ht : MTab w) :
 Calls Tryd.prog 31 #[.int .i64 mode] w fun e w' => e = .returned (.tuple #[.agg #[.int .i64 (mRz mode).1, .int .i64 (mRz mode).2.1, .int .i64 (mRz mode).2.2.1, .int .i64 (mRz mode).2.2.2], .bool (mOk mode)]) ∧ Below w.heap.size w w' := by
 have hu := Tryd.underlying63
 by_cases h1 : mode < 1
 ·
  have d1 : decide (mode < 1) = true := decide_eq_true h1
  have e : mOk mode = false := decide_eq_false (by omega)
  have ez : mRz mode = (0, 0, 0, 0) := by unfold mRz; rw [e]; rfl
  rw [e, ez]
  clear h1 e ez
  go_enter Tryd.func31, Tryd.ntmps31
  go_wp2
  (try simp only [Exit.inBlock, Exit.then])
  refine bodyPost_ret (results_ct rfl _ _ w.heap.size 63 #[.int .i64 0, .int .i64 0, .int .i64 0, .int .i64 0] (0, 0) _ rfl (blk_new w _) Tryd.underlying63 rfl (by kernel_rfl)) rfl ?_
  exact ⟨rfl, below_alloc (Below.refl _ _) _⟩
 have d1 : decide (mode < 1) = false := decide_eq_false h1
 by_cases h2 : mode > 8
 ·
  have d2 : decide (8 < mode) = true := decide_eq_true h2
  have e : mOk mode = false := decide_eq_false (by omega)
  have ez : mRz mode = (0, 0, 0, 0) := by unfold mRz; rw [e]; rfl
  rw [e, ez]
  clear h1 h2 e ez
  go_enter Tryd.func31, Tryd.ntmps31
  go_wp2
  (try simp only [Exit.inBlock, Exit.then])
  refine bodyPost_ret (results_ct rfl _ _ w.heap.size 63 #[.int .i64 0, .int .i64 0, .int .i64 0, .int .i64 0] (0, 0) _ rfl (blk_new w _) Tryd.underlying63 rfl (by kernel_rfl)) rfl ?_
  exact ⟨rfl, below_alloc (Below.refl _ _) _⟩
 have e : mOk mode = true := decide_eq_true (by omega)
 have hc := mOk_cases e
 have ez : mRz mode = mRow mode := by unfold mRz; rw [e]; rfl
 rw [e, ez]
 clear h1 h2 d1 e ez
 have hn := fun (i : Nat) (v : Value) (h : w.cell? ⟨0, i, none⟩ = some v) => pw_cell_below (below_alloc (Below.refl w.heap.size w) (.cells #[.int .i64 0, .int .i64 0, .int .i64 0, .int .i64 0] 63 (0, 0))) h
 rcases hc with rfl | rfl | rfl | rfl | rfl | rfl | rfl | rfl
 ·
  have c0 := hn 0 (.int .i64 4) ((ht.cell 0).trans rfl)
  have c1 := hn 1 (.int .i64 8) ((ht.cell 1).trans rfl)
  have c2 := hn 2 (.int .i64 3) ((ht.cell 2).trans rfl)
  have c3 := hn 3 (.int .i64 12) ((ht.cell 3).trans rfl)
  clear hn
  go_enter Tryd.func31, Tryd.ntmps31
  go_wp2
  (try simp only [Exit.inBlock, Exit.then])
  refine bodyPost_ret (results_ct rfl _ _ w.heap.size 63 #[.int .i64 4, .int .i64 8, .int .i64 3, .int .i64 12] (0, 0) _ rfl (blk_new w _) Tryd.underlying63 rfl (by kernel_rfl)) rfl ?_
  exact ⟨rfl, below_alloc (Below.refl _ _) _⟩
 ·
  have c0 := hn 4 (.int .i64 4) ((ht.cell 4).trans rfl)
  have c1 := hn 5 (.int .i64 6) ((ht.cell 5).trans rfl)
  have c2 := hn 6 (.int .i64 0) ((ht.cell 6).trans rfl)
  have c3 := hn 7 (.int .i64 9) ((ht.cell 7).trans rfl)
  clear hn
  go_enter Tryd.func31, Tryd.ntmps31
  go_wp2
  (try simp only [Exit.inBlock, Exit.then])
  refine bodyPost_ret (results_ct rfl _ _ w.heap.size 63 #[.int .i64 4, .int .i64 6, .int .i64 0, .int .i64 9] (0, 0) _ rfl (blk_new w _) Tryd.underlying63 rfl (by kernel_rfl)) rfl ?_
  exact ⟨rfl, below_alloc (Below.refl _ _) _⟩
 ·
  have c0 := hn 8 (.int .i64 5) ((ht.cell 8).trans rfl)
  have c1 := hn 9 (.int .i64 10) ((ht.cell 9).trans rfl)
  have c2 := hn 10 (.int .i64 4) ((ht.cell 10).trans rfl)
  have c3 := hn 11 (.int .i64 13) ((ht.cell 11).trans rfl)
  clear hn
  go_enter Tryd.func31, Tryd.ntmps31
  go_wp2
  (try simp only [Exit.inBlock, Exit.then])
  refine bodyPost_ret (results_ct rfl _ _ w.heap.size 63 #[.int .i64 5, .int .i64 10, .int .i64 4, .int .i64 13] (0, 0) _ rfl (blk_new w _) Tryd.underlying63 rfl (by kernel_rfl)) rfl ?_
  exact ⟨rfl, below_alloc (Below.refl _ _) _⟩
 ·
  have c0 := hn 12 (.int .i64 5) ((ht.cell 12).trans rfl)
  have c1 := hn 13 (.int .i64 8) ((ht.cell 13).trans rfl)
  have c2 := hn 14 (.int .i64 1) ((ht.cell 14).trans rfl)
  have c3 := hn 15 (.int .i64 10) ((ht.cell 15).trans rfl)
  clear hn
  go_enter Tryd.func31, Tryd.ntmps31
  go_wp2
  (try simp only [Exit.inBlock, Exit.then])
  refine bodyPost_ret (results_ct rfl _ _ w.heap.size 63 #[.int .i64 5, .int .i64 8, .int .i64 1, .int .i64 10] (0, 0) _ rfl (blk_new w _) Tryd.underlying63 rfl (by kernel_rfl)) rfl ?_
  exact ⟨rfl, below_alloc (Below.refl _ _) _⟩
 ·
  have c0 := hn 16 (.int .i64 6) ((ht.cell 16).trans rfl)
  have c1 := hn 17 (.int .i64 10) ((ht.cell 17).trans rfl)
  have c2 := hn 18 (.int .i64 5) ((ht.cell 18).trans rfl)
  have c3 := hn 19 (.int .i64 14) ((ht.cell 19).trans rfl)
  clear hn
  go_enter Tryd.func31, Tryd.ntmps31
  go_wp2
  (try simp only [Exit.inBlock, Exit.then])
  refine bodyPost_ret (results_ct rfl _ _ w.heap.size 63 #[.int .i64 6, .int .i64 10, .int .i64 5, .int .i64 14] (0, 0) _ rfl (blk_new w _) Tryd.underlying63 rfl (by kernel_rfl)) rfl ?_
  exact ⟨rfl, below_alloc (Below.refl _ _) _⟩
 ·
  have c0 := hn 20 (.int .i64 6) ((ht.cell 20).trans rfl)
  have c1 := hn 21 (.int .i64 8) ((ht.cell 21).trans rfl)
  have c2 := hn 22 (.int .i64 2) ((ht.cell 22).trans rfl)
  have c3 := hn 23 (.int .i64 11) ((ht.cell 23).trans rfl)
  clear hn
  go_enter Tryd.func31, Tryd.ntmps31
  go_wp2
  (try simp only [Exit.inBlock, Exit.then])
  refine bodyPost_ret (results_ct rfl _ _ w.heap.size 63 #[.int .i64 6, .int .i64 8, .int .i64 2, .int .i64 11] (0, 0) _ rfl (blk_new w _) Tryd.underlying63 rfl (by kernel_rfl)) rfl ?_
  exact ⟨rfl, below_alloc (Below.refl _ _) _⟩
 ·
  have c0 := hn 24 (.int .i64 7) ((ht.cell 24).trans rfl)
  have c1 := hn 25 (.int .i64 11) ((ht.cell 25).trans rfl)
  have c2 := hn 26 (.int .i64 6) ((ht.cell 26).trans rfl)
  have c3 := hn 27 (.int .i64 15) ((ht.cell 27).trans rfl)
  clear hn
  go_enter Tryd.func31, Tryd.ntmps31
  go_wp2
  (try simp only [Exit.inBlock, Exit.then])
  refine bodyPost_ret (results_ct rfl _ _ w.heap.size 63 #[.int .i64 7, .int .i64 11, .int .i64 6, .int .i64 15] (0, 0) _ rfl (blk_new w _) Tryd.underlying63 rfl (by kernel_rfl)) rfl ?_
  exact ⟨rfl, below_alloc (Below.refl _ _) _⟩
 ·
  have c0 := hn 28 (.int .i64 7) ((ht.cell 28).trans rfl)
  have c1 := hn 29 (.int .i64 10) ((ht.cell 29).trans rfl)
  have c2 := hn 30 (.int .i64 3) ((ht.cell 30).trans rfl)
  have c3 := hn 31 (.int .i64 12) ((ht.cell 31).trans rfl)
  clear hn
  go_enter Tryd.func31, Tryd.ntmps31
  go_wp2
  (try simp only [Exit.inBlock, Exit.then])
  refine bodyPost_ret (results_ct rfl _ _ w.heap.size 63 #[.int .i64 7, .int .i64 10, .int .i64 3, .int .i64 12] (0, 0) _ rfl (blk_new w _) Tryd.underlying63 rfl (by kernel_rfl)) rfl ?_
  exact ⟨rfl, below_alloc (Below.refl _ _) _⟩

def DTab (w : World) : Prop := MTab w ∧ HTab w
theorem DTab.below {w w' : World} (h : DTab w) (hb : Below w.heap.size w w') : DTab w' := ⟨h.1.below hb, h.2.below hb⟩
theorem DTab.h {w : World} (h : DTab w) : HTab w := And.right h
theorem DTab.m {w : World} (h : DTab w) : MTab w := And.left h

end Go.Proofs.YtknfnmdfdkdipaaDoor.Pure
namespace Go.Proofs.YtknfnmdfdkdipaaDoor.Pure
set_option linter.unusedVariables false
set_option linter.unusedSimpArgs false
open Go Go.RowKit Go.Proofs.YtknfnmdfdkdipaaDoor.PFnTonaryAdd Go.Proofs.YtknfnmdfdkdipaaDoorW.PrintWords Go.Proofs.YtknfnmdfdkdipaaDoorW.PrintLast Go.Proofs.YtknfnmdfdkdipaaDoorW.PrintMore

theorem ones_of {α : Type} {d : Kd α} {W : World} {base : Nat} {okp : Nat → Prop} {ys : List α} {news : List Value} (hs0 : 0 < d.sz) (hnM : Reps (d.M W base okp) d.sz ys news) : ∀ u ∈ news, u.oneCell' = true := by
 intro u hu
 obtain ⟨q, hq, rfl⟩ := List.mem_iff_getElem.1 hu
 have hql : q / d.sz < ys.length := by
  rw [Nat.div_lt_iff_lt_mul hs0]
  have := hnM.1
  omega
 have hc := hnM.2 (q / d.sz) _ (List.getElem?_eq_getElem hql)
 refine d.K_one (d.K_of_M hc) _ ?_
 rw [List.mem_iff_getElem?]
 exact ⟨q % d.sz, by rw [List.getElem?_take, if_pos (Nat.mod_lt _ hs0), List.getElem?_drop, Nat.mul_comm, Nat.div_add_mod, List.getElem?_eq_getElem hq]⟩
theorem R_copy_all {P : Program} {ops : Array Oper} {o : Oper} {rest : List Oper} {a : Act} {Q : Exit → Act → World → Prop} {α : Type} (d : Kd α) {w0 W : World} (base : Nat) (hgd : o.guard = none) (s x : Operand) (t e : TypeId)
 (ho : o.op = .call { callee := .builtin .copy, args := #[s, x], argTypes := #[t, t] }) (ht : P.underlying t = some (.slice e)) (hsz : (P.info? e).map (·.size) = some d.sz) (hs0 : 0 < d.sz)
 (v : Value) (zs xs : List α) (hl : zs.length = xs.length) (A : Option Addr) (c : Nat) (hv : a.eval s = v) (hx : a.eval x = .slice A xs.length c)
 (HO : d.R e W base (fun _ => True) v zs) (HR : d.C W A xs.length xs) (hKM : ∀ p cs, d.K W p cs → d.M W base (fun _ => False) p cs) (HB : Below base w0 W)
 (h : ∀ w1, d.R e w1 base (fun _ => True) v xs → Below base w0 w1 → wpList P ops Q rest (a.put o.dst (goInt xs.length)) w1) : wpList P ops Q (o :: rest) a W := by
 obtain ⟨i, hi, hisz⟩ := Option.map_eq_some_iff.1 hsz
 have hrun : ∃ w1, (Builtin.copy_ #[t, t] o.type #[v, .slice A xs.length c]).run P W = .ok (goInt xs.length) w1 ∧ d.R e w1 base (fun _ => True) v xs ∧ Below base w0 w1 := by
  obtain ⟨hok, inner, hown, hr⟩ := HO
  by_cases h0 : xs.length = 0
  ·
   obtain rfl : xs = [] := List.eq_nil_of_length_eq_zero h0
   obtain rfl : zs = [] := List.eq_nil_of_length_eq_zero (by simpa using hl)
   have hl0 : ∀ (y : Addr), (loadCells y 0).run P W = .ok #[] W := fun y => by simpa using run_loadCells_list (P := P) W y [] (by simp)
   refine ⟨W, ?_, ⟨hok, inner, hown, hr⟩, HB⟩
   rcases hown.2 with ⟨rfl, _⟩ | ⟨g, cap, cur, rfl, _⟩ <;> cases A <;> simp [Builtin.copy_, run_underlying ht, Builtin.lenOf, Builtin.firstCells, sizeOf, typeInfo, hi, storeCells, hl0]
  ·
   obtain ⟨ad, rfl, hcc⟩ := HR.2.2 (by omega)
   obtain ⟨news, hnr, hnc⟩ := ReadsRow.inner_ HR
   have hnM : Reps (d.M W base (fun _ => False)) d.sz xs news := hnr.imp_ (fun p c hp => hKM p c hp)
   have hone := ones_of hs0 hnM
   rcases hown.2 with ⟨rfl, hz⟩ | ⟨g, cap, cur, rfl, hg, hh, hncap, hcm, hcs, htk⟩
   ·
    omega
   ·
    have hfit : news.length ≤ cur.size := by
     rw [hnM.1, hcs, ← hl]
     exact Nat.mul_le_mul_right _ hncap
    have hst := run_storeCells_at P g 0 e news 0 cur W hh (by omega) hone
    have hld := run_loadCells_list (P := P) W ad news hnc
    have hnl : news.length = xs.length * d.sz := hnM.1
    refine ⟨W.setRow g (cur.toList.take 0 ++ news ++ cur.toList.drop (0 + 0 + news.length)).toArray, ?_, ⟨fun _ _ => trivial, news, ?_, ?_⟩, below_setRow HB hg _⟩
    ·
     rw [hnl] at hld
     simp [Builtin.copy_, run_underlying ht, Builtin.lenOf, Builtin.firstCells, sizeOf, typeInfo, hi, hisz, hl, hld, hst]
    ·
     refine ⟨hnl, .inr ⟨g, cap, _, by rw [hl], hg, setRow_heap W g cur _ e _ hh, by omega, hcm, ?_, ?_⟩⟩
     ·
      simp only [List.take_zero, List.nil_append, List.size_toArray, List.length_append, List.length_drop, Array.length_toList]
      omega
     ·
      simp only [List.take_zero, List.nil_append]
      rw [← hnl, List.take_append_of_le_length (Nat.le_refl _), List.take_length]
    ·
     exact hnM.imp_ (fun p c hp => d.M_mono (fun k hk => hk.elim) (d.M_move (fun k hk => hk.elim) hp))
 obtain ⟨w1, hr1, h1, hb1⟩ := hrun
 refine wpList_plain hgd fun K hK => ?_
 unfold Oper.wp execOp
 simp only [ho, resolve, invoke, builtin, Sem.run_bind, Sem.run_pure, Result.andThen_ok, List.map_toArray, List.map_cons, List.map_nil, hv, hx, hr1]
 exact hK _ _ (h w1 h1 hb1)

set_option maxHeartbeats 4000000 in
set_option maxRecDepth 100000 in
theorem impl_copiedTones_calls (m : List S74) (A0 : Option Addr) (c0 : Nat) (w : World) (hr0 : Kd.C k74 w A0 m.length m) (hc0 : m.length ≤ c0) (hm : m.length ≤ 1000000000000) :
 Calls Tryd.prog 38 #[.slice A0 m.length c0] w fun e w' => ∃ v, e = .returned v ∧ Kd.R k74 74 w' w.heap.size (fun _ => True) v m ∧ Below w.heap.size w w' := by
 have HR0 := Aside0.mk hr0
 have HC0 := Aside0.mk hc0
 clear hr0 hc0
 go_enter Tryd.func38, Tryd.ntmps38
 go_wp2_with (first
  | ((with_reducible refine gate_dst (N := 6) rfl ?_); refine Kd.R_make k74 _ 74 rfl (N := 6) rfl 24 _ _ rfl (m.length : Int) rfl rfl Tryd.underlying24 (.agg #[(.int .i64 0), (.bool false)]) 16 info74 rfl (by decide) (by omega) z74 (ok := fun _ => True) (okp := fun _ => True) (k74_mkM _ _ _ z74) (fun _ hk => hk) trivial (by omega) (by omega) (Below.refl _ _) (Nat.le_refl _) ?_; intro v1 w1 ho1 hb1 hg1 _)
  | ((with_reducible refine gate_builtin (b := .copy) (xs := #[.tmp 7, .tmp 8]) rfl ?_); go_loud (refine R_copy_all k74 w.heap.size rfl (.tmp 7) (.tmp 8) 24 74 rfl Tryd.underlying24 (by have h := congrArg (Option.map (fun x => x.2.1)) info74; rw [Option.map_map] at h; exact h) (by decide) v1 (List.replicate (m.length : Int).toNat z74) m (by simp) A0 c0 rfl rfl ho1 (Kd.C_below HR0.out hb1) (fun p c h => by rw [k74_open h]; exact k74_mkM _ _ _ p) hb1 ?_); intro w2 ho2 hb2))
 go_ret
 exact ⟨_, rfl, ho2, hb2⟩

end Go.Proofs.YtknfnmdfdkdipaaDoor.Pure
namespace Go.Proofs.YtknfnmdfdkdipaaDoor.PFnTonaryAdd
set_option linter.unusedVariables false
set_option linter.unusedSimpArgs false
open Go Go.RowKit Go.Proofs.YtknfnmdfdkdipaaDoor.Pure Go.Proofs.YtknfnmdfdkdipaaDoorW.PrintWords Go.Proofs.YtknfnmdfdkdipaaDoorW.PrintLast Go.Proofs.YtknfnmdfdkdipaaDoorW.PrintMore
def impl_modeAt.f (a0 : Int) : Option (Int × Int × Int × Int × Bool) := some ((mRz a0).1, (mRz a0).2.1, (mRz a0).2.2.1, (mRz a0).2.2.2, mOk a0)
theorem impl_modeAt.calls (a0 : Int) (r1 : Int) (r2 : Int) (r3 : Int) (r4 : Int) (r5 : Bool) (w : World) (ht : MTab w) (h : impl_modeAt.f a0 = some (r1, r2, r3, r4, r5)) :
 Calls Tryd.prog 31 #[.int .i64 a0] w fun e w' => e = .returned (.tuple #[.agg #[.int .i64 r1, .int .i64 r2, .int .i64 r3, .int .i64 r4], .bool r5]) ∧ Below w.heap.size w w' := by
 cases h; exact impl_modeAt_calls a0 w ht

end Go.Proofs.YtknfnmdfdkdipaaDoor.PFnTonaryAdd
namespace Go.Proofs.YtknfnmdfdkdipaaDoor.PFnTonaryAdd
open Go.RowKit Go.Proofs.YtknfnmdfdkdipaaDoorW.PrintWords Go.Proofs.YtknfnmdfdkdipaaDoorW.PrintLast Go.Proofs.YtknfnmdfdkdipaaDoorW.PrintMore
attribute [local go_sem] max2_int min2_int max_two min_two max_three min_three max_four min_four   -- for this text's walks alone
set_option linter.unusedVariables false
set_option linter.unusedSimpArgs false

def impl_tonesValid.f (k : Nat) (l0 : List (S74)) (a1 : Int) (a2 : Int) : Option (Bool) := if (l0.length : Int) ≥ a1 then (if (l0.length : Int) ≤ a2 then ((impl_MelodyValid.f k l0).bind fun t275 => (some t275)) else (some false)) else (some false)
set_option maxHeartbeats 8000000 in
set_option maxRecDepth 100000 in
theorem impl_tonesValid.calls (k : Nat) (A0 : Option Addr) (c0 : Nat) (l0 : List (S74)) (a1 : Int) (a2 : Int) (r : Bool) (w : World) (hr0 : Kd.C k74 w A0 l0.length l0) (hc0 : l0.length ≤ c0) (h : impl_tonesValid.f k l0 a1 a2 = some r) :
 Calls Tryd.prog 32 #[.slice A0 l0.length c0, .int .i64 a1, .int .i64 a2] w fun e w' => e = .returned (.bool r) ∧ Below w.heap.size w w' := by
 have HR0 := Aside0.mk hr0; have HC0 := Aside0.mk hc0; clear hr0 hc0; have HB := Aside0.mk (Below.refl w.heap.size w); have H : (if (l0.length : Int) ≥ a1 then (if (l0.length : Int) ≤ a2 then ((impl_MelodyValid.f k l0).bind fun t275 => (some t275)) else (some false)) else (some false)) = some r := h; clear h; by_cases c4 : (l0.length : Int) ≥ a1
 ·
  rw [if_pos c4] at H; have c4b0 : decide (a1 ≤ (l0.length : Int)) = true := decide_eq_true c4; clear c4; by_cases c5 : (l0.length : Int) ≤ a2
  ·
   rw [if_pos c5] at H; have c5b0 : decide ((l0.length : Int) ≤ a2) = true := decide_eq_true c5; clear c5; replace H := Option.bind_eq_some_iff.mp H; obtain ⟨t275, A60, H⟩ := H; replace H : (some t275) = some r := H; have A6 := Aside0.mk A60; clear A60; obtain rfl := Option.some.inj H; go_enter Tryd.func32, Tryd.ntmps32
   go_wp2_with (first | (go_at_call 25; (with_reducible refine (impl_MelodyValid.calls k _ _ l0 t275 _ ?side1 ?side2 A6.out).mono ?_); (case side1 => repeat (first | exact HR0.out | (with_reducible refine Kd.C_alloc ?_ _) | (with_reducible refine Kd.C_drewN ?_ _) | (with_reducible refine Kd.C_drew ?_))); (case side2 => exact HC0.out); rintro e w7 ⟨rfl, hb⟩; have n0_ := Aside0.mk (below_step (by repeat (first | (with_reducible first | exact HB.out | apply below_alloc | apply pw_below_drewN | apply below_drew1) | exact HB.out)) hb); clear HB; have HB := n0_; clear n0_; (try clear hb); (try clear hb2); (try clear hk); (try clear hi)))
   go_ret
   exact ⟨by first | rfl | (simp [errW_none, errW_some] <;> rfl) | (simp [*, errW_none, errW_some] <;> rfl), by repeat (first | (with_reducible first | exact HB.out | apply below_alloc | apply pw_below_drewN | apply below_drew1) | exact HB.out)⟩
  ·
   rw [if_neg c5] at H; have c5b0 : decide ((l0.length : Int) ≤ a2) = false := decide_eq_false c5; clear c5; obtain rfl := Option.some.inj H; go_enter Tryd.func32, Tryd.ntmps32
   go_wp2; go_ret
   exact ⟨by first | rfl | (simp [errW_none, errW_some] <;> rfl) | (simp [*, errW_none, errW_some] <;> rfl), by repeat (first | (with_reducible first | exact HB.out | apply below_alloc | apply pw_below_drewN | apply below_drew1) | exact HB.out)⟩
 ·
  rw [if_neg c4] at H; have c4b0 : decide (a1 ≤ (l0.length : Int)) = false := decide_eq_false c4; clear c4; obtain rfl := Option.some.inj H; go_enter Tryd.func32, Tryd.ntmps32
  go_wp2; go_ret
  exact ⟨by first | rfl | (simp [errW_none, errW_some] <;> rfl) | (simp [*, errW_none, errW_some] <;> rfl), by repeat (first | (with_reducible first | exact HB.out | apply below_alloc | apply pw_below_drewN | apply below_drew1) | exact HB.out)⟩

end Go.Proofs.YtknfnmdfdkdipaaDoor.PFnTonaryAdd
namespace Go.Proofs.YtknfnmdfdkdipaaDoor.PFnTonaryAdd
open Go.RowKit Go.Proofs.YtknfnmdfdkdipaaDoorW.PrintWords Go.Proofs.YtknfnmdfdkdipaaDoorW.PrintLast Go.Proofs.YtknfnmdfdkdipaaDoorW.PrintMore Go.Proofs.YtknfnmdfdkdipaaDoor.Pure
attribute [local go_sem] max2_int min2_int max_two min_two max_three min_three max_four min_four   -- for this text's walks alone
set_option linter.unusedVariables false
set_option linter.unusedSimpArgs false

mutual
def impl_Entry_valid.j0 : Nat → Bool → ByteArray → Int → List (S74) → Option (Bool)
 | 0, _, _, _, _ => none
 | k + 1, x24, x277000, x277001, x277002 => if x24 = true then (some false) else (impl_Entry_valid.l0 k (x277000.size : Int) 0 x277000 x277001 x277002)
def impl_Entry_valid.l0 : Nat → Int → Int → ByteArray → Int → List (S74) → Option (Bool)
 | 0, _, _, _, _, _ => none
 | k + 1, x27, x28, x277000, x277001, x277002 => if x28 < x27 then (if 0 ≤ x28 then (if x28 < (x277000.size : Int) then (if (bt x277000 x28) < 97 then (some false) else (if (bt x277000 x28) > 122 then (some false) else (impl_Entry_valid.l0 k x27 (wrap64 (x28 + 1)) x277000 x277001 x277002))) else (none)) else (none)) else ((impl_tonesValid.f k x277002 1 8).bind fun t283 => (some t283))
end
def impl_Entry_valid.f (k : Nat) (a0_0 : ByteArray) (a0_1 : Int) (l0_2 : List (S74)) : Option (Bool) := (impl_modeAt.f a0_1).bind fun bt277 => (if bt277.2.2.2.2 = true then (if a0_0.toList = ([] : List UInt8) then (impl_Entry_valid.j0 k true a0_0 a0_1 l0_2) else (impl_Entry_valid.j0 k (decide ((a0_0.size : Int) > 10)) a0_0 a0_1 l0_2)) else (impl_Entry_valid.j0 k true a0_0 a0_1 l0_2))
set_option maxHeartbeats 8000000 in
set_option maxRecDepth 100000 in
theorem impl_Entry_valid.calls (k : Nat) (a0_0 : ByteArray) (a0_1 : Int) (A0_2 : Option Addr) (c0_2 : Nat) (l0_2 : List (S74)) (r : Bool) (w : World) (ht : MTab w) (hr0_2 : Kd.C k74 w A0_2 l0_2.length l0_2) (hc0_2 : l0_2.length ≤ c0_2) (h : impl_Entry_valid.f k a0_0 a0_1 l0_2 = some r) :
 Calls Tryd.prog 16 #[.agg #[.string a0_0, .int .i64 a0_1, .slice A0_2 l0_2.length c0_2]] w fun e w' => e = .returned (.bool r) ∧ Below w.heap.size w w' := by
 have HT := Aside0.mk ht; clear ht; have hu26 := Tryd.underlying26; have hu63 := Tryd.underlying63; have HR0_2 := Aside0.mk hr0_2; have HC0_2 := Aside0.mk hc0_2; clear hr0_2 hc0_2; have HB := Aside0.mk (Below.refl w.heap.size w); have H : ((impl_modeAt.f a0_1).bind fun bt277 => (if bt277.2.2.2.2 = true then (if a0_0.toList = ([] : List UInt8) then (impl_Entry_valid.j0 k true a0_0 a0_1 l0_2) else (impl_Entry_valid.j0 k (decide ((a0_0.size : Int) > 10)) a0_0 a0_1 l0_2)) else (impl_Entry_valid.j0 k true a0_0 a0_1 l0_2))) = some r := h; clear h; replace H := Option.bind_eq_some_iff.mp H; obtain ⟨⟨t277, t278, t279, t280, t281⟩, A20, H⟩ := H; replace H : (if t281 = true then (if a0_0.toList = ([] : List UInt8) then (impl_Entry_valid.j0 k true a0_0 a0_1 l0_2) else (impl_Entry_valid.j0 k (decide ((a0_0.size : Int) > 10)) a0_0 a0_1 l0_2)) else (impl_Entry_valid.j0 k true a0_0 a0_1 l0_2)) = some r := H; have A2 := Aside0.mk A20; clear A20; have HC3 := Aside0.mk H; clear H; go_enter Tryd.func16, Tryd.ntmps16
 go_upto_region 2 with (first | ((with_reducible refine gate_dst (N := 1) rfl ?_); (try (refine gate_guard (by rfl) ?_; dsimp only)); refine box_event ?hg (N := 1) ?hd (cs := #[.string a0_0, .int .i64 a0_1, .slice A0_2 l0_2.length c0_2]) (t := 26) ?hr ?_; (case hd => rfl); (case hg => rfl); (case hr => first | (go_simp; done) | (go_simp; rfl)); intro gb276 hg w4 hbox hb; have n0_ := Aside0.mk (below_step (by repeat (first | (with_reducible first | exact HB.out | apply below_alloc | apply pw_below_drewN | apply below_drew1) | exact HB.out)) hb); have n1_ := Aside0.mk (hbox); have n2_ := Aside0.mk ((by rw [hg]; exact (below_size (by repeat (first | (with_reducible first | exact HB.out | apply below_alloc | apply pw_below_drewN | apply below_drew1) | exact HB.out))) : w.heap.size ≤ gb276)); have n3_ := Aside0.mk ((by rw [hg]; exact (below_size (by repeat (first | (with_reducible first | exact HB.out | apply below_alloc | apply pw_below_drewN | apply below_drew1) | exact HB.out))) : w.heap.size ≤ gb276)); clear HB; have HB := n0_; have BK276 := n1_; have GW276 := n2_; have GE276 := n3_; clear n0_ n1_ n2_ n3_; clear hb hbox hg; have hcz5_0 : w4.cell? ⟨gb276, 0, none⟩ = some (.string a0_0) := (blk_cell BK276.out 0).trans rfl; have hcz5_1 : w4.cell? ⟨gb276, 1, none⟩ = some (.int .i64 a0_1) := (blk_cell BK276.out 1).trans rfl; have hcz5_2 : w4.cell? ⟨gb276, 2, none⟩ = some (.slice A0_2 l0_2.length c0_2) := (blk_cell BK276.out 2).trans rfl; have hfz5_0 := blk_frozen BK276.out 0; have hfz5_1 := blk_frozen BK276.out 1; have hfz5_2 := blk_frozen BK276.out 2) | ((with_reducible refine gate_callee (f := 31) rfl ?_); refine goesL_ (some 9) rfl rfl Tryd.func31 (by kernel_rfl) rfl #[.int .i64 a0_1] rfl (by (try simp only [List.map_toArray, List.map_cons, List.map_nil]); first | done | rfl | (simp only [List.length_drop, List.length_take]; rfl)) ?_; (with_reducible refine (impl_modeAt.calls a0_1 t277 t278 t279 t280 t281 _ A2.out (ht := HT.out.below (by repeat (first | (with_reducible first | exact HB.out | apply below_alloc | apply pw_below_drewN | apply below_drew1 | refine below_set ?_ GE276.out) | exact HB.out)))).mono ?_); rintro e w6 ⟨rfl, hb⟩; refine ⟨_, rfl, ?_⟩; have n0_ := Aside0.mk (blk_below (g := gb276) (o := .cells #[.string a0_0, .int .i64 a0_1, .slice A0_2 l0_2.length c0_2] 26 (0, 0)) (by (with_reducible repeat (first | refine blk_drewN ?_ _ | refine blk_drew ?_ | refine blk_alloc ?_ _)); exact BK276.out) hb); have n1_ := Aside0.mk (below_step (by repeat (first | (with_reducible first | exact HB.out | apply below_alloc | apply pw_below_drewN | apply below_drew1 | refine below_set ?_ GE276.out) | exact HB.out)) hb); clear BK276; clear HB; have BK276 := n0_; have HB := n1_; clear n0_ n1_; (try clear hb); (try clear hb2); (try clear hk); (try clear hi)) | ((with_reducible refine gate_dst (N := 3) rfl ?_); (try (refine gate_guard (by rfl) ?_; dsimp only)); refine box_event ?hg (N := 3) ?hd (cs := #[.int .i64 0, .int .i64 0, .int .i64 0, .int .i64 0]) (t := 63) ?hr ?_; (case hd => rfl); (case hg => rfl); (case hr => first | (go_simp; done) | (go_simp; rfl)); intro gb282 hg w7 hbox hb; have n0_ := Aside0.mk (blk_below (g := gb276) (o := .cells #[.string a0_0, .int .i64 a0_1, .slice A0_2 l0_2.length c0_2] 26 (0, 0)) (by (with_reducible repeat (first | refine blk_drewN ?_ _ | refine blk_drew ?_ | refine blk_alloc ?_ _)); exact BK276.out) hb); have n1_ := Aside0.mk (below_step (by repeat (first | (with_reducible first | exact HB.out | apply below_alloc | apply pw_below_drewN | apply below_drew1 | refine below_set ?_ GE276.out) | exact HB.out)) hb); have n2_ := Aside0.mk (hbox); have n3_ := Aside0.mk ((by rw [hg]; exact (below_size (by repeat (first | (with_reducible first | exact HB.out | apply below_alloc | apply pw_below_drewN | apply below_drew1 | refine below_set ?_ GE276.out) | exact HB.out))) : w.heap.size ≤ gb282)); have n4_ := Aside0.mk ((by rw [hg]; exact (below_size (by repeat (first | (with_reducible first | exact HB.out | apply below_alloc | apply pw_below_drewN | apply below_drew1 | refine below_set ?_ GE276.out) | exact HB.out))) : w.heap.size ≤ gb282)); have n5_ := Aside0.mk ((by rw [hg]; exact Nat.ne_of_lt (blk_lt (g := gb276) (o := .cells #[.string a0_0, .int .i64 a0_1, .slice A0_2 l0_2.length c0_2] 26 (0, 0)) (by (with_reducible repeat (first | refine blk_drewN ?_ _ | refine blk_drew ?_ | refine blk_alloc ?_ _)); exact BK276.out)) : gb276 ≠ gb282)); have n6_ := Aside0.mk ((by rw [hg]; exact Nat.ne_of_gt (blk_lt (g := gb276) (o := .cells #[.string a0_0, .int .i64 a0_1, .slice A0_2 l0_2.length c0_2] 26 (0, 0)) (by (with_reducible repeat (first | refine blk_drewN ?_ _ | refine blk_drew ?_ | refine blk_alloc ?_ _)); exact BK276.out)) : gb282 ≠ gb276)); clear BK276; clear HB; have BK276 := n0_; have HB := n1_; have BK282 := n2_; have GW282 := n3_; have GE282 := n4_; have NB276_282 := n5_; have NB282_276 := n6_; clear n0_ n1_ n2_ n3_ n4_ n5_ n6_; clear hb hbox hg; have hnb8 := NB282_276.out; have hnc8 := NB276_282.out; have hcz9_0 : w7.cell? ⟨gb282, 0, none⟩ = some (.int .i64 0) := (blk_cell BK282.out 0).trans rfl; have hcz9_1 : w7.cell? ⟨gb282, 1, none⟩ = some (.int .i64 0) := (blk_cell BK282.out 1).trans rfl; have hcz9_2 : w7.cell? ⟨gb282, 2, none⟩ = some (.int .i64 0) := (blk_cell BK282.out 2).trans rfl; have hcz9_3 : w7.cell? ⟨gb282, 3, none⟩ = some (.int .i64 0) := (blk_cell BK282.out 3).trans rfl; have hfz9_0 := blk_frozen BK282.out 0; have hfz9_1 := blk_frozen BK282.out 1; have hfz9_2 := blk_frozen BK282.out 2; have hfz9_3 := blk_frozen BK282.out 3))
 (try simp only [Act.put, List.setIfInBounds_toArray, List.set_cons_zero, List.set_cons_succ])
 go_cut [24] (fun v24 wc => ∃ (kq : Nat) (x24_2 : Bool), v24 = .bool x24_2 ∧ Aside0 (impl_Entry_valid.j0 kq x24_2 a0_0 a0_1 l0_2 = some r) ∧ Aside0 (kq ≤ k) ∧ Aside0 (wc.heap[gb276]? = some (.cells #[.string a0_0, .int .i64 a0_1, (.slice A0_2 l0_2.length c0_2)] 26 (0, 0))) ∧ Aside0 (wc.heap[gb282]? = some (.cells #[.int .i64 t277, .int .i64 t278, .int .i64 t279, .int .i64 t280] 63 (0, 0))) ∧ Aside0 (Below w.heap.size w wc))
 case first =>
  have H := HC3.out; clear HC3; by_cases c10 : t281 = true
  ·
   subst c10; have H1 : (if a0_0.toList = ([] : List UInt8) then (impl_Entry_valid.j0 k true a0_0 a0_1 l0_2) else (impl_Entry_valid.j0 k (decide ((a0_0.size : Int) > 10)) a0_0 a0_1 l0_2)) = some r := by rw [if_pos rfl] at H; exact H
   clear H; have H := H1; clear H1; by_cases c11 : a0_0.toList = ([] : List UInt8)
   ·
    rw [if_pos c11] at H; have c11b0 : (a0_0.toList == ([] : List UInt8)) = true := beq_iff_eq.mpr c11; have c11b1 : (a0_0.toList != ([] : List UInt8)) = false := bne_eq_false_iff_eq.mpr c11; clear c11; (first | rw [c11b0] | (simp only [i64_w, i32_w]; rw [c11b0]) | skip)
    have H' := Aside0.mk H; clear H; have hnb12 := NB276_282.out; have hnc12 := NB282_276.out; have hcz13_0 : w7.cell? ⟨gb276, 0, none⟩ = some (.string a0_0) := (blk_cell BK276.out 0).trans rfl; have hcz13_1 : w7.cell? ⟨gb276, 1, none⟩ = some (.int .i64 a0_1) := (blk_cell BK276.out 1).trans rfl; have hcz13_2 : w7.cell? ⟨gb276, 2, none⟩ = some (.slice A0_2 l0_2.length c0_2) := (blk_cell BK276.out 2).trans rfl; have hfz13_0 := blk_frozen BK276.out 0; have hfz13_1 := blk_frozen BK276.out 1; have hfz13_2 := blk_frozen BK276.out 2; go_wp2; go_meet
    case rel => exact ⟨_, (true), (by first | rfl | (simp; done) | (simp [*]; done)), H', ⟨by first | omega | exact Nat.le_refl _⟩, ⟨by (with_reducible repeat (first | refine blk_drewN ?_ _ | refine blk_drew ?_ | refine blk_alloc ?_ _)); refine blk_far ?_ NB276_282.out _; (with_reducible repeat (first | refine blk_drewN ?_ _ | refine blk_drew ?_ | refine blk_alloc ?_ _)); refine blk_far ?_ NB276_282.out _; (with_reducible repeat (first | refine blk_drewN ?_ _ | refine blk_drew ?_ | refine blk_alloc ?_ _)); refine blk_far ?_ NB276_282.out _; (with_reducible repeat (first | refine blk_drewN ?_ _ | refine blk_drew ?_ | refine blk_alloc ?_ _)); refine blk_far ?_ NB276_282.out _; (with_reducible repeat (first | refine blk_drewN ?_ _ | refine blk_drew ?_ | refine blk_alloc ?_ _)); exact BK276.out⟩, ⟨by (with_reducible repeat (first | refine blk_drewN ?_ _ | refine blk_drew ?_ | refine blk_alloc ?_ _)); refine blk_put (cs := #[.int .i64 t277, .int .i64 t278, .int .i64 t279, .int .i64 0]) ?_ 3 _ rfl; (with_reducible repeat (first | refine blk_drewN ?_ _ | refine blk_drew ?_ | refine blk_alloc ?_ _)); refine blk_put (cs := #[.int .i64 t277, .int .i64 t278, .int .i64 0, .int .i64 0]) ?_ 2 _ rfl; (with_reducible repeat (first | refine blk_drewN ?_ _ | refine blk_drew ?_ | refine blk_alloc ?_ _)); refine blk_put (cs := #[.int .i64 t277, .int .i64 0, .int .i64 0, .int .i64 0]) ?_ 1 _ rfl; (with_reducible repeat (first | refine blk_drewN ?_ _ | refine blk_drew ?_ | refine blk_alloc ?_ _)); refine blk_put (cs := #[.int .i64 0, .int .i64 0, .int .i64 0, .int .i64 0]) ?_ 0 _ rfl; (with_reducible repeat (first | refine blk_drewN ?_ _ | refine blk_drew ?_ | refine blk_alloc ?_ _)); exact BK282.out⟩, ⟨by repeat (first | (with_reducible first | exact HB.out | apply below_alloc | apply pw_below_drewN | apply below_drew1 | refine below_set ?_ GE276.out | refine below_set ?_ GE282.out) | exact HB.out)⟩⟩
   ·
    rw [if_neg c11] at H; have c11b0 : (a0_0.toList == ([] : List UInt8)) = false := beq_eq_false_iff_ne.mpr c11; have c11b1 : (a0_0.toList != ([] : List UInt8)) = true := bne_iff_ne.mpr c11; (first | rw [c11b0] | (simp only [i64_w, i32_w]; rw [c11b0]) | skip)
    have H' := Aside0.mk H; clear H; have hnb14 := NB276_282.out; have hnc14 := NB282_276.out; have hcz15_0 : w7.cell? ⟨gb276, 0, none⟩ = some (.string a0_0) := (blk_cell BK276.out 0).trans rfl; have hcz15_1 : w7.cell? ⟨gb276, 1, none⟩ = some (.int .i64 a0_1) := (blk_cell BK276.out 1).trans rfl; have hcz15_2 : w7.cell? ⟨gb276, 2, none⟩ = some (.slice A0_2 l0_2.length c0_2) := (blk_cell BK276.out 2).trans rfl; have hfz15_0 := blk_frozen BK276.out 0; have hfz15_1 := blk_frozen BK276.out 1; have hfz15_2 := blk_frozen BK276.out 2; go_wp2; go_meet
    case rel => exact ⟨_, (decide ((a0_0.size : Int) > 10)), (by first | rfl | (simp; done) | (simp [*]; done)), H', ⟨by first | omega | exact Nat.le_refl _⟩, ⟨by (with_reducible repeat (first | refine blk_drewN ?_ _ | refine blk_drew ?_ | refine blk_alloc ?_ _)); refine blk_far ?_ NB276_282.out _; (with_reducible repeat (first | refine blk_drewN ?_ _ | refine blk_drew ?_ | refine blk_alloc ?_ _)); refine blk_far ?_ NB276_282.out _; (with_reducible repeat (first | refine blk_drewN ?_ _ | refine blk_drew ?_ | refine blk_alloc ?_ _)); refine blk_far ?_ NB276_282.out _; (with_reducible repeat (first | refine blk_drewN ?_ _ | refine blk_drew ?_ | refine blk_alloc ?_ _)); refine blk_far ?_ NB276_282.out _; (with_reducible repeat (first | refine blk_drewN ?_ _ | refine blk_drew ?_ | refine blk_alloc ?_ _)); exact BK276.out⟩, ⟨by (with_reducible repeat (first | refine blk_drewN ?_ _ | refine blk_drew ?_ | refine blk_alloc ?_ _)); refine blk_put (cs := #[.int .i64 t277, .int .i64 t278, .int .i64 t279, .int .i64 0]) ?_ 3 _ rfl; (with_reducible repeat (first | refine blk_drewN ?_ _ | refine blk_drew ?_ | refine blk_alloc ?_ _)); refine blk_put (cs := #[.int .i64 t277, .int .i64 t278, .int .i64 0, .int .i64 0]) ?_ 2 _ rfl; (with_reducible repeat (first | refine blk_drewN ?_ _ | refine blk_drew ?_ | refine blk_alloc ?_ _)); refine blk_put (cs := #[.int .i64 t277, .int .i64 0, .int .i64 0, .int .i64 0]) ?_ 1 _ rfl; (with_reducible repeat (first | refine blk_drewN ?_ _ | refine blk_drew ?_ | refine blk_alloc ?_ _)); refine blk_put (cs := #[.int .i64 0, .int .i64 0, .int .i64 0, .int .i64 0]) ?_ 0 _ rfl; (with_reducible repeat (first | refine blk_drewN ?_ _ | refine blk_drew ?_ | refine blk_alloc ?_ _)); exact BK282.out⟩, ⟨by repeat (first | (with_reducible first | exact HB.out | apply below_alloc | apply pw_below_drewN | apply below_drew1 | refine below_set ?_ GE276.out | refine below_set ?_ GE282.out) | exact HB.out)⟩⟩
  ·
   replace c10 := Bool.eq_false_iff.mpr c10; subst c10; have H1 : (impl_Entry_valid.j0 k true a0_0 a0_1 l0_2) = some r := by rw [if_neg (show ¬ (false = true) by decide)] at H; exact H
   clear H; have H := H1; clear H1; have H' := Aside0.mk H; clear H; go_wp2; go_meet
   case rel => exact ⟨_, (true), (by first | rfl | (simp; done) | (simp [*]; done)), H', ⟨by first | omega | exact Nat.le_refl _⟩, ⟨by (with_reducible repeat (first | refine blk_drewN ?_ _ | refine blk_drew ?_ | refine blk_alloc ?_ _)); refine blk_far ?_ NB276_282.out _; (with_reducible repeat (first | refine blk_drewN ?_ _ | refine blk_drew ?_ | refine blk_alloc ?_ _)); refine blk_far ?_ NB276_282.out _; (with_reducible repeat (first | refine blk_drewN ?_ _ | refine blk_drew ?_ | refine blk_alloc ?_ _)); refine blk_far ?_ NB276_282.out _; (with_reducible repeat (first | refine blk_drewN ?_ _ | refine blk_drew ?_ | refine blk_alloc ?_ _)); refine blk_far ?_ NB276_282.out _; (with_reducible repeat (first | refine blk_drewN ?_ _ | refine blk_drew ?_ | refine blk_alloc ?_ _)); exact BK276.out⟩, ⟨by (with_reducible repeat (first | refine blk_drewN ?_ _ | refine blk_drew ?_ | refine blk_alloc ?_ _)); refine blk_put (cs := #[.int .i64 t277, .int .i64 t278, .int .i64 t279, .int .i64 0]) ?_ 3 _ rfl; (with_reducible repeat (first | refine blk_drewN ?_ _ | refine blk_drew ?_ | refine blk_alloc ?_ _)); refine blk_put (cs := #[.int .i64 t277, .int .i64 t278, .int .i64 0, .int .i64 0]) ?_ 2 _ rfl; (with_reducible repeat (first | refine blk_drewN ?_ _ | refine blk_drew ?_ | refine blk_alloc ?_ _)); refine blk_put (cs := #[.int .i64 t277, .int .i64 0, .int .i64 0, .int .i64 0]) ?_ 1 _ rfl; (with_reducible repeat (first | refine blk_drewN ?_ _ | refine blk_drew ?_ | refine blk_alloc ?_ _)); refine blk_put (cs := #[.int .i64 0, .int .i64 0, .int .i64 0, .int .i64 0]) ?_ 0 _ rfl; (with_reducible repeat (first | refine blk_drewN ?_ _ | refine blk_drew ?_ | refine blk_alloc ?_ _)); exact BK282.out⟩, ⟨by repeat (first | (with_reducible first | exact HB.out | apply below_alloc | apply pw_below_drewN | apply below_drew1 | refine below_set ?_ GE276.out | refine below_set ?_ GE282.out) | exact HB.out)⟩⟩
 case rest =>
  clear HC3; try clear c1
  try clear p2
  try clear c3
  try clear c8
  try clear c10
  try clear c11
  try clear c11b0
  try clear c11b1
  try clear c12
  try clear c14
  try clear hcz13_0
  try clear hcz13_1
  try clear hcz13_2
  try clear hcz15_0
  try clear hcz15_1
  try clear hcz15_2
  try clear hcz5_0
  try clear hcz5_1
  try clear hcz5_2
  try clear hcz9_0
  try clear hcz9_1
  try clear hcz9_2
  try clear hcz9_3
  try clear hfz13_0
  try clear hfz13_1
  try clear hfz13_2
  try clear hfz15_0
  try clear hfz15_1
  try clear hfz15_2
  try clear hfz5_0
  try clear hfz5_1
  try clear hfz5_2
  try clear hfz9_0
  try clear hfz9_1
  try clear hfz9_2
  try clear hfz9_3
  obtain ⟨kq, x24_2, rfl, HA, HJ2, BK276, BK282, HB⟩ := hcut; cases kq with
  | zero => exact absurd HA.out (by simp [impl_Entry_valid.j0])
  | succ kj2 =>
   have H := HA.out; clear HA; simp only [impl_Entry_valid.j0] at H; by_cases c16 : x24_2 = true
   ·
    subst c16; have H1 : (some false) = some r := by rw [if_pos rfl] at H; exact H
    clear H; have H := H1; clear H1; obtain rfl := Option.some.inj H; go_wp2; go_ret
    exact ⟨by first | rfl | (simp [errW_none, errW_some] <;> rfl) | (simp [*, errW_none, errW_some] <;> rfl), by repeat (first | (with_reducible first | exact HB.out | apply below_alloc | apply pw_below_drewN | apply below_drew1 | refine below_set ?_ GE276.out | refine below_set ?_ GE282.out) | exact HB.out)⟩
   ·
    replace c16 := Bool.eq_false_iff.mpr c16; subst c16; have H1 : (impl_Entry_valid.l0 kj2 (a0_0.size : Int) 0 a0_0 a0_1 l0_2) = some r := by rw [if_neg (show ¬ (false = true) by decide)] at H; exact H
    clear H; have H := H1; clear H1; have H' := Aside0.mk H; clear H; have hnb17 := NB276_282.out; have hnc17 := NB282_276.out; have hcz18_0 : wc.cell? ⟨gb276, 0, none⟩ = some (.string a0_0) := (blk_cell BK276.out 0).trans rfl; have hcz18_1 : wc.cell? ⟨gb276, 1, none⟩ = some (.int .i64 a0_1) := (blk_cell BK276.out 1).trans rfl; have hcz18_2 : wc.cell? ⟨gb276, 2, none⟩ = some (.slice A0_2 l0_2.length c0_2) := (blk_cell BK276.out 2).trans rfl; have hfz18_0 := blk_frozen BK276.out 0; have hfz18_1 := blk_frozen BK276.out 1; have hfz18_2 := blk_frozen BK276.out 2; go_wp2; go_loopg [28] kj2 (fun kq v28 w' => ∃ (x28_2 : Int), v28 = .int .i64 x28_2 ∧ Aside0 (impl_Entry_valid.l0 kq (a0_0.size : Int) x28_2 a0_0 a0_1 l0_2 = some r) ∧ Aside0 (kq ≤ kj2) ∧ Aside0 (w'.heap[gb276]? = some (.cells #[.string a0_0, .int .i64 a0_1, (.slice A0_2 l0_2.length c0_2)] 26 (0, 0))) ∧ Aside0 (w'.heap[gb282]? = some (.cells #[.int .i64 t277, .int .i64 t278, .int .i64 t279, .int .i64 t280] 63 (0, 0))) ∧ Aside0 (Below w.heap.size w w'))
    case atStart => exact ⟨(0), (by first | rfl | (simp; done) | (simp [*]; done)), H', ⟨Nat.le_refl _⟩, ⟨by (with_reducible repeat (first | refine blk_drewN ?_ _ | refine blk_drew ?_ | refine blk_alloc ?_ _)); exact BK276.out⟩, ⟨by (with_reducible repeat (first | refine blk_drewN ?_ _ | refine blk_drew ?_ | refine blk_alloc ?_ _)); exact BK282.out⟩, ⟨by repeat (first | (with_reducible first | exact HB.out | apply below_alloc | apply pw_below_drewN | apply below_drew1 | refine below_set ?_ GE276.out | refine below_set ?_ GE282.out) | exact HB.out)⟩⟩
    case round =>
     clear H'; try clear c1
     try clear p2
     try clear c3
     try clear c8
     try clear c10
     try clear c11
     try clear c11b0
     try clear c11b1
     try clear c12
     try clear c14
     try clear c16
     try clear c17
     try clear hcz13_0
     try clear hcz13_1
     try clear hcz13_2
     try clear hcz15_0
     try clear hcz15_1
     try clear hcz15_2
     try clear hcz18_0
     try clear hcz18_1
     try clear hcz18_2
     try clear hcz5_0
     try clear hcz5_1
     try clear hcz5_2
     try clear hcz9_0
     try clear hcz9_1
     try clear hcz9_2
     try clear hcz9_3
     try clear hfz13_0
     try clear hfz13_1
     try clear hfz13_2
     try clear hfz15_0
     try clear hfz15_1
     try clear hfz15_2
     try clear hfz18_0
     try clear hfz18_1
     try clear hfz18_2
     try clear hfz5_0
     try clear hfz5_1
     try clear hfz5_2
     try clear hfz9_0
     try clear hfz9_1
     try clear hfz9_2
     try clear hfz9_3
     try clear p2
     obtain ⟨x28_2, rfl, HA, HK2, BK276, BK282, HB⟩ := hrel; cases gk with
     | zero => exact absurd HA.out (by simp [impl_Entry_valid.l0])
     | succ k2 =>
      have H := HA.out; clear HA; simp only [impl_Entry_valid.l0] at H; by_cases c19 : x28_2 < (a0_0.size : Int)
      ·
       rw [if_pos c19] at H; have c19b0 : decide (x28_2 < (a0_0.size : Int)) = true := decide_eq_true c19; clear c19; by_cases c20 : 0 ≤ x28_2
       ·
        rw [if_pos c20] at H; have c20b0 : decide (0 ≤ x28_2) = true := decide_eq_true c20; clear c20; by_cases c21 : x28_2 < (a0_0.size : Int)
        ·
         rw [if_pos c21] at H; have c21b0 : decide (x28_2 < (a0_0.size : Int)) = true := decide_eq_true c21; clear c21; by_cases c23 : (bt a0_0 x28_2) < 97
         ·
          rw [if_pos c23] at H; have c23b0 : decide ((bt a0_0 x28_2) < 97) = true := decide_eq_true c23; clear c23; obtain rfl := Option.some.inj H; have hnb24 := NB276_282.out; have hnc24 := NB282_276.out; have hcz25_0 : wr.cell? ⟨gb276, 0, none⟩ = some (.string a0_0) := (blk_cell BK276.out 0).trans rfl; have hcz25_1 : wr.cell? ⟨gb276, 1, none⟩ = some (.int .i64 a0_1) := (blk_cell BK276.out 1).trans rfl; have hcz25_2 : wr.cell? ⟨gb276, 2, none⟩ = some (.slice A0_2 l0_2.length c0_2) := (blk_cell BK276.out 2).trans rfl; have hfz25_0 := blk_frozen BK276.out 0; have hfz25_1 := blk_frozen BK276.out 1; have hfz25_2 := blk_frozen BK276.out 2; have p22 : 0 ≤ (x28_2 : Int) := of_decide_eq_true (by first | (with_reducible assumption) | assumption); have q22 : x28_2 < (a0_0.size : Int) := of_decide_eq_true (by first | (with_reducible assumption) | assumption); have hx22 := bt_at a0_0 x28_2; replace p22 := eq_true p22; replace q22 := eq_true q22; go_wp2; go_ret
          exact ⟨by first | rfl | (simp [errW_none, errW_some] <;> rfl) | (simp [*, errW_none, errW_some] <;> rfl), by repeat (first | (with_reducible first | exact HB.out | apply below_alloc | apply pw_below_drewN | apply below_drew1 | refine below_set ?_ GE276.out | refine below_set ?_ GE282.out) | exact HB.out)⟩
         ·
          rw [if_neg c23] at H; have c23b0 : decide ((bt a0_0 x28_2) < 97) = false := decide_eq_false c23; clear c23; by_cases c27 : (bt a0_0 x28_2) > 122
          ·
           rw [if_pos c27] at H; have c27b0 : decide (122 < (bt a0_0 x28_2)) = true := decide_eq_true c27; clear c27; obtain rfl := Option.some.inj H; have hnb28 := NB276_282.out; have hnc28 := NB282_276.out; have hcz29_0 : wr.cell? ⟨gb276, 0, none⟩ = some (.string a0_0) := (blk_cell BK276.out 0).trans rfl; have hcz29_1 : wr.cell? ⟨gb276, 1, none⟩ = some (.int .i64 a0_1) := (blk_cell BK276.out 1).trans rfl; have hcz29_2 : wr.cell? ⟨gb276, 2, none⟩ = some (.slice A0_2 l0_2.length c0_2) := (blk_cell BK276.out 2).trans rfl; have hfz29_0 := blk_frozen BK276.out 0; have hfz29_1 := blk_frozen BK276.out 1; have hfz29_2 := blk_frozen BK276.out 2; have p22 : 0 ≤ (x28_2 : Int) := of_decide_eq_true (by first | (with_reducible assumption) | assumption); have q22 : x28_2 < (a0_0.size : Int) := of_decide_eq_true (by first | (with_reducible assumption) | assumption); have hx22 := bt_at a0_0 x28_2; replace p22 := eq_true p22; replace q22 := eq_true q22; have p26 : 0 ≤ (x28_2 : Int) := of_decide_eq_true (by first | (with_reducible assumption) | assumption); have q26 : x28_2 < (a0_0.size : Int) := of_decide_eq_true (by first | (with_reducible assumption) | assumption); have hx26 := bt_at a0_0 x28_2; replace p26 := eq_true p26; replace q26 := eq_true q26; go_wp2; go_ret
           exact ⟨by first | rfl | (simp [errW_none, errW_some] <;> rfl) | (simp [*, errW_none, errW_some] <;> rfl), by repeat (first | (with_reducible first | exact HB.out | apply below_alloc | apply pw_below_drewN | apply below_drew1 | refine below_set ?_ GE276.out | refine below_set ?_ GE282.out) | exact HB.out)⟩
          ·
           rw [if_neg c27] at H; have c27b0 : decide (122 < (bt a0_0 x28_2)) = false := decide_eq_false c27; clear c27; have H' := Aside0.mk H; clear H; have hnb30 := NB276_282.out; have hnc30 := NB282_276.out; have hcz31_0 : wr.cell? ⟨gb276, 0, none⟩ = some (.string a0_0) := (blk_cell BK276.out 0).trans rfl; have hcz31_1 : wr.cell? ⟨gb276, 1, none⟩ = some (.int .i64 a0_1) := (blk_cell BK276.out 1).trans rfl; have hcz31_2 : wr.cell? ⟨gb276, 2, none⟩ = some (.slice A0_2 l0_2.length c0_2) := (blk_cell BK276.out 2).trans rfl; have hfz31_0 := blk_frozen BK276.out 0; have hfz31_1 := blk_frozen BK276.out 1; have hfz31_2 := blk_frozen BK276.out 2; have p22 : 0 ≤ (x28_2 : Int) := of_decide_eq_true (by first | (with_reducible assumption) | assumption); have q22 : x28_2 < (a0_0.size : Int) := of_decide_eq_true (by first | (with_reducible assumption) | assumption); have hx22 := bt_at a0_0 x28_2; replace p22 := eq_true p22; replace q22 := eq_true q22; have p26 : 0 ≤ (x28_2 : Int) := of_decide_eq_true (by first | (with_reducible assumption) | assumption); have q26 : x28_2 < (a0_0.size : Int) := of_decide_eq_true (by first | (with_reducible assumption) | assumption); have hx26 := bt_at a0_0 x28_2; replace p26 := eq_true p26; replace q26 := eq_true q26; go_wp2; go_roundg k2
           case measure => have := HJ2.out; have := HK2.out; omega
           case rel => exact ⟨(wrap64 (x28_2 + 1)), (by first | rfl | (simp; done) | (simp [*]; done)), H', ⟨by have := HJ2.out; have := HK2.out; omega⟩, ⟨by (with_reducible repeat (first | refine blk_drewN ?_ _ | refine blk_drew ?_ | refine blk_alloc ?_ _)); exact BK276.out⟩, ⟨by (with_reducible repeat (first | refine blk_drewN ?_ _ | refine blk_drew ?_ | refine blk_alloc ?_ _)); exact BK282.out⟩, ⟨by repeat (first | (with_reducible first | exact HB.out | apply below_alloc | apply pw_below_drewN | apply below_drew1 | refine below_set ?_ GE276.out | refine below_set ?_ GE282.out) | exact HB.out)⟩⟩
        ·
         rw [if_neg c21] at H; exact absurd H (by simp)
       ·
        rw [if_neg c20] at H; exact absurd H (by simp)
      ·
       rw [if_neg c19] at H; have c19b0 : decide (x28_2 < (a0_0.size : Int)) = false := decide_eq_false c19; clear c19; replace H := Option.bind_eq_some_iff.mp H; obtain ⟨t283, A320, H⟩ := H; replace H : (some t283) = some r := H; have A32 := Aside0.mk A320; clear A320; obtain rfl := Option.some.inj H; have hnb33 := NB276_282.out; have hnc33 := NB282_276.out; have hcz34_0 : wr.cell? ⟨gb276, 0, none⟩ = some (.string a0_0) := (blk_cell BK276.out 0).trans rfl; have hcz34_1 : wr.cell? ⟨gb276, 1, none⟩ = some (.int .i64 a0_1) := (blk_cell BK276.out 1).trans rfl; have hcz34_2 : wr.cell? ⟨gb276, 2, none⟩ = some (.slice A0_2 l0_2.length c0_2) := (blk_cell BK276.out 2).trans rfl; have hfz34_0 := blk_frozen BK276.out 0; have hfz34_1 := blk_frozen BK276.out 1; have hfz34_2 := blk_frozen BK276.out 2; go_wp2_with (first | ((with_reducible refine gate_callee (f := 32) rfl ?_); refine goesL_ (some 46) rfl rfl Tryd.func32 (by kernel_rfl) rfl #[.slice A0_2 l0_2.length c0_2, .int .i64 1, .int .i64 8] rfl (by (try simp only [List.map_toArray, List.map_cons, List.map_nil]); first | done | rfl | (simp only [List.length_drop, List.length_take]; rfl)) ?_; (with_reducible refine (impl_tonesValid.calls k2 _ _ l0_2 1 8 t283 _ ?side1 ?side2 A32.out).mono ?_); (case side1 => repeat (first | exact (Kd.C_below HR0_2.out HB.out) | (with_reducible refine Kd.C_alloc ?_ _) | (with_reducible refine Kd.C_drewN ?_ _) | (with_reducible refine Kd.C_drew ?_))); (case side2 => exact HC0_2.out); rintro e w35 ⟨rfl, hb⟩; refine ⟨_, rfl, ?_⟩; have n0_ := Aside0.mk (blk_below (g := gb276) (o := .cells #[.string a0_0, .int .i64 a0_1, .slice A0_2 l0_2.length c0_2] 26 (0, 0)) (by (with_reducible repeat (first | refine blk_drewN ?_ _ | refine blk_drew ?_ | refine blk_alloc ?_ _)); exact BK276.out) hb); have n1_ := Aside0.mk (blk_below (g := gb282) (o := .cells #[.int .i64 t277, .int .i64 t278, .int .i64 t279, .int .i64 t280] 63 (0, 0)) (by (with_reducible repeat (first | refine blk_drewN ?_ _ | refine blk_drew ?_ | refine blk_alloc ?_ _)); exact BK282.out) hb); have n2_ := Aside0.mk (below_step (by repeat (first | (with_reducible first | exact HB.out | apply below_alloc | apply pw_below_drewN | apply below_drew1 | refine below_set ?_ GE276.out | refine below_set ?_ GE282.out) | exact HB.out)) hb); clear BK276; clear BK282; clear HB; have BK276 := n0_; have BK282 := n1_; have HB := n2_; clear n0_ n1_ n2_; (try clear hb); (try clear hb2); (try clear hk); (try clear hi)))
       go_ret
       exact ⟨by first | rfl | (simp [errW_none, errW_some] <;> rfl) | (simp [*, errW_none, errW_some] <;> rfl), by repeat (first | (with_reducible first | exact HB.out | apply below_alloc | apply pw_below_drewN | apply below_drew1 | refine below_set ?_ GE276.out | refine below_set ?_ GE282.out) | exact HB.out)⟩

end Go.Proofs.YtknfnmdfdkdipaaDoor.PFnTonaryAdd
namespace Go.Proofs.YtknfnmdfdkdipaaDoor.PFnTonaryAdd
set_option linter.unusedVariables false
set_option linter.unusedSimpArgs false
open Go Go.RowKit Go.Proofs.YtknfnmdfdkdipaaDoor.Pure Go.Proofs.YtknfnmdfdkdipaaDoorW.PrintWords Go.Proofs.YtknfnmdfdkdipaaDoorW.PrintLast Go.Proofs.YtknfnmdfdkdipaaDoorW.PrintMore
def impl_copiedTones.f (l0 : List S74) : Option (List S74) := if l0.length ≤ 1000000000000 then some l0 else none
theorem impl_copiedTones.calls (A0 : Option Addr) (c0 : Nat) (l0 : List S74) (r : List S74) (w : World) (hr0 : Kd.C k74 w A0 l0.length l0) (hc0 : l0.length ≤ c0) (h : impl_copiedTones.f l0 = some r) :
 Calls Tryd.prog 38 #[.slice A0 l0.length c0] w fun e w' => ∃ v0_ : Value, e = .returned (v0_) ∧ Kd.R k74 74 w' w.heap.size (fun _ => True) v0_ r ∧ Below w.heap.size w w' := by
 unfold impl_copiedTones.f at h; split at h
 ·
  rename_i hh
  injection h with h
  subst h; exact impl_copiedTones_calls l0 A0 c0 w hr0 hc0 hh
 ·
  cases h

end Go.Proofs.YtknfnmdfdkdipaaDoor.PFnTonaryAdd
namespace Go.Proofs.YtknfnmdfdkdipaaDoor.PFnTonaryAdd
open Go.RowKit Go.Proofs.YtknfnmdfdkdipaaDoorW.PrintWords Go.Proofs.YtknfnmdfdkdipaaDoorW.PrintLast Go.Proofs.YtknfnmdfdkdipaaDoorW.PrintMore
attribute [local go_sem] max2_int min2_int max_two min_two max_three min_three max_four min_four   -- for this text's walks alone
set_option linter.unusedVariables false
set_option linter.unusedSimpArgs false

def impl_Entry_copied.f (a0_0 : ByteArray) (a0_1 : Int) (l0_2 : List (S74)) : Option (ByteArray × Int × (List (S74))) := (impl_copiedTones.f l0_2).bind fun t292 => (some (a0_0, a0_1, t292))
set_option maxHeartbeats 8000000 in
set_option maxRecDepth 100000 in
theorem impl_Entry_copied.calls (a0_0 : ByteArray) (a0_1 : Int) (A0_2 : Option Addr) (c0_2 : Nat) (l0_2 : List (S74)) (r1 : ByteArray) (r2 : Int) (r3 : List (S74)) (w : World) (hr0_2 : Kd.C k74 w A0_2 l0_2.length l0_2) (hc0_2 : l0_2.length ≤ c0_2) (h : impl_Entry_copied.f a0_0 a0_1 l0_2 = some (r1, r2, r3)) :
 Calls Tryd.prog 19 #[.agg #[.string a0_0, .int .i64 a0_1, .slice A0_2 l0_2.length c0_2]] w fun e w' => ∃ v2_ : Value, e = .returned (.agg #[.string r1, .int .i64 r2, v2_]) ∧ Kd.R k74 74 w' w.heap.size (fun _ => True) v2_ r3 ∧ Below w.heap.size w w' := by
 have hu26 := Tryd.underlying26; have HR0_2 := Aside0.mk hr0_2; have HC0_2 := Aside0.mk hc0_2; clear hr0_2 hc0_2; have HB := Aside0.mk (Below.refl w.heap.size w); have H : ((impl_copiedTones.f l0_2).bind fun t292 => (some (a0_0, a0_1, t292))) = some (r1, r2, r3) := h; clear h; replace H := Option.bind_eq_some_iff.mp H; obtain ⟨t292, A20, H⟩ := H; replace H : (some (a0_0, a0_1, t292)) = some (r1, r2, r3) := H; have A2 := Aside0.mk A20; clear A20; simp only [Option.some.injEq, Prod.mk.injEq] at H; obtain ⟨rfl, rfl, rfl⟩ := H; go_enter Tryd.func19, Tryd.ntmps19
 go_wp2_with (first | ((with_reducible refine gate_dst (N := 1) rfl ?_); refine box_event ?hg (N := 1) ?hd (cs := #[.string a0_0, .int .i64 a0_1, .slice A0_2 l0_2.length c0_2]) (t := 26) ?hr ?_; (case hd => rfl); (case hg => rfl); (case hr => first | (go_simp; done) | (go_simp; rfl)); intro gb290 hg w3 hbox hb; have n0_ := Aside0.mk (below_step (by repeat (first | (with_reducible first | exact HB.out | apply below_alloc | apply pw_below_drewN | apply below_drew1) | exact HB.out)) hb); have n1_ := Aside0.mk (hbox); have n2_ := Aside0.mk ((by rw [hg]; exact (below_size (by repeat (first | (with_reducible first | exact HB.out | apply below_alloc | apply pw_below_drewN | apply below_drew1) | exact HB.out))) : w.heap.size ≤ gb290)); have n3_ := Aside0.mk ((by rw [hg]; exact (below_size (by repeat (first | (with_reducible first | exact HB.out | apply below_alloc | apply pw_below_drewN | apply below_drew1) | exact HB.out))) : w.heap.size ≤ gb290)); clear HB; have HB := n0_; have BK290 := n1_; have GW290 := n2_; have GE290 := n3_; clear n0_ n1_ n2_ n3_; clear hb hbox hg) | ((with_reducible refine gate_dst (N := 2) rfl ?_); refine box_event ?hg (N := 2) ?hd (cs := #[.string (⟨#[]⟩ : ByteArray), .int .i64 0, .slice none 0 0]) (t := 26) ?hr ?_; (case hd => rfl); (case hg => rfl); (case hr => first | (go_simp; done) | (go_simp; rfl)); intro gb291 hg w4 hbox hb; have n0_ := Aside0.mk (blk_below (g := gb290) (o := .cells #[.string a0_0, .int .i64 a0_1, .slice A0_2 l0_2.length c0_2] 26 (0, 0)) (by (with_reducible repeat (first | refine blk_drewN ?_ _ | refine blk_drew ?_ | refine blk_alloc ?_ _)); exact BK290.out) hb); have n1_ := Aside0.mk (below_step (by repeat (first | (with_reducible first | exact HB.out | apply below_alloc | apply pw_below_drewN | apply below_drew1 | refine below_set ?_ GE290.out) | exact HB.out)) hb); have n2_ := Aside0.mk (hbox); have n3_ := Aside0.mk ((by rw [hg]; exact (below_size (by repeat (first | (with_reducible first | exact HB.out | apply below_alloc | apply pw_below_drewN | apply below_drew1 | refine below_set ?_ GE290.out) | exact HB.out))) : w.heap.size ≤ gb291)); have n4_ := Aside0.mk ((by rw [hg]; exact (below_size (by repeat (first | (with_reducible first | exact HB.out | apply below_alloc | apply pw_below_drewN | apply below_drew1 | refine below_set ?_ GE290.out) | exact HB.out))) : w.heap.size ≤ gb291)); have n5_ := Aside0.mk ((by rw [hg]; exact Nat.ne_of_lt (blk_lt (g := gb290) (o := .cells #[.string a0_0, .int .i64 a0_1, .slice A0_2 l0_2.length c0_2] 26 (0, 0)) (by (with_reducible repeat (first | refine blk_drewN ?_ _ | refine blk_drew ?_ | refine blk_alloc ?_ _)); exact BK290.out)) : gb290 ≠ gb291)); have n6_ := Aside0.mk ((by rw [hg]; exact Nat.ne_of_gt (blk_lt (g := gb290) (o := .cells #[.string a0_0, .int .i64 a0_1, .slice A0_2 l0_2.length c0_2] 26 (0, 0)) (by (with_reducible repeat (first | refine blk_drewN ?_ _ | refine blk_drew ?_ | refine blk_alloc ?_ _)); exact BK290.out)) : gb291 ≠ gb290)); clear BK290; clear HB; have BK290 := n0_; have HB := n1_; have BK291 := n2_; have GW291 := n3_; have GE291 := n4_; have NB290_291 := n5_; have NB291_290 := n6_; clear n0_ n1_ n2_ n3_ n4_ n5_ n6_; clear hb hbox hg; have hnb5 := NB290_291.out; have hnc5 := NB291_290.out; have hcz6_0 : w4.cell? ⟨gb290, 0, none⟩ = some (.string a0_0) := (blk_cell BK290.out 0).trans rfl; have hcz6_1 : w4.cell? ⟨gb290, 1, none⟩ = some (.int .i64 a0_1) := (blk_cell BK290.out 1).trans rfl; have hcz6_2 : w4.cell? ⟨gb290, 2, none⟩ = some (.slice A0_2 l0_2.length c0_2) := (blk_cell BK290.out 2).trans rfl; have hfz6_0 := blk_frozen BK290.out 0; have hfz6_1 := blk_frozen BK290.out 1; have hfz6_2 := blk_frozen BK290.out 2) | ((with_reducible refine gate_callee (f := 38) rfl ?_); refine goesL_ (some 5) rfl rfl Tryd.func38 (by kernel_rfl) rfl #[.slice A0_2 l0_2.length c0_2] rfl (by (try simp only [List.map_toArray, List.map_cons, List.map_nil]); first | done | rfl | (simp only [List.length_drop, List.length_take]; rfl)) ?_; (with_reducible refine (impl_copiedTones.calls _ _ l0_2 t292 _ ?side1 ?side2 A2.out).mono ?_); (case side1 => repeat (first | exact (Kd.C_below HR0_2.out HB.out) | (with_reducible refine Kd.C_alloc ?_ _) | (with_reducible refine Kd.C_drewN ?_ _) | (with_reducible refine Kd.C_drew ?_))); (case side2 => exact HC0_2.out); rintro e w7 ⟨v293, rfl, ho0, hb⟩; refine ⟨_, rfl, ?_⟩; have n0_ := Aside0.mk (Kd.R_lower ho0 (below_size (by repeat (first | (with_reducible first | exact HB.out | apply below_alloc | apply pw_below_drewN | apply below_drew1 | refine below_set ?_ GE290.out | refine below_set ?_ GE291.out) | exact HB.out)))); have n1_ := Aside0.mk (blk_below (g := gb290) (o := .cells #[.string a0_0, .int .i64 a0_1, .slice A0_2 l0_2.length c0_2] 26 (0, 0)) (by (with_reducible repeat (first | refine blk_drewN ?_ _ | refine blk_drew ?_ | refine blk_alloc ?_ _)); exact BK290.out) hb); have n2_ := Aside0.mk (blk_below (g := gb291) (o := .cells #[.string (⟨#[]⟩ : ByteArray), .int .i64 0, .slice none 0 0] 26 (0, 0)) (by (with_reducible repeat (first | refine blk_drewN ?_ _ | refine blk_drew ?_ | refine blk_alloc ?_ _)); exact BK291.out) hb); have n3_ := Aside0.mk (below_step (by repeat (first | (with_reducible first | exact HB.out | apply below_alloc | apply pw_below_drewN | apply below_drew1 | refine below_set ?_ GE290.out | refine below_set ?_ GE291.out) | exact HB.out)) hb); clear BK290; clear BK291; clear HB; have HO294 := n0_; have BK290 := n1_; have BK291 := n2_; have HB := n3_; clear n0_ n1_ n2_ n3_; (try clear hb); (try clear hb2); (try clear hk); (try clear hi); (try clear ho0); obtain ⟨Ao8, co8, eo8⟩ := Kd.R_slice HO294.out; subst eo8; have hcz9_0 : w7.cell? ⟨gb290, 0, none⟩ = some (.string a0_0) := (blk_cell BK290.out 0).trans rfl; have hcz9_1 : w7.cell? ⟨gb290, 1, none⟩ = some (.int .i64 a0_1) := (blk_cell BK290.out 1).trans rfl; have hcz9_2 : w7.cell? ⟨gb290, 2, none⟩ = some (.slice A0_2 l0_2.length c0_2) := (blk_cell BK290.out 2).trans rfl; have hfz9_0 := blk_frozen BK290.out 0; have hfz9_1 := blk_frozen BK290.out 1; have hfz9_2 := blk_frozen BK290.out 2; have hcz10_0 : w7.cell? ⟨gb291, 0, none⟩ = some (.string (⟨#[]⟩ : ByteArray)) := (blk_cell BK291.out 0).trans rfl; have hcz10_1 : w7.cell? ⟨gb291, 1, none⟩ = some (.int .i64 0) := (blk_cell BK291.out 1).trans rfl; have hcz10_2 : w7.cell? ⟨gb291, 2, none⟩ = some (.slice none 0 0) := (blk_cell BK291.out 2).trans rfl; have hfz10_0 := blk_frozen BK291.out 0; have hfz10_1 := blk_frozen BK291.out 1; have hfz10_2 := blk_frozen BK291.out 2))
 refine bodyPost_ret (results_cell_row rfl _ _ gb291 26 #[.string a0_0, .int .i64 a0_1, .slice Ao8 t292.length co8] (0, 0) _ rfl (by (with_reducible repeat (first | refine blk_drewN ?_ _ | refine blk_drew ?_ | refine blk_alloc ?_ _)); refine blk_put (cs := #[.string a0_0, .int .i64 a0_1, .slice none 0 0]) ?_ 2 _ rfl; (with_reducible repeat (first | refine blk_drewN ?_ _ | refine blk_drew ?_ | refine blk_alloc ?_ _)); refine blk_put (cs := #[.string a0_0, .int .i64 0, .slice none 0 0]) ?_ 1 _ rfl; (with_reducible repeat (first | refine blk_drewN ?_ _ | refine blk_drew ?_ | refine blk_alloc ?_ _)); refine blk_put (cs := #[.string (⟨#[]⟩ : ByteArray), .int .i64 0, .slice none 0 0]) ?_ 0 _ rfl; (with_reducible repeat (first | refine blk_drewN ?_ _ | refine blk_drew ?_ | refine blk_alloc ?_ _)); refine blk_far ?_ NB291_290.out _; (with_reducible repeat (first | refine blk_drewN ?_ _ | refine blk_drew ?_ | refine blk_alloc ?_ _)); exact BK291.out) Tryd.underlying26 rfl (by kernel_rfl)) rfl ?_; exact ⟨_, by first | rfl | (simp [errW_none, errW_some] <;> rfl) | (simp [*, errW_none, errW_some] <;> rfl), by (with_reducible repeat (first | apply Kd.R_alloc | apply Kd.R_drewN | apply Kd.R_drew)); exact Kd.R_mono (Kd.R_far (p := ⟨gb291, 2, none⟩) (Kd.R_far (p := ⟨gb291, 1, none⟩) (Kd.R_far (p := ⟨gb291, 0, none⟩) (Kd.R_far (p := ⟨gb290, 2, none⟩) (Kd.R_types (Kd.R_types HO294.out BK290.out (by decide)) BK291.out (by decide)) (fun _ hk => hk.1.2) (.slice Ao8 t292.length co8)) (fun _ hk => hk.2) (.string a0_0)) (fun _ hk => hk.2) (.int .i64 a0_1)) (fun _ hk => hk.2) (.slice Ao8 t292.length co8)) (fun _ hk => trivial), by repeat (first | (with_reducible first | exact HB.out | apply below_alloc | apply pw_below_drewN | apply below_drew1 | refine below_set ?_ GE290.out | refine below_set ?_ GE291.out) | exact HB.out)⟩

end Go.Proofs.YtknfnmdfdkdipaaDoor.PFnTonaryAdd
namespace Go.Proofs.YtknfnmdfdkdipaaDoor.Pure
set_option linter.unusedVariables false
set_option linter.unusedSimpArgs false
open Go Go.RowKit Go.Proofs.YtknfnmdfdkdipaaDoor.PFnTonaryAdd Go.Proofs.YtknfnmdfdkdipaaDoorW.PrintWords Go.Proofs.YtknfnmdfdkdipaaDoorW.PrintLast Go.Proofs.YtknfnmdfdkdipaaDoorW.PrintMore

theorem impl_tonesValid_ev (l : List S74) (a b : Int) : Ev (fun n => impl_tonesValid.f n l a b) (decide (a ≤ (l.length : Int) ∧ (l.length : Int) ≤ b) && melOk l) := by
 unfold impl_tonesValid.f
 by_cases h1 : (l.length : Int) ≥ a
 ·
  refine Ev.pos h1 ?_
  by_cases h2 : (l.length : Int) ≤ b
  ·
   refine Ev.pos h2 (Ev.bind (impl_MelodyValid_ev l) (Ev.eqr (Ev.now _) ?_))
   rw [decide_eq_true ⟨h1, h2⟩, Bool.true_and]
  ·
   exact Ev.neg h2 (Ev.eqr (Ev.now _) (by rw [decide_eq_false (fun h => h2 h.2), Bool.false_and]))
 ·
  exact Ev.neg h1 (Ev.eqr (Ev.now _) (by rw [decide_eq_false (fun h => h1 h.1), Bool.false_and]))
theorem bt_get (s : ByteArray) (i : Nat) (h : i < s.size) : ∃ c : UInt8, bt s (i : Int) = (c.toNat : Int) ∧ s.data.toList.drop i = c :: s.data.toList.drop (i + 1) := by
 refine ⟨s[i], ?_, ?_⟩
 ·
  rw [← bt_at s (i : Int) (by simpa using h)]
  simp
 ·
  have hl : i < s.data.toList.length := by simpa using h
  rw [List.drop_eq_getElem_cons hl]; rfl
theorem impl_Entry_valid_ev (e : S26) (hs : e.f0.size ≤ 9223372036854775806) : Ev (fun n => impl_Entry_valid.f n e.f0 e.f1 e.f2) (entOk e) := by
 unfold impl_Entry_valid.f entOk
 have no : Ev (fun n => impl_Entry_valid.j0 n true e.f0 e.f1 e.f2) false := by
  refine Ev.succ ?_
  simp only [impl_Entry_valid.j0]
  exact Ev.pos trivial (Ev.now _)
 refine Ev.conb (a := ((mRz e.f1).1, (mRz e.f1).2.1, (mRz e.f1).2.2.1, (mRz e.f1).2.2.2, mOk e.f1)) rfl ?_
 show Ev (fun n => if mOk e.f1 = true then _ else _) _
 cases hm : mOk e.f1
 ·
  exact Ev.neg (by simp) no
 refine Ev.pos rfl ?_
 rw [Bool.true_and]
 have hsz : e.f0.toList.length = e.f0.size := by rw [Lib.toList_data]; simp
 by_cases h0 : e.f0.toList = []
 ·
  refine Ev.pos h0 ?_
  have : e.f0.size = 0 := by rw [← hsz, h0]; rfl
  rw [decide_eq_false (by omega), Bool.false_and]
  exact no
 refine Ev.neg h0 ?_
 have hpos : 0 < e.f0.size := by
  rw [← hsz]; exact List.length_pos_iff.2 h0
 by_cases h1 : e.f0.size ≤ 10
 ·
  rw [decide_eq_true (show 1 ≤ e.f0.size ∧ e.f0.size ≤ 10 from ⟨hpos, h1⟩), Bool.true_and, decide_eq_false (show ¬ (e.f0.size : Int) > 10 by omega)]
  refine Ev.succ ?_
  simp only [impl_Entry_valid.j0]
  refine Ev.neg (by simp) ?_
  have key : ∀ d i : Nat, i + d = e.f0.size → Ev (fun n => impl_Entry_valid.l0 n (e.f0.size : Int) (i : Int) e.f0 e.f1 e.f2) (lowB (e.f0.data.toList.drop i) && (decide (1 ≤ e.f2.length ∧ e.f2.length ≤ 8) && melOk e.f2)) := by
   intro d
   induction d with
   | zero =>
    intro i hi
    refine Ev.succ ?_
    simp only [impl_Entry_valid.l0]
    rw [List.drop_of_length_le (by simp; omega)]
    have e1 := impl_tonesValid_ev e.f2 1 8
    rw [show (decide ((1 : Int) ≤ (e.f2.length : Int) ∧ (e.f2.length : Int) ≤ 8)) = decide (1 ≤ e.f2.length ∧ e.f2.length ≤ 8) from decide_eq_decide.2 (by omega)] at e1
    exact Ev.neg (by omega) (Ev.bind e1 (Ev.eqr (Ev.now _) (by simp [lowB])))
   | succ d ih =>
    intro i hi
    obtain ⟨c, hc, hdr⟩ := bt_get e.f0 i (by omega)
    refine Ev.succ ?_
    simp only [impl_Entry_valid.l0]
    rw [hc, hdr, w64 (x := (i : Int) + 1) (by omega) (by omega)]
    have e2 : lowB (c :: e.f0.data.toList.drop (i + 1)) = (decide (97 ≤ c.toNat ∧ c.toNat ≤ 122) && lowB (e.f0.data.toList.drop (i + 1))) := rfl
    rw [e2]
    refine Ev.pos (by omega) (Ev.pos (by omega) (Ev.pos (by omega) ?_))
    by_cases h97 : (c.toNat : Int) < 97
    ·
     refine Ev.pos h97 (Ev.eqr (Ev.now _) ?_)
     rw [decide_eq_false (by omega)]; rfl
    refine Ev.neg h97 ?_
    by_cases h122 : (c.toNat : Int) > 122
    ·
     refine Ev.pos h122 (Ev.eqr (Ev.now _) ?_)
     rw [decide_eq_false (by omega)]; rfl
    refine Ev.neg h122 ?_
    rw [decide_eq_true (show 97 ≤ c.toNat ∧ c.toNat ≤ 122 by omega), Bool.true_and]
    exact ih (i + 1) (by omega)
  exact key e.f0.size 0 (by omega)
 ·
  rw [decide_eq_false (show ¬ (1 ≤ e.f0.size ∧ e.f0.size ≤ 10) by omega), Bool.false_and, decide_eq_true (show (e.f0.size : Int) > 10 by omega)]
  exact no

open Go.MapKept Go.ChangeMaps in
def MapFn (w : World) (M : Nat) (F : Int → Option Value) : Prop :=
 ∃ es clock, w.heap[M]? = some (.map es clock) ∧ (es.toList.map (·.key)).Nodup ∧ (∀ e ∈ es.toList, ∃ k, e.key = .int .i64 k ∧ F k = some e.val) ∧ ∀ k v, F k = some v → ∃ e ∈ es.toList, e.key = .int .i64 k ∧ e.val = v
theorem MapFn.made {w : World} {M : Nat} (h : w.heap[M]? = some (.map #[] 0)) : MapFn w M (fun _ => none) := ⟨_, _, h, by simp, by simp, by simp⟩
theorem MapFn.lt {w : World} {M : Nat} {F : Int → Option Value} (h : MapFn w M F) : M < w.heap.size := by
 obtain ⟨es, clock, hb, _⟩ := h; exact blk_lt hb
theorem MapFn.move {w w' : World} {M : Nat} {F : Int → Option Value} (h : MapFn w M F) (hw : w'.heap[M]? = w.heap[M]?) : MapFn w' M F := by
 obtain ⟨es, clock, hb, h⟩ := h; exact ⟨es, clock, hw.trans hb, h⟩
theorem MapFn.look {P : Program} {w : World} {M : Nat} {F : Int → Option Value} (h : MapFn w M F) {t kt e : TypeId} (ht : P.underlying t = some (.map kt e)) (hk : P.underlying kt = some (.int .i64)) {z : Value} (hz : ∀ w, (zeroValue e).run P w = .ok z w) (k : Int) (c : Bool) :
 (Instr.lookup t (.map (some M)) (.int .i64 k) c).run P w = .ok (if c then .tuple #[(F k).getD z, .bool (F k).isSome] else (F k).getD z) w := by
 obtain ⟨es, clock, hb, _, h1, h2⟩ := h
 have hkey : MapKept.IsKey (.int .i64) (.int .i64 k) := by simp [MapKept.IsKey]
 have hks : ∀ x ∈ es.toList, MapKept.IsKey (.int .i64) x.key := fun x hx => by
  obtain ⟨k, hk, _⟩ := h1 x hx
  rw [hk]; simp [MapKept.IsKey]
 rcases MapKept.findNow_spec hkey es.toList 0 hks with ⟨f1, f2⟩ | ⟨j, e0, f1, f2, f3⟩
 ·
  have hF : F k = none := by
   cases hF : F k with
   | none => rfl
   | some v =>
    obtain ⟨x, hx, hx1, _⟩ := h2 k v hF
    exact absurd hx1 (f2 x hx)
  simp [Instr.lookup, run_underlying ht, MapKept.run_getObj_map hb, MapKept.run_checkKey hk hkey, MapKept.run_findKey hk f1, hz, Result.andThen, hF]
 ·
  have hm : e0 ∈ es.toList := List.mem_of_getElem? f2
  obtain ⟨k', hk', hF⟩ := h1 e0 hm
  have e1 : k' = k := by rw [f3] at hk'; cases hk'; rfl
  subst e1
  simp [Instr.lookup, run_underlying ht, MapKept.run_getObj_map hb, MapKept.run_checkKey hk hkey, MapKept.run_findKey hk f1, Result.andThen, hF]
theorem MapFn.put {P : Program} {w : World} {M : Nat} {F : Int → Option Value} (h : MapFn w M F) {t kt e : TypeId} (ht : P.underlying t = some (.map kt e)) (hk : P.underlying kt = some (.int .i64)) (k : Int) (v : Value) :
 ∃ es clock, (Instr.mapUpdate t (.map (some M)) (.int .i64 k) v).run P w = .ok () (ChangeMaps.setBlock w M (.map es clock)) ∧ MapFn (ChangeMaps.setBlock w M (.map es clock)) M (fun j => if j = k then some v else F j) := by
 obtain ⟨es, clock, hb, hn, h1, h2⟩ := h
 have hlt := blk_lt hb
 have hset : ∀ o, (ChangeMaps.setBlock w M o).heap[M]? = some o := fun o => by simp [ChangeMaps.setBlock, hlt]
 have hkey : MapKept.IsKey (.int .i64) (.int .i64 k) := by simp [MapKept.IsKey]
 have hks : ∀ x ∈ es.toList, MapKept.IsKey (.int .i64) x.key := fun x hx => by
  obtain ⟨k, hk, _⟩ := h1 x hx
  rw [hk]; simp [MapKept.IsKey]
 rcases MapKept.findNow_spec hkey es.toList 0 hks with ⟨f1, f2⟩ | ⟨j, e0, f1, f2, f3⟩
 ·
  refine ⟨es.push ⟨.int .i64 k, v, clock⟩, clock + 1, ?_, _, _, hset _, ?_, ?_, ?_⟩
  ·
   simp [Instr.mapUpdate, run_underlying ht, MapKept.run_getObj_map hb, MapKept.run_checkKey hk hkey, MapKept.run_findKey hk f1, MapKept.run_setObj_map _ hb, Result.andThen, ChangeMaps.setBlock]
  ·
   simp only [Array.toList_push, List.map_append, List.map_cons, List.map_nil]
   rw [List.nodup_append]
   refine ⟨hn, by simp, ?_⟩
   intro a ha b hb'
   obtain ⟨x, hx, rfl⟩ := List.mem_map.1 ha
   rw [List.mem_singleton.1 hb']
   exact f2 x hx
  ·
   intro x hx
   simp only [Array.toList_push, List.mem_append, List.mem_singleton] at hx
   rcases hx with hx | rfl
   ·
    obtain ⟨k', hk', hF⟩ := h1 x hx
    refine ⟨k', hk', ?_⟩
    have : k' ≠ k := fun e => f2 x hx (by rw [hk', e])
    show (if k' = k then _ else _) = _
    rw [if_neg this]; exact hF
   ·
    exact ⟨k, rfl, if_pos rfl⟩
  ·
   intro k' v' hF
   replace hF : (if k' = k then some v else F k') = some v' := hF
   simp only [Array.toList_push, List.mem_append, List.mem_singleton]
   by_cases e : k' = k
   ·
    subst e
    rw [if_pos rfl] at hF
    cases hF
    exact ⟨_, .inr rfl, rfl, rfl⟩
   ·
    rw [if_neg e] at hF
    obtain ⟨x, hx, hx1⟩ := h2 k' v' hF
    exact ⟨x, .inl hx, hx1⟩
 ·
  have hm : e0 ∈ es.toList := List.mem_of_getElem? f2
  have hjl := (List.getElem?_eq_some_iff.1 f2).1
  have hje : es[j]? = some e0 := by simpa using f2
  have hmod : (es.modify j fun e => { e with key := .int .i64 k, val := v }).toList = es.toList.set j { e0 with key := .int .i64 k, val := v } := by
   apply List.ext_getElem?
   intro i
   rw [Array.getElem?_toList, Array.getElem?_modify, List.getElem?_set]
   by_cases e : j = i
   ·
    subst e
    rw [if_pos rfl, if_pos rfl, hje, if_pos hjl]; rfl
   ·
    rw [if_neg e, if_neg e, Array.getElem?_toList]
  refine ⟨es.modify j fun e => { e with key := .int .i64 k, val := v }, clock, ?_, _, _, hset _, ?_, ?_, ?_⟩
  ·
   simp [Instr.mapUpdate, run_underlying ht, MapKept.run_getObj_map hb, MapKept.run_checkKey hk hkey, MapKept.run_findKey hk f1, MapKept.run_setObj_map _ hb, hje, f3, MapKept.run_keyThatStays hkey, Result.andThen, ChangeMaps.setBlock]
  ·
   rw [hmod, List.map_set]
   have : (es.toList.map (·.key)).set j (.int .i64 k) = es.toList.map (·.key) := by
    apply List.ext_getElem?
    intro i
    rw [List.getElem?_set]
    by_cases e : j = i
    ·
     subst e
     rw [if_pos rfl, List.length_map, if_pos hjl, List.getElem?_map, f2]
     simp [f3]
    ·
     rw [if_neg e]
   rw [this]; exact hn
  ·
   intro x hx
   rw [hmod] at hx
   obtain ⟨i, hi⟩ := List.mem_iff_getElem?.1 hx
   rw [List.getElem?_set] at hi
   by_cases e : j = i
   ·
    subst e
    rw [if_pos rfl, if_pos hjl] at hi
    cases hi
    exact ⟨k, rfl, if_pos rfl⟩
   ·
    rw [if_neg e] at hi
    obtain ⟨k', hk', hF⟩ := h1 x (List.mem_of_getElem? hi)
    refine ⟨k', hk', ?_⟩
    have : k' ≠ k := by
     rintro rfl
     have hnn := List.nodup_iff_pairwise_ne.1 hn
     have a1 : (es.toList.map (·.key))[i]? = some (.int .i64 k') := by rw [List.getElem?_map, hi]; simp [hk']
     have a2 : (es.toList.map (·.key))[j]? = some (.int .i64 k') := by rw [List.getElem?_map, f2]; simp [f3]
     obtain ⟨i1, i2⟩ := List.getElem?_eq_some_iff.1 a1
     obtain ⟨j1, j2⟩ := List.getElem?_eq_some_iff.1 a2
     exact e ((List.getElem_inj hn).1 (j2.trans i2.symm))
    show (if k' = k then _ else _) = _
    rw [if_neg this]; exact hF
  ·
   intro k' v' hF
   replace hF : (if k' = k then some v else F k') = some v' := hF
   rw [hmod]
   by_cases e : k' = k
   ·
    subst e
    rw [if_pos rfl] at hF
    cases hF
    exact ⟨_, List.mem_iff_getElem?.2 ⟨j, by rw [List.getElem?_set, if_pos rfl, if_pos hjl]⟩, rfl, rfl⟩
   ·
    rw [if_neg e] at hF
    obtain ⟨x, hx, hx1, hx2⟩ := h2 k' v' hF
    obtain ⟨i, hi⟩ := List.mem_iff_getElem?.1 hx
    have hji : j ≠ i := by
     rintro rfl
     rw [f2] at hi; cases hi
     rw [f3] at hx1; cases hx1; exact e rfl
    exact ⟨x, List.mem_iff_getElem?.2 ⟨i, by rw [List.getElem?_set, if_neg hji]; exact hi⟩, hx1, hx2⟩
theorem below_setBlock {w W : World} {B M : Nat} {o : Obj} (h : Below B w W) (hM : B ≤ M) : Below B w (ChangeMaps.setBlock W M o) :=
 h.trans ⟨rfl, rfl, rfl, by simp [ChangeMaps.setBlock], fun k hk => by simp [ChangeMaps.setBlock, show M ≠ k by omega]⟩
def TonAt (w : World) (base M : Nat) (own : Nat → Int) (F : Int → Option Value) (G : Int → List S26) : Prop :=
 base ≤ M ∧ MapFn w M F ∧ (∀ k, F k = none → G k = []) ∧ ∀ k v, F k = some v → Kd.S k26 26 w base (fun b => own b = k ∧ b ≠ M) v (G k)
def TonMap (w : World) (base M : Nat) (G : Int → List S26) : Prop := ∃ own F, TonAt w base M own F G
theorem TonAt.below {w w' : World} {base M : Nat} {own : Nat → Int} {F : Int → Option Value} {G : Int → List S26} (h : TonAt w base M own F G) (hb : Below w.heap.size w w') : TonAt w' base M own F G :=
 ⟨h.1, h.2.1.move (hb.block _ h.2.1.lt), h.2.2.1, fun k v hv => Kd.S_below (h.2.2.2 k v hv) hb⟩
theorem TonMap.made {w : World} {base M : Nat} (hb : base ≤ M) (h : w.heap[M]? = some (.map #[] 0)) : TonMap w base M (fun _ => []) :=
 ⟨fun _ => 0, fun _ => none, hb, MapFn.made h, fun _ _ => rfl, fun k v h => by cases h⟩
theorem TonMap.cong {w : World} {base M : Nat} {G G' : Int → List S26} (h : TonMap w base M G) (e : ∀ k, G k = G' k) : TonMap w base M G' := by
 rw [← show G = G' from funext e]; exact h
/-- What stands at a key: a row of its own. -/
theorem TonAt.row {w : World} {base M : Nat} {own : Nat → Int} {F : Int → Option Value} {G : Int → List S26} (h : TonAt w base M own F G) (k : Int) : Kd.S k26 26 w base (fun b => own b = k ∧ b ≠ M) ((F k).getD (.slice none 0 0)) (G k) := by
 cases hF : F k with
 | none => rw [h.2.2.1 k hF]; exact Kd.S_nil _ _ _ _ _
 | some v => exact h.2.2.2 k v hF
theorem TonAt.look {w : World} {base M : Nat} {own : Nat → Int} {F : Int → Option Value} {G : Int → List S26} (h : TonAt w base M own F G) (k : Int) : (Instr.lookup 43 (.map (some M)) (.int .i64 k) false).run Tryd.prog w = .ok ((F k).getD (.slice none 0 0)) w := by
 have := h.2.1.look (P := Tryd.prog) Tryd.underlying43 Tryd.underlying3 (z := .slice none 0 0) (fun _ => by kernel_rfl) k false
 simpa using this
/-- The row at a key is set. -/
theorem TonAt.put {w1 : World} {base M n : Nat} {own : Nat → Int} {F : Int → Option Value} {G : Int → List S26} {k : Int} {v : Value} {l : List S26} (hM : base ≤ M) (hMn : M < n)
 (hF : MapFn w1 M F) (hF0 : ∀ j, F j = none → G j = []) (ho : ∀ j, j ≠ k → Kd.S k26 26 w1 base (fun b => (own b = j ∧ b ≠ M) ∧ b < n) ((F j).getD (.slice none 0 0)) (G j)) (hv : Kd.S k26 26 w1 base (fun b => (own b = k ∧ b ≠ M) ∨ n ≤ b) v l) :
 ∃ es clock, (Instr.mapUpdate 43 (.map (some M)) (.int .i64 k) v).run Tryd.prog w1 = .ok () (ChangeMaps.setBlock w1 M (.map es clock)) ∧ TonMap (ChangeMaps.setBlock w1 M (.map es clock)) base M (fun j => if j = k then l else G j) := by
 obtain ⟨es, clock, hrun, hmf⟩ := hF.put (P := Tryd.prog) Tryd.underlying43 Tryd.underlying3 k v
 have keep : ∀ b, b ≠ M → (ChangeMaps.setBlock w1 M (.map es clock)).heap[b]? = w1.heap[b]? := fun b hb => by
  simp [ChangeMaps.setBlock, show M ≠ b from fun e => hb e.symm]
 refine ⟨es, clock, hrun, fun b => if b < n then own b else k, _, hM, hmf, fun j hj => ?_, fun j u hj => ?_⟩
 ·
  replace hj : (if j = k then some v else F j) = none := hj
  show (if j = k then l else G j) = []
  by_cases e : j = k
  ·
   rw [if_pos e] at hj; cases hj
  ·
   rw [if_neg e] at hj ⊢; exact hF0 j hj
 ·
  replace hj : (if j = k then some v else F j) = some u := hj
  show Kd.S k26 26 _ base _ u (if j = k then l else G j)
  by_cases e : j = k
  ·
   subst e
   rw [if_pos rfl] at hj ⊢
   cases hj
   refine Kd.S_mono (Kd.S_step hv (fun b hb _ => keep b ?_)) (fun b hb => ?_)
   ·
    rcases hb with hb | hb
    ·
     exact hb.2
    ·
     omega
   ·
    rcases hb with hb | hb
    ·
     refine ⟨?_, hb.2⟩
     show (if b < n then own b else j) = j
     split
     ·
      exact hb.1
     ·
      rfl
    ·
     refine ⟨?_, by omega⟩
     show (if b < n then own b else j) = j
     rw [if_neg (by omega)]
  ·
   rw [if_neg e] at hj ⊢
   have hr := ho j e
   rw [hj] at hr
   refine Kd.S_mono (Kd.S_step hr (fun b hb _ => keep b hb.1.2)) (fun b hb => ⟨?_, hb.1.2⟩)
   show (if b < n then own b else k) = j
   rw [if_pos hb.2]; exact hb.1.1
theorem TonAt.bound {w : World} {base M : Nat} {own : Nat → Int} {v : Value} {l : List S26} {j : Int} (h : Kd.S k26 26 w base (fun b => own b = j ∧ b ≠ M) v l) : Kd.S k26 26 w base (fun b => (own b = j ∧ b ≠ M) ∧ b < w.heap.size) v l :=
 Kd.S_mono (Kd.S_bound h) (fun b hb => ⟨hb.1, hb.2.2.1⟩)
/-- An entry is put behind the row of key k: what the map then is. (n: the world ahead of all that was made since.) -/
theorem TonAt.append {w w1 w2 : World} {base M : Nat} {own : Nat → Int} {F : Int → Option Value} {G : Int → List S26} {k : Int} {v : Value} {l : List S26} (h : TonAt w base M own F G) (hb : Below w.heap.size w w1)
 (hg : w1.grownBy w2 ((F k).getD (.slice none 0 0)).ownBlock) (hv : Kd.S k26 26 w2 base (fun b => (own b = k ∧ b ≠ M) ∨ w.heap.size ≤ b) v l) :
 ∃ es clock, (Instr.mapUpdate 43 (.map (some M)) (.int .i64 k) v).run Tryd.prog w2 = .ok () (ChangeMaps.setBlock w2 M (.map es clock)) ∧ TonMap (ChangeMaps.setBlock w2 M (.map es clock)) base M (fun j => if j = k then l else G j) := by
 have hrow := (Kd.S_R (h.row k)).1
 refine TonAt.put (n := w.heap.size) h.1 h.2.1.lt ((h.2.1.move (hb.block _ h.2.1.lt)).move (hg.block _ (Nat.lt_of_lt_of_le h.2.1.lt hb.size) (fun e => (hrow M e.symm).2 rfl))) h.2.2.1 (fun j hj => ?_) hv
 refine Kd.S_grown (Kd.S_below (TonAt.bound (h.row j)) hb) hg (fun b hb e => ?_)
 exact hj (hb.1.1.symm.trans (hrow b e.symm).1)
theorem TonAt.elder {w w1 : World} {base M : Nat} {own : Nat → Int} {F : Int → Option Value} {G : Int → List S26} (h : TonAt w base M own F G) (hb : Below w.heap.size w w1) (k : Int) : Kd.S k26 26 w1 base (fun b => ((own b = k ∧ b ≠ M) ∨ w.heap.size ≤ b) ∧ ¬ w.heap.size ≤ b) ((F k).getD (.slice none 0 0)) (G k) :=
 Kd.S_mono (Kd.S_below (TonAt.bound (h.row k)) hb) (fun _ hb => ⟨.inl hb.1, by omega⟩)
theorem TonAt.ne {w : World} {base M : Nat} {own : Nat → Int} {F : Int → Option Value} {G : Int → List S26} (h : TonAt w base M own F G) (k : Int) : ∀ b, w.heap.size ≤ b → some b ≠ ((F k).getD (.slice none 0 0)).ownBlock :=
 fun b hb e => by have := Kd.S_lt (h.row k) b e.symm; omega
theorem cell_setBlock {w : World} {M : Nat} {o : Obj} {a : Addr} {v : Value} (h : w.cell? a = some v) (hne : a.block ≠ M) : (ChangeMaps.setBlock w M o).cell? a = some v := by
 have hb : (ChangeMaps.setBlock w M o).heap[a.block]? = w.heap[a.block]? := by simp [ChangeMaps.setBlock, show M ≠ a.block from fun e => hne e.symm]
 simpa [World.cell?, hb] using h

end Go.Proofs.YtknfnmdfdkdipaaDoor.Pure
namespace Go.Proofs.YtknfnmdfdkdipaaDoor.Pure
set_option linter.unusedVariables false
set_option linter.unusedSimpArgs false
open Go Go.RowKit Go.Proofs.YtknfnmdfdkdipaaDoor.PFnTonaryAdd Go.Proofs.YtknfnmdfdkdipaaDoorW.PrintWords Go.Proofs.YtknfnmdfdkdipaaDoorW.PrintLast Go.Proofs.YtknfnmdfdkdipaaDoorW.PrintMore

theorem leq_run (P : Program) (t : TypeId) (a b : ByteArray) (w : World) : (binOp .leq t (.string a) (.string b)).run P w = .ok (.bool (Op.bytesLess a.toList b.toList || a.toList == b.toList)) w := by
 have : binOp .leq t (.string a) (.string b) = pure (.bool (Op.bytesLess a.toList b.toList || a.toList == b.toList)) := by simp [binOp, Op.stringOp]
 rw [this]; rfl
theorem rd_drop (L : List S26) (i : Nat) (hi : i < L.length) : L.drop i = rd_T26 L (i : Int) :: L.drop (i + 1) := by
 rw [List.drop_eq_getElem_cons hi]
 unfold rd_T26
 rw [Int.toNat_natCast, List.getD_eq_getElem?_getD, List.getElem?_eq_getElem hi]; rfl
theorem rd_ent (L : List S26) (i : Nat) (hi : i < L.length) : rd_T26 L (i : Int) ∈ L := by
 unfold rd_T26
 rw [Int.toNat_natCast, List.getD_eq_getElem?_getD, List.getElem?_eq_getElem hi]; exact List.getElem_mem hi
theorem rd_take (L : List S26) (i : Nat) (hi : i < L.length) : L.take (i + 1) = L.take i ++ [rd_T26 L (i : Int)] := by
 rw [List.take_succ_eq_append_getElem hi]
 unfold rd_T26
 rw [Int.toNat_natCast, List.getD_eq_getElem?_getD, List.getElem?_eq_getElem hi]; rfl
theorem prev_next (L : List S26) (i : Nat) : prevOf L (i + 1) = some (rd_T26 L (i : Int)) := by
 unfold prevOf
 rw [if_neg (by omega), show (((i + 1 : Nat) : Int) - 1) = (i : Int) by omega]
theorem filt_next (L : List S26) (i : Nat) (hi : i < L.length) (j : Int) : (if j = (rd_T26 L (i : Int)).f1 then (L.take i).filter (fun e => e.f1 == (rd_T26 L (i : Int)).f1) ++ [rd_T26 L (i : Int)] else (L.take i).filter (fun e => e.f1 == j)) = (L.take (i + 1)).filter (fun e => e.f1 == j) := by
 rw [rd_take L i hi, List.filter_append]
 by_cases h : j = (rd_T26 L (i : Int)).f1
 ·
  subst h
  rw [if_pos rfl]
  simp
 ·
  rw [if_neg h]
  have : ((rd_T26 L (i : Int)).f1 == j) = false := by rw [beq_eq_false_iff_ne]; exact fun e => h e.symm
  simp [this]
/-- What tonaryOf ends in: whether the list is a tonary, and then its map. -/
def TonRes (L : List S26) (R : Bool) (w : World) (e : Ending) (w' : World) : Prop :=
 ∃ p, e = .returned (.tuple #[.map p, .bool R]) ∧ (R = true → ∃ M, p = some M ∧ TonMap w' w.heap.size M (fun k => L.filter (fun e => e.f1 == k))) ∧ Below w.heap.size w w'
set_option maxHeartbeats 1000000 in
set_option maxRecDepth 100000 in
theorem impl_tonaryOf_calls (L : List S26) (A0 : Option Addr) (c0 : Nat) (w : World) (ht : MTab w) (hr0 : Kd.C k26 w A0 L.length L) (hc0 : L.length ≤ c0) (hz : ∀ e ∈ L, e.f0.size ≤ 9000000000000000 ∧ e.f2.length ≤ 1000000000000) :
 Calls Tryd.prog 15 #[.slice A0 L.length c0] w (TonRes L (tonOk L) w) := by
 have hu1 := Tryd.underlying26
 have HT := Aside0.mk ht
 have HR0 := Aside0.mk hr0
 have HC0 := Aside0.mk hc0
 have HZ := Aside0.mk hz
 clear ht hr0 hc0 hz
 by_cases hbig : (L.length : Int) > 20
 ·
  have d0 : decide (20 < (L.length : Int)) = true := decide_eq_true hbig
  have d0' : decide (20 < L.length) = true := decide_eq_true (by omega)
  have e : tonOk L = false := by unfold tonOk; rw [decide_eq_false (by omega), Bool.false_and]
  rw [e]
  clear hbig e
  go_enter Tryd.func15, Tryd.ntmps15
  go_wp2
  go_ret2
  exact ⟨none, rfl, (fun h => by cases h), Below.refl _ _⟩
 have d0 : decide (20 < (L.length : Int)) = false := decide_eq_false hbig
 have d0' : decide (20 < L.length) = false := decide_eq_false (by omega)
 have hL : L.length ≤ 20 := by omega
 have hok : tonOk L = tOkFrom none L := by unfold tonOk; rw [decide_eq_true hL, Bool.true_and]
 obtain ⟨R, hR⟩ : ∃ R, R = tonOk L := ⟨_, rfl⟩
 have HOK := Aside0.mk (hR.trans hok)
 rw [← hR]
 clear hbig hok hR
 have hmm := @run_makeMap Tryd.prog
 go_enter Tryd.func15, Tryd.ntmps15
 go_upto_region 4 with fail
 obtain ⟨M, hM⟩ : ∃ M, M = w.heap.size := ⟨_, rfl⟩
 have HM := Aside0.mk hM
 have HB0 : Aside0 (Below w.heap.size w (w.alloc (.map #[] 0))) := ⟨below_alloc (Below.refl _ _) _⟩
 have HT0 : Aside0 (TonMap (w.alloc (.map #[] 0)) w.heap.size M (fun k => (L.take 0).filter (fun e => e.f1 == k))) := ⟨(TonMap.made (by omega) (by rw [hM]; exact blk_new w _)).cong (fun _ => by simp)⟩
 rw [← hM]
 generalize w.alloc (.map #[] 0) = w0 at HB0 HT0 ⊢
 clear hmm hM
 go_wp2
 go_loopg [13] L.length (fun kq v13 w' => ∃ i : Nat, v13 = .int .i64 (i : Int) ∧ Aside0 (kq = L.length - i ∧ i ≤ L.length ∧ tOkFrom (prevOf L i) (L.drop i) = R) ∧ Aside0 (TonMap w' w.heap.size M (fun k => (L.take i).filter (fun e => e.f1 == k))) ∧ Aside0 (Below w.heap.size w w'))
 case atStart => exact ⟨0, rfl, ⟨rfl, Nat.zero_le _, HOK.out.symm⟩, HT0, HB0⟩
 case round =>
  clear HB0 HT0
  obtain ⟨i, rfl, HX, HTM, HB⟩ := hrel
  by_cases hi : (i : Int) < (L.length : Int)
  ·
   have d1 : decide ((i : Int) < (L.length : Int)) = true := decide_eq_true hi
   have d1' : decide (i < L.length) = true := decide_eq_true (by omega)
   have p0 : (0 : Int) ≤ (i : Int) := by omega
   have q0 := eq_true p0
   have q1 := eq_true hi
   have q2 := eq_true (show i < L.length by omega)
   obtain ⟨ad, A2, c2, e0, ux0, ux1, ux2, hl2, hg2⟩ := at_T26 (Kd.C_below HR0.out HB.out) (i : Int) p0 hi
   subst e0
   obtain ⟨e, he⟩ : ∃ e, e = rd_T26 L (i : Int) := ⟨_, rfl⟩
   rw [← he] at ux0 ux1 ux2 hl2 hg2
   simp only [Int.toNat_natCast] at ux0 ux1 ux2
   have HG2 := Aside0.mk hg2
   have HL2 := Aside0.mk hl2
   have HE := Aside0.mk he
   have HZE := Aside0.mk (HZ.out e (by rw [he]; exact rd_ent L i (by omega)))
   have hfl : e.f2.length ≤ 1000000000000 := HZE.out.2
   obtain ⟨kv, hkv⟩ := Ev.rounds (impl_Entry_valid_ev e (by have := HZE.out.1; omega))
   have HKV := Aside0.mk hkv
   have NX : Aside0 (i < L.length) := ⟨by omega⟩
   obtain ⟨own, F, hTA⟩ := HTM.out
   have HTA0 := Aside0.mk hTA
   clear hTA
   have HW := Aside0.mk (w64 (x := (i : Int) + 1) (by omega) (by omega))
   clear hg2 hl2 he hkv
   go_upto_region 7 with (first
    | ((with_reducible refine gate_dst (N := 6) rfl ?_); refine box_event ?hg (N := 6) ?hd (cs := #[.string ⟨#[]⟩, .int .i64 0, .slice none 0 0]) (t := 26) ?hr ?_; (case hd => rfl); (case hg => rfl); (case hr => first | (go_simp; done) | (go_simp; rfl)); intro g6 hg w6 hbox hb; have HK6 := Aside0.mk hbox; have HB6 := Aside0.mk hb; have N6 := Aside0.mk (show wr.heap.size ≤ g6 from (by rw [hg]; exact Nat.le_refl _)); have cz0 : w6.cell? ⟨g6, 0, none⟩ = some (.string ⟨#[]⟩) := (blk_cell HK6.out 0).trans rfl; have cz1 : w6.cell? ⟨g6, 1, none⟩ = some (.int .i64 0) := (blk_cell HK6.out 1).trans rfl; have cz2 : w6.cell? ⟨g6, 2, none⟩ = some (.slice none 0 0) := (blk_cell HK6.out 2).trans rfl; have fz0 := blk_frozen HK6.out 0; have fz1 := blk_frozen HK6.out 1; have fz2 := blk_frozen HK6.out 2; clear hg hbox hb))
   have W6 : Aside0 ((((w6.setCell ⟨g6, 0, none⟩ (.string e.f0)).setCell ⟨g6, 1, none⟩ (.int .i64 e.f1)).setCell ⟨g6, 2, none⟩ (.slice A2 e.f2.length c2)).heap[g6]? = some (.cells #[.string e.f0, .int .i64 e.f1, .slice A2 e.f2.length c2] 26 (0, 0))) := ⟨blk_put (cs := #[.string e.f0, .int .i64 e.f1, .slice none 0 0]) (blk_put (cs := #[.string e.f0, .int .i64 0, .slice none 0 0]) (blk_put (cs := #[.string ⟨#[]⟩, .int .i64 0, .slice none 0 0]) HK6.out 0 _ rfl) 1 _ rfl) 2 _ rfl⟩
   have HB7 : Aside0 (Below wr.heap.size wr (((w6.setCell ⟨g6, 0, none⟩ (.string e.f0)).setCell ⟨g6, 1, none⟩ (.int .i64 e.f1)).setCell ⟨g6, 2, none⟩ (.slice A2 e.f2.length c2))) := ⟨below_set (below_set (below_set HB6.out N6.out) N6.out) N6.out⟩
   clear HK6 HB6 cz0 cz1 cz2 fz0 fz1 fz2 ux0 ux1 ux2
   generalize (((w6.setCell ⟨g6, 0, none⟩ (.string e.f0)).setCell ⟨g6, 1, none⟩ (.int .i64 e.f1)).setCell ⟨g6, 2, none⟩ (.slice A2 e.f2.length c2)) = w7 at W6 HB7 ⊢
   have y0 : w7.cell? ⟨g6, 0, none⟩ = some (.string e.f0) := (blk_cell W6.out 0).trans rfl
   have y1 : w7.cell? ⟨g6, 1, none⟩ = some (.int .i64 e.f1) := (blk_cell W6.out 1).trans rfl
   have y2 : w7.cell? ⟨g6, 2, none⟩ = some (.slice A2 e.f2.length c2) := (blk_cell W6.out 2).trans rfl
   cases hve : entOk e
   ·
    have hRf : R = false := by
     have := HX.out.2.2
     rw [rd_drop L i NX.out, ← HE.out] at this
     rw [← this]
     cases prevOf L i <;> (simp only [tOkFrom]; rw [hve]; rfl)
    subst hRf
    rw [hve] at HKV
    clear hve
    go_wp2_with (go_at_call 16; refine (impl_Entry_valid.calls kv e.f0 e.f1 A2 c2 e.f2 false _ (HT.out.below (below_step HB.out HB7.out)) (Kd.C_below HG2.out HB7.out) HL2.out HKV.out).mono ?_; rintro e_ w8 ⟨rfl, hb8⟩; have HB8 := Aside0.mk (below_step (below_step HB.out HB7.out) hb8); clear hb8)
    go_ret2
    exact ⟨none, rfl, (fun h => by cases h), HB8.out⟩
   rw [hve] at HKV
   have HVE := Aside0.mk hve
   clear hve
   go_upto_region 9 with (first
    | (go_at_call 16; refine (impl_Entry_valid.calls kv e.f0 e.f1 A2 c2 e.f2 true _ (HT.out.below (below_step HB.out HB7.out)) (Kd.C_below HG2.out HB7.out) HL2.out HKV.out).mono ?_; rintro e_ w8 ⟨rfl, hb8⟩; have HB8 := Aside0.mk (below_step HB7.out hb8); have W8 := Aside0.mk (blk_below W6.out hb8); clear hb8))
   have HB9 := Aside0.mk (below_step HB.out HB8.out)
   have HTA8 := Aside0.mk (HTA0.out.below HB8.out)
   have NE6 := Aside0.mk (HTA0.out.ne e.f1 g6 N6.out)
   have NM6 : Aside0 (g6 ≠ M) := ⟨by have h1 := HTA0.out.2.1.lt; have h2 := N6.out; omega⟩
   have HG8 := Aside0.mk (Kd.C_below HG2.out HB8.out)
   have HR8 := Aside0.mk (Kd.C_below HR0.out HB9.out)
   clear y0 y1 y2 W6 HB7 HB8 HTM HG2 HTA0 N6
   have y0 : w8.cell? ⟨g6, 0, none⟩ = some (.string e.f0) := (blk_cell W8.out 0).trans rfl
   have y1 : w8.cell? ⟨g6, 1, none⟩ = some (.int .i64 e.f1) := (blk_cell W8.out 1).trans rfl
   by_cases h0 : i = 0
   ·
    subst h0
    have tok : Aside0 (tOkFrom (some e) (L.drop 1) = R) := ⟨by
     have := HX.out.2.2
     rw [rd_drop L 0 NX.out, ← HE.out] at this
     rw [← this]
     show _ = tOkFrom (prevOf L 0) (e :: L.drop (0 + 1))
     rw [show prevOf L 0 = none from rfl]
     simp only [tOkFrom]
     rw [HVE.out, Bool.true_and]⟩
    go_quiet (fail)
    have HBt := Aside0.mk (pw_below_drewN HB9.out nq)
    have HTA := Aside0.mk (show TonAt (w8.drewN nq) w.heap.size M own F (fun k => (L.take 0).filter (fun e => e.f1 == k)) from HTA8.out.below (pw_below_drewN (Below.refl _ _) _))
    have HGt := Aside0.mk (show Kd.C k74 (w8.drewN nq) A2 e.f2.length e.f2 from HG8.out)
    have Wt := Aside0.mk (show (w8.drewN nq).heap[g6]? = some (.cells #[.string e.f0, .int .i64 e.f1, .slice A2 e.f2.length c2] 26 (0, 0)) from W8.out)
    clear y0 y1 W8 HB9 HTA8 HG8 HR8
    try clear z0 z1
    generalize (w8.drewN nq) = w9 at HBt HTA HGt Wt ⊢
    obtain ⟨v0, hv0⟩ : ∃ v0, v0 = (F e.f1).getD (.slice none 0 0) := ⟨_, rfl⟩
    have HV0 := Aside0.mk hv0
    rw [← hv0] at NE6
    clear hv0
    have lkA : (Instr.lookup 43 (.map (some M)) (.int .i64 e.f1) false).run Tryd.prog w9.drew = .ok v0 w9.drew := by rw [HV0.out]; exact (HTA.out.below (below_drew1 (Below.refl _ _))).look e.f1
    have y0 : w9.drew.cell? ⟨g6, 0, none⟩ = some (.string e.f0) := (blk_cell Wt.out 0).trans rfl
    have y1 : w9.drew.cell? ⟨g6, 1, none⟩ = some (.int .i64 e.f1) := (blk_cell Wt.out 1).trans rfl
    have y2 : w9.drew.cell? ⟨g6, 2, none⟩ = some (.slice A2 e.f2.length c2) := (blk_cell Wt.out 2).trans rfl
    have HCP := Aside0.mk (show impl_Entry_copied.f e.f0 e.f1 e.f2 = some (e.f0, e.f1, e.f2) by unfold impl_Entry_copied.f impl_copiedTones.f; rw [if_pos hfl]; rfl)
    have HGD := Aside0.mk (show Kd.C k74 w9.drew A2 e.f2.length e.f2 from HGt.out)
    have HLL : (L.take 0).length ≤ 20 := by rw [List.length_take]; omega
    obtain ⟨X, hX⟩ : ∃ X, X = (L.take 0).filter (fun x => x.f1 == e.f1) := ⟨_, rfl⟩
    have hXl : X.length ≤ 20 := by rw [hX]; exact Nat.le_trans (List.length_filter_le _ _) HLL
    have HXX := Aside0.mk hX
    clear hX HLL
    go_upto_region 11 with fail
    go_region_held3 (fun w' => w'.cell? ⟨g6, 0, none⟩ = some (.string e.f0) ∧ w'.cell? ⟨g6, 1, none⟩ = some (.int .i64 e.f1) ∧ w'.cell? ⟨g6, 2, none⟩ = some (.slice A2 e.f2.length c2))
     (first
      | exact ⟨y0, y1, y2⟩
      | go_keep
      | exact ⟨pw_cell_below hb12 y0, pw_cell_below hb12 y1, pw_cell_below hb12 y2⟩
      | exact ⟨cell_grown hg13 (pw_cell_below hb12 y0) NE6.out, cell_grown hg13 (pw_cell_below hb12 y1) NE6.out, cell_grown hg13 (pw_cell_below hb12 y2) NE6.out⟩
      | exact ⟨cell_setBlock (cell_grown hg13 (pw_cell_below hb12 y0) NE6.out) NM6.out, cell_setBlock (cell_grown hg13 (pw_cell_below hb12 y1) NE6.out) NM6.out, cell_setBlock (cell_grown hg13 (pw_cell_below hb12 y2) NE6.out) NM6.out⟩
      | fail)
     (first
      | (go_at_call 19; (with_reducible refine (impl_Entry_copied.calls e.f0 e.f1 A2 c2 e.f2 e.f0 e.f1 e.f2 w9.drew HGD.out HL2.out HCP.out).mono ?_); rintro e_ w12 ⟨v2, rfl, ho2, hb12⟩; obtain ⟨Av, cv, rfl⟩ := Kd.R_slice ho2; have hbW : Below w9.heap.size w9 w12 := below_step (below_drew1 (Below.refl _ _)) hb12; have lkB := (HTA.out.below hbW).look e.f1; rw [← HV0.out] at lkB; have lkC := (HTA.out.below (below_step hbW (below_alloc (Below.refl _ _) (.cells #[.string e.f0, .int .i64 e.f1, .slice Av e.f2.length cv] 26 (0, 0))))).look e.f1; rw [← HV0.out] at lkC; have HM2 := Aside0.mk (k26_mkM w12 w.heap.size (fun b => w9.heap.size ≤ b) e (Kd.R_lower (Kd.R_mono (Kd.R_bound ho2) (fun b hb => hb.2.1)) HBt.out.size)); have HO12 := Aside0.mk (show Kd.S k26 26 w12 w.heap.size (fun b => ((own b = e.f1 ∧ b ≠ M) ∨ w9.heap.size ≤ b) ∧ ¬ w9.heap.size ≤ b) v0 X by (rw [HV0.out, HXX.out]; exact HTA.out.elder hbW e.f1)); have HBW := Aside0.mk hbW; clear ho2 hbW)
      | (refine Kd.S_append_step k26 (w0 := w) (W := w12) w.heap.size (by rfl) (.tmp 62) (.tmp 65) 23 26 (.agg #[.string ⟨#[]⟩, .int .i64 0, .slice none 0 0]) 48 (by rfl) Tryd.underlying23 info26 rfl (by decide) (by omega) v0 X e [.string e.f0, .int .i64 e.f1, .slice Av e.f2.length cv] (fun b => (own b = e.f1 ∧ b ≠ M) ∨ w9.heap.size ≤ b) (fun b => w9.heap.size ≤ b) (by rfl) (by rfl) HM2.out (fun b hb => ⟨.inr hb, by rw [HV0.out]; exact HTA.out.ne e.f1 b hb⟩) (fun b hb => .inr (Nat.le_trans HBW.out.size hb)) HO12.out (below_step HBt.out HBW.out) (below_step HBt.out HBW.out).size (by omega) ?_; intro v13 w13 ho13 hb13 hg13 _; obtain ⟨es, clk, hput, hmap⟩ := TonAt.append HTA.out HBW.out (by rw [← HV0.out]; exact hg13) ho13; have HMAP := Aside0.mk hmap; have HB13 := Aside0.mk hb13; clear hmap hb13 ho13)
      | fail)
    all_goals
     have HBE := Aside0.mk (below_setBlock HB13.out (show w.heap.size ≤ M by rw [HM.out]; exact Nat.le_refl _) (o := .map es clk))
     have HMX := Aside0.mk (HMAP.out.cong (G' := fun k => (L.take 1).filter (fun e => e.f1 == k)) (fun j => by rw [HXX.out, HE.out]; exact filt_next L 0 NX.out j))
     have NX2 : Aside0 (L.length - 1 < gk ∧ 1 ≤ L.length ∧ tOkFrom (prevOf L 1) (L.drop 1) = R) := ⟨by have h1 := HX.out.1; have h2 := NX.out; omega, NX.out, by rw [show prevOf L 1 = some e by rw [HE.out]; exact prev_next L 0]; exact tok.out⟩
     clear HB13 HMAP hput hg13 hb12
     generalize ChangeMaps.setBlock w13 M (.map es clk) = w14 at HBE HMX ⊢
     go_wp2
     go_roundg (L.length - 1)
     case measure => exact NX2.out.1
     case rel => exact ⟨1, by first | rfl | (rw [HW.out]; rfl), ⟨rfl, NX2.out.2.1, NX2.out.2.2⟩, HMX, HBE⟩
   have g0 : decide (0 < (i : Int)) = true := decide_eq_true (by omega)
   have g0' : decide (0 < i) = true := decide_eq_true (by omega)
   have gi : (0 : Int) < (i : Int) := by omega
   obtain ⟨pd, A3, c3, e1, vx0, vx1, vx2, _, _⟩ := at_T26 HR8.out ((i : Int) - 1) (by omega) (by omega)
   injection e1 with e1
   subst e1
   obtain ⟨p, hp⟩ : ∃ p, p = rd_T26 L ((i : Int) - 1) := ⟨_, rfl⟩
   rw [← hp] at vx0 vx1
   have HP := Aside0.mk (show prevOf L i = some p by unfold prevOf; rw [if_neg h0, hp])
   rw [show ((i : Int) - 1).toNat = i - 1 by omega] at vx0 vx1
   have z0 : w8.cell? (ad.add ((i - 1) * 3)) = some (.string p.f0) := vx0
   have z1 : w8.cell? ⟨(ad.add ((i - 1) * 3)).block, (ad.add ((i - 1) * 3)).off + 1, none⟩ = some (.int .i64 p.f1) := vx1
   have r1 := eq_true (show (1 : Int) ≤ (i : Int) by omega)
   have r1' := eq_true (show 1 ≤ i by omega)
   have r2 := eq_true (show (i : Int) - 1 < (L.length : Int) by omega)
   have r3 : IntKind.i64.wrap ((i : Int) - 1) = (i : Int) - 1 := by rw [Go.IntKind.wrap_i64]; omega
   have tok : Aside0 ((befE p e && tOkFrom (some e) (L.drop (i + 1))) = R) := ⟨by
    have := HX.out.2.2
    rw [rd_drop L i NX.out, ← HE.out, HP.out] at this
    rw [← this]
    simp only [tOkFrom]
    rw [HVE.out, Bool.true_and]⟩
   clear hp vx0 vx1 vx2 h0
   by_cases h1 : e.f1 < p.f1
   ·
    have t1 : decide (e.f1 < p.f1) = true := decide_eq_true h1
    have hb : befE p e = false := by unfold befE; rw [if_neg (by omega), if_neg (by omega)]
    rw [hb, Bool.false_and] at tok
    have hRf := tok.out.symm
    subst hRf
    clear h1 hb
    go_quiet (fail)
    go_wp2
    go_ret2
    exact ⟨none, rfl, (fun h => by cases h), pw_below_drewN HB9.out _⟩
   have t1 : decide (e.f1 < p.f1) = false := decide_eq_false h1
   by_cases h2 : e.f1 = p.f1
   ·
    have t2 : (e.f1 == p.f1) = true := by rw [beq_iff_eq]; exact h2
    have hb : befE p e = nmLt p.f0 e.f0 := by unfold befE; rw [if_neg (by omega), if_pos h2.symm]
    rw [hb] at tok
    have t3 := nmLt_tot e.f0 p.f0
    cases hA : Op.bytesLess e.f0.toList p.f0.toList
    ·
     cases hB : (e.f0.toList == p.f0.toList)
     ·
      rw [hA, hB] at t3
      have hn : nmLt p.f0 e.f0 = true := by cases h : nmLt p.f0 e.f0 <;> rw [h] at t3 <;> simp at t3 ⊢
      rw [hn] at tok
      have tok : Aside0 (tOkFrom (some e) (L.drop (i + 1)) = R) := ⟨by have := tok.out; rw [Bool.true_and] at this; exact this⟩
      have hle : ∀ w, (binOp .leq 9 (.string e.f0) (.string p.f0)).run Tryd.prog w = .ok (.bool false) w := fun w => by rw [leq_run, hA, hB]; rfl
      clear h1 h2 hb hn t3 hA hB
      go_quiet (fail)
      have HBt := Aside0.mk (pw_below_drewN HB9.out nq)
      have HTA := Aside0.mk (show TonAt (w8.drewN nq) w.heap.size M own F (fun k => (L.take i).filter (fun e => e.f1 == k)) from HTA8.out.below (pw_below_drewN (Below.refl _ _) _))
      have HGt := Aside0.mk (show Kd.C k74 (w8.drewN nq) A2 e.f2.length e.f2 from HG8.out)
      have Wt := Aside0.mk (show (w8.drewN nq).heap[g6]? = some (.cells #[.string e.f0, .int .i64 e.f1, .slice A2 e.f2.length c2] 26 (0, 0)) from W8.out)
      clear y0 y1 W8 HB9 HTA8 HG8 HR8
      try clear z0 z1
      generalize (w8.drewN nq) = w9 at HBt HTA HGt Wt ⊢
      obtain ⟨v0, hv0⟩ : ∃ v0, v0 = (F e.f1).getD (.slice none 0 0) := ⟨_, rfl⟩
      have HV0 := Aside0.mk hv0
      rw [← hv0] at NE6
      clear hv0
      have lkA : (Instr.lookup 43 (.map (some M)) (.int .i64 e.f1) false).run Tryd.prog w9.drew = .ok v0 w9.drew := by rw [HV0.out]; exact (HTA.out.below (below_drew1 (Below.refl _ _))).look e.f1
      have y0 : w9.drew.cell? ⟨g6, 0, none⟩ = some (.string e.f0) := (blk_cell Wt.out 0).trans rfl
      have y1 : w9.drew.cell? ⟨g6, 1, none⟩ = some (.int .i64 e.f1) := (blk_cell Wt.out 1).trans rfl
      have y2 : w9.drew.cell? ⟨g6, 2, none⟩ = some (.slice A2 e.f2.length c2) := (blk_cell Wt.out 2).trans rfl
      have HCP := Aside0.mk (show impl_Entry_copied.f e.f0 e.f1 e.f2 = some (e.f0, e.f1, e.f2) by unfold impl_Entry_copied.f impl_copiedTones.f; rw [if_pos hfl]; rfl)
      have HGD := Aside0.mk (show Kd.C k74 w9.drew A2 e.f2.length e.f2 from HGt.out)
      have HLL : (L.take i).length ≤ 20 := by rw [List.length_take]; omega
      obtain ⟨X, hX⟩ : ∃ X, X = (L.take i).filter (fun x => x.f1 == e.f1) := ⟨_, rfl⟩
      have hXl : X.length ≤ 20 := by rw [hX]; exact Nat.le_trans (List.length_filter_le _ _) HLL
      have HXX := Aside0.mk hX
      clear hX HLL
      go_upto_region 11 with fail
      go_region_held3 (fun w' => w'.cell? ⟨g6, 0, none⟩ = some (.string e.f0) ∧ w'.cell? ⟨g6, 1, none⟩ = some (.int .i64 e.f1) ∧ w'.cell? ⟨g6, 2, none⟩ = some (.slice A2 e.f2.length c2))
       (first
        | exact ⟨y0, y1, y2⟩
        | go_keep
        | exact ⟨pw_cell_below hb12 y0, pw_cell_below hb12 y1, pw_cell_below hb12 y2⟩
        | exact ⟨cell_grown hg13 (pw_cell_below hb12 y0) NE6.out, cell_grown hg13 (pw_cell_below hb12 y1) NE6.out, cell_grown hg13 (pw_cell_below hb12 y2) NE6.out⟩
        | exact ⟨cell_setBlock (cell_grown hg13 (pw_cell_below hb12 y0) NE6.out) NM6.out, cell_setBlock (cell_grown hg13 (pw_cell_below hb12 y1) NE6.out) NM6.out, cell_setBlock (cell_grown hg13 (pw_cell_below hb12 y2) NE6.out) NM6.out⟩
        | fail)
       (first
        | (go_at_call 19; (with_reducible refine (impl_Entry_copied.calls e.f0 e.f1 A2 c2 e.f2 e.f0 e.f1 e.f2 w9.drew HGD.out HL2.out HCP.out).mono ?_); rintro e_ w12 ⟨v2, rfl, ho2, hb12⟩; obtain ⟨Av, cv, rfl⟩ := Kd.R_slice ho2; have hbW : Below w9.heap.size w9 w12 := below_step (below_drew1 (Below.refl _ _)) hb12; have lkB := (HTA.out.below hbW).look e.f1; rw [← HV0.out] at lkB; have lkC := (HTA.out.below (below_step hbW (below_alloc (Below.refl _ _) (.cells #[.string e.f0, .int .i64 e.f1, .slice Av e.f2.length cv] 26 (0, 0))))).look e.f1; rw [← HV0.out] at lkC; have HM2 := Aside0.mk (k26_mkM w12 w.heap.size (fun b => w9.heap.size ≤ b) e (Kd.R_lower (Kd.R_mono (Kd.R_bound ho2) (fun b hb => hb.2.1)) HBt.out.size)); have HO12 := Aside0.mk (show Kd.S k26 26 w12 w.heap.size (fun b => ((own b = e.f1 ∧ b ≠ M) ∨ w9.heap.size ≤ b) ∧ ¬ w9.heap.size ≤ b) v0 X by (rw [HV0.out, HXX.out]; exact HTA.out.elder hbW e.f1)); have HBW := Aside0.mk hbW; clear ho2 hbW)
        | (refine Kd.S_append_step k26 (w0 := w) (W := w12) w.heap.size (by rfl) (.tmp 62) (.tmp 65) 23 26 (.agg #[.string ⟨#[]⟩, .int .i64 0, .slice none 0 0]) 48 (by rfl) Tryd.underlying23 info26 rfl (by decide) (by omega) v0 X e [.string e.f0, .int .i64 e.f1, .slice Av e.f2.length cv] (fun b => (own b = e.f1 ∧ b ≠ M) ∨ w9.heap.size ≤ b) (fun b => w9.heap.size ≤ b) (by rfl) (by rfl) HM2.out (fun b hb => ⟨.inr hb, by rw [HV0.out]; exact HTA.out.ne e.f1 b hb⟩) (fun b hb => .inr (Nat.le_trans HBW.out.size hb)) HO12.out (below_step HBt.out HBW.out) (below_step HBt.out HBW.out).size (by omega) ?_; intro v13 w13 ho13 hb13 hg13 _; obtain ⟨es, clk, hput, hmap⟩ := TonAt.append HTA.out HBW.out (by rw [← HV0.out]; exact hg13) ho13; have HMAP := Aside0.mk hmap; have HB13 := Aside0.mk hb13; clear hmap hb13 ho13)
        | fail)
      all_goals
       have HBE := Aside0.mk (below_setBlock HB13.out (show w.heap.size ≤ M by rw [HM.out]; exact Nat.le_refl _) (o := .map es clk))
       have HMX := Aside0.mk (HMAP.out.cong (G' := fun k => (L.take (i + 1)).filter (fun e => e.f1 == k)) (fun j => by rw [HXX.out, HE.out]; exact filt_next L i NX.out j))
       have NX2 : Aside0 (L.length - (i + 1) < gk ∧ (i + 1) ≤ L.length ∧ tOkFrom (prevOf L (i + 1)) (L.drop (i + 1)) = R) := ⟨by have h1 := HX.out.1; have h2 := NX.out; omega, NX.out, by rw [show prevOf L (i + 1) = some e by rw [HE.out]; exact prev_next L i]; exact tok.out⟩
       clear HB13 HMAP hput hg13 hb12
       generalize ChangeMaps.setBlock w13 M (.map es clk) = w14 at HBE HMX ⊢
       go_wp2
       go_roundg (L.length - (i + 1))
       case measure => exact NX2.out.1
       case rel => exact ⟨(i + 1), by first | rfl | (rw [HW.out]; rfl), ⟨rfl, NX2.out.2.1, NX2.out.2.2⟩, HMX, HBE⟩
     ·
      rw [hA, hB] at t3
      have hn : nmLt p.f0 e.f0 = false := by cases h : nmLt p.f0 e.f0 <;> rw [h] at t3 <;> simp at t3 ⊢
      have hRf : R = false := by have := tok.out; rw [hn, Bool.false_and] at this; exact this.symm
      subst hRf
      have hle : ∀ w, (binOp .leq 9 (.string e.f0) (.string p.f0)).run Tryd.prog w = .ok (.bool true) w := fun w => by rw [leq_run, hA, hB]; rfl
      clear h1 h2 hb hn t3 hA hB
      go_quiet (fail)
      go_wp2
      go_ret2
      exact ⟨none, rfl, (fun h => by cases h), pw_below_drewN HB9.out _⟩
    ·
     rw [hA] at t3
     have hn : nmLt p.f0 e.f0 = false := by cases h : nmLt p.f0 e.f0 <;> rw [h] at t3 <;> simp at t3 ⊢
     have hRf : R = false := by have := tok.out; rw [hn, Bool.false_and] at this; exact this.symm
     subst hRf
     have hle : ∀ w, (binOp .leq 9 (.string e.f0) (.string p.f0)).run Tryd.prog w = .ok (.bool true) w := fun w => by rw [leq_run, hA]; rfl
     clear h1 h2 hb hn t3 hA
     go_quiet (fail)
     go_wp2
     go_ret2
     exact ⟨none, rfl, (fun h => by cases h), pw_below_drewN HB9.out _⟩
   ·
    have t2 : (e.f1 == p.f1) = false := by rw [beq_eq_false_iff_ne]; exact h2
    have hb : befE p e = true := by unfold befE; rw [if_pos (by omega)]
    rw [hb] at tok
    have tok : Aside0 (tOkFrom (some e) (L.drop (i + 1)) = R) := ⟨by have := tok.out; rw [Bool.true_and] at this; exact this⟩
    clear h1 h2 hb
    go_quiet (fail)
    have HBt := Aside0.mk (pw_below_drewN HB9.out nq)
    have HTA := Aside0.mk (show TonAt (w8.drewN nq) w.heap.size M own F (fun k => (L.take i).filter (fun e => e.f1 == k)) from HTA8.out.below (pw_below_drewN (Below.refl _ _) _))
    have HGt := Aside0.mk (show Kd.C k74 (w8.drewN nq) A2 e.f2.length e.f2 from HG8.out)
    have Wt := Aside0.mk (show (w8.drewN nq).heap[g6]? = some (.cells #[.string e.f0, .int .i64 e.f1, .slice A2 e.f2.length c2] 26 (0, 0)) from W8.out)
    clear y0 y1 W8 HB9 HTA8 HG8 HR8
    try clear z0 z1
    generalize (w8.drewN nq) = w9 at HBt HTA HGt Wt ⊢
    obtain ⟨v0, hv0⟩ : ∃ v0, v0 = (F e.f1).getD (.slice none 0 0) := ⟨_, rfl⟩
    have HV0 := Aside0.mk hv0
    rw [← hv0] at NE6
    clear hv0
    have lkA : (Instr.lookup 43 (.map (some M)) (.int .i64 e.f1) false).run Tryd.prog w9.drew = .ok v0 w9.drew := by rw [HV0.out]; exact (HTA.out.below (below_drew1 (Below.refl _ _))).look e.f1
    have y0 : w9.drew.cell? ⟨g6, 0, none⟩ = some (.string e.f0) := (blk_cell Wt.out 0).trans rfl
    have y1 : w9.drew.cell? ⟨g6, 1, none⟩ = some (.int .i64 e.f1) := (blk_cell Wt.out 1).trans rfl
    have y2 : w9.drew.cell? ⟨g6, 2, none⟩ = some (.slice A2 e.f2.length c2) := (blk_cell Wt.out 2).trans rfl
    have HCP := Aside0.mk (show impl_Entry_copied.f e.f0 e.f1 e.f2 = some (e.f0, e.f1, e.f2) by unfold impl_Entry_copied.f impl_copiedTones.f; rw [if_pos hfl]; rfl)
    have HGD := Aside0.mk (show Kd.C k74 w9.drew A2 e.f2.length e.f2 from HGt.out)
    have HLL : (L.take i).length ≤ 20 := by rw [List.length_take]; omega
    obtain ⟨X, hX⟩ : ∃ X, X = (L.take i).filter (fun x => x.f1 == e.f1) := ⟨_, rfl⟩
    have hXl : X.length ≤ 20 := by rw [hX]; exact Nat.le_trans (List.length_filter_le _ _) HLL
    have HXX := Aside0.mk hX
    clear hX HLL
    go_upto_region 11 with fail
    go_region_held3 (fun w' => w'.cell? ⟨g6, 0, none⟩ = some (.string e.f0) ∧ w'.cell? ⟨g6, 1, none⟩ = some (.int .i64 e.f1) ∧ w'.cell? ⟨g6, 2, none⟩ = some (.slice A2 e.f2.length c2))
     (first
      | exact ⟨y0, y1, y2⟩
      | go_keep
      | exact ⟨pw_cell_below hb12 y0, pw_cell_below hb12 y1, pw_cell_below hb12 y2⟩
      | exact ⟨cell_grown hg13 (pw_cell_below hb12 y0) NE6.out, cell_grown hg13 (pw_cell_below hb12 y1) NE6.out, cell_grown hg13 (pw_cell_below hb12 y2) NE6.out⟩
      | exact ⟨cell_setBlock (cell_grown hg13 (pw_cell_below hb12 y0) NE6.out) NM6.out, cell_setBlock (cell_grown hg13 (pw_cell_below hb12 y1) NE6.out) NM6.out, cell_setBlock (cell_grown hg13 (pw_cell_below hb12 y2) NE6.out) NM6.out⟩
      | fail)
     (first
      | (go_at_call 19; (with_reducible refine (impl_Entry_copied.calls e.f0 e.f1 A2 c2 e.f2 e.f0 e.f1 e.f2 w9.drew HGD.out HL2.out HCP.out).mono ?_); rintro e_ w12 ⟨v2, rfl, ho2, hb12⟩; obtain ⟨Av, cv, rfl⟩ := Kd.R_slice ho2; have hbW : Below w9.heap.size w9 w12 := below_step (below_drew1 (Below.refl _ _)) hb12; have lkB := (HTA.out.below hbW).look e.f1; rw [← HV0.out] at lkB; have lkC := (HTA.out.below (below_step hbW (below_alloc (Below.refl _ _) (.cells #[.string e.f0, .int .i64 e.f1, .slice Av e.f2.length cv] 26 (0, 0))))).look e.f1; rw [← HV0.out] at lkC; have HM2 := Aside0.mk (k26_mkM w12 w.heap.size (fun b => w9.heap.size ≤ b) e (Kd.R_lower (Kd.R_mono (Kd.R_bound ho2) (fun b hb => hb.2.1)) HBt.out.size)); have HO12 := Aside0.mk (show Kd.S k26 26 w12 w.heap.size (fun b => ((own b = e.f1 ∧ b ≠ M) ∨ w9.heap.size ≤ b) ∧ ¬ w9.heap.size ≤ b) v0 X by (rw [HV0.out, HXX.out]; exact HTA.out.elder hbW e.f1)); have HBW := Aside0.mk hbW; clear ho2 hbW)
      | (refine Kd.S_append_step k26 (w0 := w) (W := w12) w.heap.size (by rfl) (.tmp 62) (.tmp 65) 23 26 (.agg #[.string ⟨#[]⟩, .int .i64 0, .slice none 0 0]) 48 (by rfl) Tryd.underlying23 info26 rfl (by decide) (by omega) v0 X e [.string e.f0, .int .i64 e.f1, .slice Av e.f2.length cv] (fun b => (own b = e.f1 ∧ b ≠ M) ∨ w9.heap.size ≤ b) (fun b => w9.heap.size ≤ b) (by rfl) (by rfl) HM2.out (fun b hb => ⟨.inr hb, by rw [HV0.out]; exact HTA.out.ne e.f1 b hb⟩) (fun b hb => .inr (Nat.le_trans HBW.out.size hb)) HO12.out (below_step HBt.out HBW.out) (below_step HBt.out HBW.out).size (by omega) ?_; intro v13 w13 ho13 hb13 hg13 _; obtain ⟨es, clk, hput, hmap⟩ := TonAt.append HTA.out HBW.out (by rw [← HV0.out]; exact hg13) ho13; have HMAP := Aside0.mk hmap; have HB13 := Aside0.mk hb13; clear hmap hb13 ho13)
      | fail)
    all_goals
     have HBE := Aside0.mk (below_setBlock HB13.out (show w.heap.size ≤ M by rw [HM.out]; exact Nat.le_refl _) (o := .map es clk))
     have HMX := Aside0.mk (HMAP.out.cong (G' := fun k => (L.take (i + 1)).filter (fun e => e.f1 == k)) (fun j => by rw [HXX.out, HE.out]; exact filt_next L i NX.out j))
     have NX2 : Aside0 (L.length - (i + 1) < gk ∧ (i + 1) ≤ L.length ∧ tOkFrom (prevOf L (i + 1)) (L.drop (i + 1)) = R) := ⟨by have h1 := HX.out.1; have h2 := NX.out; omega, NX.out, by rw [show prevOf L (i + 1) = some e by rw [HE.out]; exact prev_next L i]; exact tok.out⟩
     clear HB13 HMAP hput hg13 hb12
     generalize ChangeMaps.setBlock w13 M (.map es clk) = w14 at HBE HMX ⊢
     go_wp2
     go_roundg (L.length - (i + 1))
     case measure => exact NX2.out.1
     case rel => exact ⟨(i + 1), by first | rfl | (rw [HW.out]; rfl), ⟨rfl, NX2.out.2.1, NX2.out.2.2⟩, HMX, HBE⟩
  ·
   have d1 : decide ((i : Int) < (L.length : Int)) = false := decide_eq_false hi
   have d1' : decide (i < L.length) = false := decide_eq_false (by omega)
   have hiL : i = L.length := by have := HX.out.2.1; omega
   have hRt : R = true := by
    have := HX.out.2.2
    rw [hiL, List.drop_length] at this
    rw [← this]
    cases prevOf L L.length <;> rfl
   subst hRt
   have HF := Aside0.mk (show TonMap wr w.heap.size M (fun k => L.filter (fun e => e.f1 == k)) from HTM.out.cong (fun k => by rw [hiL, List.take_length]))
   clear hi hiL
   go_wp2
   go_ret2
   exact ⟨some M, rfl, (fun _ => ⟨M, rfl, HF.out⟩), HB.out⟩

end Go.Proofs.YtknfnmdfdkdipaaDoor.Pure
namespace Go.Proofs.YtknfnmdfdkdipaaDoor.Pure
set_option linter.unusedVariables false
set_option linter.unusedSimpArgs false
open Go Go.RowKit Go.Proofs.YtknfnmdfdkdipaaDoor.PFnTonaryAdd Go.Proofs.YtknfnmdfdkdipaaDoorW.PrintWords Go.Proofs.YtknfnmdfdkdipaaDoorW.PrintLast Go.Proofs.YtknfnmdfdkdipaaDoorW.PrintMore

section
open Classical in
theorem S_rows_tag {α : Type} {d : Kd α} {e base : Nat} {W : World} {v : Value} {A : Option Addr} {m c : Nat} {xs ys : List α} {ok okp : Nat → Prop} (HO : Kd.S d e W base (fun k => ok k ∧ ¬ okp k) v xs) (HY : Kd.S d e W base okp (.slice A m c) ys) :
 ∃ F : Nat → Nat, (Kd.tag F d).R e W base (fun k => ok k ∧ ¬ okp k) v xs.zipIdx ∧ ReadsRow ((Kd.tag F d).M W base okp) d.sz W A m (ys.zipIdx xs.length) := by
 obtain ⟨f, hf⟩ := HO
 obtain ⟨g, hg⟩ := HY
 refine ⟨fun k => if okp k then xs.length + g k else f k, Kd.R_tag hf (fun k hk _ => if_neg hk.2), ?_⟩
 obtain ⟨hm, _, hC⟩ := Kd.R_reads' hg
 rw [List.length_zipIdx] at hm
 refine ⟨by rw [List.length_zipIdx]; exact hm.symm, ?_, fun hpos => ?_⟩
 ·
  have := hC.2.1
  rw [List.length_zipIdx] at this
  omega
 obtain ⟨b, cap, hv, _⟩ := Kd.R_form hg (by rw [List.length_zipIdx]; omega)
 injection hv with h1 h2 h3
 subst h1
 refine ⟨_, rfl, fun j p hj => ?_⟩
 have hjl : j < ys.length := by
  have := (List.getElem?_eq_some_iff.1 hj).1
  rwa [List.length_zipIdx] at this
 obtain ⟨cs, hl, hM, hc, _⟩ := Kd.R_elem hg (ys[j], 0) (j : Int) (by omega) (by omega)
 have e1 : ys.zipIdx.getD ((j : Int)).toNat (ys[j], 0) = (ys[j], j) := by
  rw [Int.toNat_natCast, List.getD_eq_getElem?_getD, Kd.zip_at (List.getElem?_eq_getElem hjl)]; rfl
 rw [e1] at hM
 have e2 : p = (ys[j], xs.length + j) := by
  rw [List.getElem?_zipIdx, List.getElem?_eq_getElem hjl] at hj
  exact (Option.some.inj hj).symm
 rw [e2]
 refine ⟨cs, hl, ?_, fun i u hu => ?_⟩
 ·
  refine d.M_mono (fun k hk => ⟨hk.1.1, ?_⟩) hM
  show (if okp k then xs.length + g k else f k) = xs.length + j
  have h1 : okp k := hk.1.1
  have h2 : g k = j := hk.2
  rw [if_pos h1, h2]
 ·
  have := hc i u hu
  rw [Int.toNat_natCast] at this
  have e3 : (Addr.mk b 0 none).add (j * d.sz + i) = Addr.mk b (j * d.sz + i) none := by
   simp only [Addr.add]
   by_cases h0 : j * d.sz + i = 0
   ·
    simp [h0]
   ·
    have h1 : ¬ (j * d.sz = 0 ∧ i = 0) := fun h => h0 (by rw [h.1, h.2])
    simpa using h1
  rw [e3]; exact this
theorem zip_app {α : Type} (xs ys : List α) : xs.zipIdx ++ ys.zipIdx xs.length = (xs ++ ys).zipIdx := by rw [List.zipIdx_append, Nat.zero_add]
variable {P : Program} {ops : Array Oper} {rest : List Oper} {o : Oper} {a : Act} {Q : Exit → Act → World → Prop} {Kc : Act → World → Prop} {α : Type}
theorem S_append_rows (d : Kd α) {w0 W : World} (base : Nat) (hgd : o.guard = none) (s x : Operand) (t e : TypeId) (z : Value) (bytes : Nat)
 (ho : o.op = .call { callee := .builtin .append, args := #[s, x], argTypes := #[t, t] })
 (ht : P.underlying t = some (.slice e)) (hinfo : (P.info? e).map (fun i => (i.zero, i.size, i.bytes)) = some (some z, d.sz, bytes)) (hz : z.cells.size = d.sz) (hs0 : 0 < d.sz) (hb0 : 0 < bytes)
 (v : Value) (xs ys : List α) (A : Option Addr) (m c : Nat) (ok okp : Nat → Prop) (hs : a.eval s = v) (hx : a.eval x = .slice A m c)
 (HO : Kd.S d e W base (fun k => ok k ∧ ¬ okp k) v xs) (HY : Kd.S d e W base okp (.slice A m c) ys) (hokp : ∀ k, okp k → ok k) (hfresh : ∀ k, W.heap.size ≤ k → ok k)
 (HB : Below base w0 W) (hbase : base ≤ W.heap.size) (hl : (xs.length + m) * bytes ≤ 140737488355328)
 (h : ∀ v1 w1, Kd.S d e w1 base ok v1 (xs ++ ys) → Below base w0 w1 → W.grownBy w1 v.ownBlock → (v1.ownBlock = v.ownBlock ∨ ∃ b, v1.ownBlock = some b ∧ W.heap.size ≤ b) → wpList P ops Q rest (a.put o.dst v1) w1) :
 wpList P ops Q (o :: rest) a W := by
 obtain ⟨F, hR, hrow⟩ := S_rows_tag HO HY
 refine Kd.R_append_rows (Kd.tag F d) base hgd s x t e z bytes ho ht hinfo hz hs0 hb0 v xs.zipIdx (ys.zipIdx xs.length) A m c ok okp hs hx (Kd.R_mono hR (fun _ hk => hk.1)) hrow (fun _ _ hk => hk) (fun k hk => ⟨hokp k hk, fun e => (hR.1 k e.symm).2 hk⟩) hfresh HB hbase (by rw [List.length_zipIdx]; exact hl) ?_
 intro v1 w1 hr
 rw [zip_app] at hr
 exact h v1 w1 ⟨F, hr⟩
end

def catM (G : Int → List S26) : Nat → List S26
 | 0 => []
 | n + 1 => catM G n ++ G ((n : Int) + 1)
theorem catM_len {G : Int → List S26} {m : Nat} (h : ∀ k, (G k).length ≤ m) : ∀ n, (catM G n).length ≤ n * m
 | 0 => by simp [catM]
 | n + 1 => by
  have := catM_len h n
  have := h ((n : Int) + 1)
  simp only [catM, List.length_append]
  rw [Nat.succ_mul]; omega
set_option maxHeartbeats 2000000 in
set_option maxRecDepth 100000 in
theorem impl_list_calls (w0 w : World) (M : Nat) (G : Int → List S26) (hB : Below w0.heap.size w0 w) (hm : TonMap w w0.heap.size M G) (hl : ∀ k, (G k).length ≤ 1000) :
 Calls Tryd.prog 20 #[.map (some M)] w fun e w' => ∃ v, e = .returned v ∧ Kd.S k26 26 w' w0.heap.size (fun _ => True) v (catM G 8) ∧ Below w0.heap.size w0 w' := by
 obtain ⟨own, F, hta⟩ := hm
 have HTA := Aside0.mk hta
 have HB := Aside0.mk hB
 have HL := Aside0.mk hl
 have HC := Aside0.mk (catM_len hl)
 have hu1 := Tryd.underlying26
 clear hta hB hl
 go_enter Tryd.func20, Tryd.ntmps20
 go_wp2_with ((with_reducible refine gate_dst (N := 5) rfl ?_); refine Kd.S_lit k26 _ 26 ?hg (N := 5) ?hd (xs := ([] : List S26)) (inner := []) (ok := fun _ => True) (okp := fun _ => True) ?hr ?hp (fun _ hk => hk) trivial (Below.refl _ _) (Nat.le_refl _) (by simp) ?_; (case hd => rfl); (case hg => rfl); (case hr => first | (go_simp; done) | (go_simp; rfl)); (case hp => exact (Reps.none _ _)); intro v5 w5 ho5 hb hg_ hnew_; clear hg_ hnew_; have HO := Aside0.mk ho5; have HB5 := Aside0.mk hb; clear hb ho5)
 go_loopg [3, 4] 8 (fun kq v3 v4 w' => ∃ (n : Nat) (v : Value), v = v3 ∧ v4 = .int .i64 ((n : Int) + 1) ∧ Aside0 (kq = 8 - n ∧ n ≤ 8) ∧ Aside0 (Kd.S k26 26 w' w0.heap.size (fun b => w.heap.size ≤ b ∨ (b < w.heap.size ∧ 1 ≤ own b ∧ own b ≤ (n : Int) ∧ b ≠ M)) v (catM G n)) ∧ Aside0 (∀ b, v.ownBlock = some b → w.heap.size ≤ b) ∧ Aside0 (Below w.heap.size w w'))
 case atStart => exact ⟨0, _, rfl, rfl, ⟨by omega⟩, ⟨by (with_reducible repeat (first | apply Kd.S_alloc | apply Kd.S_drewN | apply Kd.S_drew)); exact Kd.S_lower (Kd.S_mono (Kd.S_bound HO.out) (fun k hk => .inl hk.2.1)) HB.out.size⟩, ⟨Kd.S_base HO.out⟩, ⟨by repeat (first | (with_reducible first | exact HB5.out | apply below_alloc | apply pw_below_drewN | apply below_drew1) | exact HB5.out)⟩⟩
 case round =>
  obtain ⟨n, v, rfl, rfl, HX, HO1, HOB, HB1⟩ := hrel
  obtain ⟨hkq, hn8⟩ := HX.out
  by_cases hn : n < 8
  ·
   have d1 : decide ((n : Int) + 1 ≤ 8) = true := decide_eq_true (by omega)
   have hrow := Kd.S_below (TonAt.bound (HTA.out.row ((n : Int) + 1))) HB1.out
   have hlk := (HTA.out.below HB1.out).look ((n : Int) + 1)
   obtain ⟨v0, hv0⟩ : ∃ v0, v0 = (F ((n : Int) + 1)).getD (.slice none 0 0) := ⟨_, rfl⟩
   rw [← hv0] at hrow hlk
   obtain ⟨A, c, rfl⟩ := Kd.S_slice hrow
   have HR := Aside0.mk hrow
   have hl1 := HL.out ((n : Int) + 1)
   have hl2 := HC.out n
   have hl3 : n * 1000 ≤ 8000 := by omega
   clear hrow hv0
   go_wp2_with ((with_reducible refine gate_builtin (b := .append) (xs := #[.tmp 10, .tmp 13]) rfl ?_); at_builtin; refine S_append_rows k26 (w0 := w0) w0.heap.size rfl (.tmp 10) (.tmp 13) 23 26 (.agg #[.string ⟨#[]⟩, .int .i64 0, .slice none 0 0]) 48 rfl Tryd.underlying23 info26 rfl (by decide) (by omega) v (catM G n) (G ((n : Int) + 1)) A _ c (fun b => w.heap.size ≤ b ∨ (b < w.heap.size ∧ 1 ≤ own b ∧ own b ≤ ((n + 1 : Nat) : Int) ∧ b ≠ M)) (fun b => (own b = (n : Int) + 1 ∧ b ≠ M) ∧ b < w.heap.size) rfl rfl ?aO HR.out ?aP ?aF ?aB ?aS (by omega) ?_; (case aO => exact Kd.S_mono HO1.out (fun b hb => ⟨by rcases hb with hb | hb; exact .inl hb; exact .inr ⟨hb.1, hb.2.1, by omega, hb.2.2.2⟩, fun h => by rcases hb with hb | hb; exact absurd h.2 (by omega); exact absurd h.1.1 (by omega)⟩)); (case aP => exact fun b hb => .inr ⟨hb.2, by omega, by omega, hb.1.2⟩); (case aF => exact fun b hb => .inl (Nat.le_trans HB1.out.size hb)); (case aB => exact below_step HB.out HB1.out); (case aS => exact Nat.le_trans HB.out.size HB1.out.size); intro v14 w14 ho14 hb14 hg14 hat14; have HO14 := Aside0.mk ho14; have HOB14 : Aside0 (∀ b, v14.ownBlock = some b → w.heap.size ≤ b) := ⟨fun b hb => by rcases hat14 with h | ⟨b', h, h'⟩; exact HOB.out b (h ▸ hb); rw [hb] at h; cases h; exact Nat.le_trans HB1.out.size h'⟩; have HB14 := Aside0.mk (pw_below_grown HB1.out _ HB1.out.size hg14 HOB.out); clear ho14 hb14 hg14 hat14)
   go_roundg (8 - (n + 1))
   case measure => omega
   case rel => exact ⟨n + 1, _, rfl, by first | rfl | simp, ⟨by omega⟩, HO14, HOB14, HB14⟩
  ·
   have d1 : decide ((n : Int) + 1 ≤ 8) = false := decide_eq_false (by omega)
   obtain rfl : n = 8 := by omega
   go_wp2
   go_ret
   exact ⟨_, rfl, Kd.S_mono HO1.out (fun _ _ => trivial), below_step HB.out HB1.out⟩

end Go.Proofs.YtknfnmdfdkdipaaDoor.Pure
namespace Go.Proofs.YtknfnmdfdkdipaaDoor.Pure
set_option linter.unusedVariables false
set_option linter.unusedSimpArgs false
open Go Go.RowKit Go.Proofs.YtknfnmdfdkdipaaDoor.PFnTonaryAdd Go.Proofs.YtknfnmdfdkdipaaDoorW.PrintWords Go.Proofs.YtknfnmdfdkdipaaDoorW.PrintLast Go.Proofs.YtknfnmdfdkdipaaDoorW.PrintMore

set_option maxHeartbeats 1000000 in
set_option maxRecDepth 100000 in
theorem cmpString_calls (a b : ByteArray) (w : World) :
 Calls Tryd.prog 45 #[.string a, .string b] w fun e w' => e = .returned (.int .i64 (Lib.compareBytes a.data.toList b.data.toList)) ∧ w' = w := by
 go_enter Tryd.func45, Tryd.ntmps45
 go_wp2
 rw [run_callFunc_extern Tryd.func53 (by kernel_rfl) (by kernel_rfl) (by kernel_rfl) (e := Extern.BytealgCompare.compare) (by kernel_rfl), Lib.run_compareString]
 simp only [Result.andThen]
 rw [Oper.upon_value]
 go_wp2
 go_ret
 exact ⟨rfl, rfl⟩
set_option maxHeartbeats 1000000 in
theorem compare_calls (a b : ByteArray) (w : World) :
 Calls Tryd.prog 35 #[.string a, .string b] w fun e w' => e = .returned (.int .i64 (Lib.compareBytes a.data.toList b.data.toList)) ∧ w' = w := by
 go_enter Tryd.func35, Tryd.ntmps35
 go_wp2_with (go_at_call 45; refine (cmpString_calls _ _ _).mono ?_; rintro e w' ⟨rfl, rfl⟩)
 go_ret
 exact ⟨rfl, rfl⟩
set_option maxHeartbeats 1000000 in
set_option maxRecDepth 100000 in
theorem findCmp_calls (a : ByteArray) (m : Int) (v : Value) (nm : ByteArray) (w : World) :
 Calls Tryd.prog 34 #[.agg #[.string a, .int .i64 m, v], .string nm] w fun r w' => r = .returned (.int .i64 (Lib.compareBytes a.data.toList nm.data.toList)) ∧ Below w.heap.size w w' := by
 have hu1 := Tryd.underlying26
 go_enter Tryd.func34, Tryd.ntmps34
 go_wp2_with (first
  | ((with_reducible refine gate_dst (N := 2) rfl ?_); refine box_event ?hg (N := 2) ?hd (cs := #[.string a, .int .i64 m, v]) (t := 26) ?hr ?_; (case hd => rfl); (case hg => rfl); (case hr => first | (go_simp; done) | (go_simp; rfl)); intro gb hg w3 hbox hb; have hx0 : w3.cell? ⟨gb, 0, none⟩ = some (.string a) := (blk_cell hbox 0).trans rfl; have HB := Aside0.mk hb; clear hb hg)
  | (go_at_call 35; refine (compare_calls _ _ _).mono ?_; rintro e w' ⟨rfl, rfl⟩))
 go_ret
 exact ⟨rfl, HB.out⟩

def nmAt (X : List S26) (nm : ByteArray) : Nat := (X.takeWhile (fun e => nmLt e.f0 nm)).length
theorem cmp_lt : ∀ (a b : List UInt8), decide (Lib.compareBytes a b < 0) = decide (a < b)
 | [], [] => by simp [Lib.compareBytes]
 | [], y :: ys => by simp [Lib.compareBytes]
 | x :: xs, [] => by simp [Lib.compareBytes]
 | x :: xs, y :: ys => by
  have ih := cmp_lt xs ys
  unfold Lib.compareBytes
  by_cases h1 : x < y
  ·
   rw [if_pos h1]
   simp [List.cons_lt_cons_iff, h1]
  ·
   rw [if_neg h1]
   by_cases h2 : y < x
   ·
    rw [if_pos h2]
    have h3 : ¬ x = y := fun e => by subst e; exact absurd h2 (UInt8.lt_irrefl x)
    simp [List.cons_lt_cons_iff, h1, h3]
   ·
    rw [if_neg h2, ih]
    have h3 : x = y := by
     have a1 : ¬ x.toNat < y.toNat := fun h => h1 (UInt8.lt_iff_toNat_lt.2 h)
     have a2 : ¬ y.toNat < x.toNat := fun h => h2 (UInt8.lt_iff_toNat_lt.2 h)
     exact UInt8.toNat_inj.1 (by omega)
    subst h3
    simp [List.cons_lt_cons_iff]
theorem cmp_eq0 : ∀ (a b : List UInt8), (Lib.compareBytes a b = 0) ↔ a = b
 | [], [] => by simp [Lib.compareBytes]
 | [], y :: ys => by simp [Lib.compareBytes]
 | x :: xs, [] => by simp [Lib.compareBytes]
 | x :: xs, y :: ys => by
  have ih := cmp_eq0 xs ys
  unfold Lib.compareBytes
  by_cases h1 : x < y
  ·
   rw [if_pos h1]
   have h3 : ¬ x = y := fun e => by subst e; exact absurd h1 (UInt8.lt_irrefl x)
   simp [h3]
  ·
   rw [if_neg h1]
   by_cases h2 : y < x
   ·
    rw [if_pos h2]
    have h3 : ¬ x = y := fun e => by subst e; exact absurd h2 (UInt8.lt_irrefl x)
    simp [h3]
   ·
    rw [if_neg h2, ih]
    have h3 : x = y := by
     have a1 : ¬ x.toNat < y.toNat := fun h => h1 (UInt8.lt_iff_toNat_lt.2 h)
     have a2 : ¬ y.toNat < x.toNat := fun h => h2 (UInt8.lt_iff_toNat_lt.2 h)
     exact UInt8.toNat_inj.1 (by omega)
    simp [h3]

theorem nmLt_iff (a b : ByteArray) : nmLt a b = true ↔ a.toList < b.toList := by
 unfold nmLt
 rw [bytesLess_eq]
 exact decide_eq_true_iff
theorem nmLt_irrefl (a : ByteArray) : nmLt a a = false := by
 cases h : nmLt a a
 ·
  rfl
 ·
  exact absurd ((nmLt_iff a a).1 h) (List.lt_irrefl _)
theorem nmLt_trans {a b c : ByteArray} (h1 : nmLt a b = true) (h2 : nmLt b c = true) : nmLt a c = true :=
 (nmLt_iff a c).2 (List.lt_trans ((nmLt_iff a b).1 h1) ((nmLt_iff b c).1 h2))
theorem nm_eq_of {a b : ByteArray} (h1 : nmLt a b = false) (h2 : nmLt b a = false) : a = b := by
 refine Go.WideShapes.bytes_inj ?_
 rw [← Lib.toList_data, ← Lib.toList_data]
 have n1 : ¬ a.toList < b.toList := fun h => by rw [(nmLt_iff a b).2 h] at h1; cases h1
 have n2 : ¬ b.toList < a.toList := fun h => by rw [(nmLt_iff b a).2 h] at h2; cases h2
 exact List.le_antisymm (List.not_lt.1 n2) (List.not_lt.1 n1)
theorem befE_iff (p e : S26) : befE p e = true ↔ p.f1 < e.f1 ∨ (p.f1 = e.f1 ∧ nmLt p.f0 e.f0 = true) := by
 unfold befE
 by_cases h1 : p.f1 < e.f1
 ·
  simp [h1]
 ·
  by_cases h2 : p.f1 = e.f1
  ·
   simp [h2]
  ·
   simp [h1, h2]
theorem befE_trans {a b c : S26} (h1 : befE a b = true) (h2 : befE b c = true) : befE a c = true := by
 rw [befE_iff] at *
 rcases h1 with h1 | ⟨e1, h1⟩ <;> rcases h2 with h2 | ⟨e2, h2⟩
 ·
  exact .inl (by omega)
 ·
  exact .inl (by omega)
 ·
  exact .inl (by omega)
 ·
  exact .inr ⟨by omega, nmLt_trans h1 h2⟩
abbrev Srt (L : List S26) : Prop := L.Pairwise (fun a b => befE a b = true)
theorem tOk_iff : ∀ (L : List S26) (p : Option S26), tOkFrom p L = true ↔ ((∀ e ∈ L, entOk e = true) ∧ Srt L ∧ ∀ q, p = some q → ∀ e ∈ L, befE q e = true)
 | [], p => by
  have : tOkFrom p [] = true := by cases p <;> rfl
  rw [this]
  simp
 | e :: es, none => by
  simp only [tOkFrom]
  rw [Bool.and_eq_true, tOk_iff es (some e)]
  constructor
  ·
   rintro ⟨h1, h2, h3, h4⟩
   exact ⟨fun x hx => by rcases List.mem_cons.1 hx with rfl | hx; exact h1; exact h2 x hx, List.pairwise_cons.2 ⟨fun x hx => h4 e rfl x hx, h3⟩, fun q hq => by cases hq⟩
  ·
   rintro ⟨h1, h2, _⟩
   obtain ⟨h3, h4⟩ := List.pairwise_cons.1 h2
   exact ⟨h1 e List.mem_cons_self, fun x hx => h1 x (List.mem_cons_of_mem _ hx), h4, fun q hq x hx => by cases hq; exact h3 x hx⟩
 | e :: es, some p => by
  simp only [tOkFrom]
  rw [Bool.and_eq_true, Bool.and_eq_true, tOk_iff es (some e)]
  constructor
  ·
   rintro ⟨h1, h0, h2, h3, h4⟩
   exact ⟨fun x hx => by rcases List.mem_cons.1 hx with rfl | hx; exact h1; exact h2 x hx, List.pairwise_cons.2 ⟨fun x hx => h4 e rfl x hx, h3⟩, fun q hq x hx => by cases hq; rcases List.mem_cons.1 hx with rfl | hx; exact h0; exact befE_trans h0 (h4 e rfl x hx)⟩
  ·
   rintro ⟨h1, h2, h5⟩
   obtain ⟨h3, h4⟩ := List.pairwise_cons.1 h2
   exact ⟨h1 e List.mem_cons_self, h5 p rfl e List.mem_cons_self, fun x hx => h1 x (List.mem_cons_of_mem _ hx), h4, fun q hq x hx => by cases hq; exact h3 x hx⟩
theorem tonOk_iff (L : List S26) : tonOk L = true ↔ L.length ≤ 20 ∧ (∀ e ∈ L, entOk e = true) ∧ Srt L := by
 unfold tonOk
 rw [Bool.and_eq_true, tOk_iff, decide_eq_true_iff]
 constructor
 ·
  rintro ⟨h1, h2, h3, _⟩; exact ⟨h1, h2, h3⟩
 ·
  rintro ⟨h1, h2, h3⟩; exact ⟨h1, h2, h3, fun q hq => by cases hq⟩
theorem entOk_mode {e : S26} (h : entOk e = true) : 1 ≤ e.f1 ∧ e.f1 ≤ 8 := by
 unfold entOk at h
 rw [Bool.and_eq_true] at h
 unfold mOk at h
 exact of_decide_eq_true h.1
/-- a list that is sorted by modes is its modes' parts, one behind the other -/
theorem catM_filter (X : List S26) (hm : X.Pairwise (fun a b => a.f1 ≤ b.f1)) : ∀ n : Nat, (∀ e ∈ X, 1 ≤ e.f1) → catM (fun k => X.filter (fun e => e.f1 == k)) n = X.filter (fun e => decide (e.f1 ≤ (n : Int)))
 | 0, h => by
  symm
  rw [show catM (fun k => X.filter (fun e => e.f1 == k)) 0 = [] from rfl, List.filter_eq_nil_iff]
  intro e he
  have := h e he
  simp; omega
 | n + 1, h => by
  have ih := catM_filter X hm n h
  show catM _ n ++ X.filter (fun e => e.f1 == ((n : Int) + 1)) = _
  rw [ih]
  clear ih
  induction X with
  | nil => rfl
  | cons e X ih =>
   obtain ⟨h1, h2⟩ := List.pairwise_cons.1 hm
   have ih := ih h2 (fun x hx => h x (List.mem_cons_of_mem _ hx))
   by_cases c1 : e.f1 ≤ (n : Int)
   ·
    rw [List.filter_cons_of_pos (by simpa using c1), List.filter_cons_of_neg (by simp; omega), List.filter_cons_of_pos (by simp; omega), List.cons_append, ih]
   ·
    have hz : X.filter (fun e => decide (e.f1 ≤ (n : Int))) = [] := by
     rw [List.filter_eq_nil_iff]
     intro x hx
     have := h1 x hx
     simp; omega
    rw [List.filter_cons_of_neg (by simpa using c1), hz, List.nil_append]
    rw [hz, List.nil_append] at ih
    by_cases c2 : e.f1 = (n : Int) + 1
    ·
     rw [List.filter_cons_of_pos (by simp [c2]), List.filter_cons_of_pos (by simp; omega), ih]
    ·
     rw [List.filter_cons_of_neg (by simpa using c2), List.filter_cons_of_neg (by simp; omega), ih]
theorem srt_modes {L : List S26} (h : Srt L) : L.Pairwise (fun a b => a.f1 ≤ b.f1) :=
 List.Pairwise.imp (fun {a b} hab => by rw [befE_iff] at hab; omega) h
theorem catM_eq {X : List S26} (hs : Srt X) (hm : ∀ e ∈ X, 1 ≤ e.f1 ∧ e.f1 ≤ 8) : catM (fun k => X.filter (fun e => e.f1 == k)) 8 = X := by
 rw [catM_filter X (srt_modes hs) 8 (fun e he => (hm e he).1)]
 exact List.filter_eq_self.2 (fun e he => decide_eq_true (hm e he).2)
theorem catM_cong {G G' : Int → List S26} : ∀ n : Nat, (∀ k : Int, 1 ≤ k → k ≤ (n : Int) → G k = G' k) → catM G n = catM G' n
 | 0, _ => rfl
 | n + 1, h => by
  show catM G n ++ G ((n : Int) + 1) = catM G' n ++ G' ((n : Int) + 1)
  rw [catM_cong n (fun k h1 h2 => h k h1 (by omega)), h _ (by omega) (by omega)]
theorem srt_names {L : List S26} (h : Srt L) (mode : Int) : (L.filter (fun e => e.f1 == mode)).Pairwise (fun a b => nmLt a.f0 b.f0 = true) := by
 rw [List.pairwise_filter]
 refine List.Pairwise.imp (fun {a b} hab ha hb => ?_) h
 rw [befE_iff] at hab
 simp at ha hb
 rcases hab with h | h
 ·
  omega
 ·
  exact h.2
theorem rd_cons_succ (e : S26) (X : List S26) (i : Nat) : rd_T26 (e :: X) ((i + 1 : Nat) : Int) = rd_T26 X (i : Int) := by
 unfold rd_T26
 rw [Int.toNat_natCast, Int.toNat_natCast, List.getD_cons_succ]
theorem rd_cons_zero (e : S26) (X : List S26) : rd_T26 (e :: X) ((0 : Nat) : Int) = e := rfl
theorem nmAt_mono : ∀ (X : List S26), X.Pairwise (fun a b => nmLt a.f0 b.f0 = true) → ∀ (nm : ByteArray) (i : Nat), i < X.length → nmLt (rd_T26 X (i : Int)).f0 nm = decide (i < nmAt X nm)
 | [], _, nm, i, hi => absurd hi (Nat.not_lt_zero i)
 | e :: X, hp, nm, i, hi => by
  obtain ⟨h1, h2⟩ := List.pairwise_cons.1 hp
  cases he : nmLt e.f0 nm
  ·
   have h0 : nmAt (e :: X) nm = 0 := by unfold nmAt; rw [List.takeWhile_cons, he]; rfl
   rw [h0, decide_eq_false (Nat.not_lt_zero i)]
   cases i with
   | zero => exact he
   | succ i =>
    have hl : i < X.length := by simp at hi; omega
    rw [rd_cons_succ]
    cases hx : nmLt (rd_T26 X (i : Int)).f0 nm
    ·
     rfl
    ·
     have := nmLt_trans (h1 _ (rd_ent X i hl)) hx
     rw [this] at he; cases he
  ·
   have h0 : nmAt (e :: X) nm = nmAt X nm + 1 := by unfold nmAt; rw [List.takeWhile_cons, he]; rfl
   rw [h0]
   cases i with
   | zero => rw [rd_cons_zero, he, decide_eq_true (Nat.succ_pos _)]
   | succ i =>
    rw [rd_cons_succ, nmAt_mono X h2 nm i (by simp at hi; omega)]
    exact decide_eq_decide.2 (by omega)

theorem nmLt_dec (a b : ByteArray) : decide (Lib.compareBytes a.data.toList b.data.toList < 0) = nmLt a b := by
 rw [cmp_lt]
 unfold nmLt
 rw [bytesLess_eq, Lib.toList_data, Lib.toList_data]
theorem nmEq_dec (a b : ByteArray) : decide (Lib.compareBytes a.data.toList b.data.toList = 0) = decide (a = b) := by
 refine decide_eq_decide.2 ((cmp_eq0 _ _).trans ⟨fun h => ?_, fun h => by rw [h]⟩)
 exact Go.WideShapes.bytes_inj h
set_option maxHeartbeats 2000000 in
set_option maxRecDepth 100000 in
theorem bsearch_calls (X : List S26) (nm : ByteArray) (A0 : Option Addr) (c0 : Nat) (w : World) (hr0 : Kd.C k26 w A0 X.length X) (hc0 : X.length ≤ c0) (hl : X.length ≤ 1000) (hm : ∀ i : Nat, i < X.length → nmLt (rd_T26 X (i : Int)).f0 nm = decide (i < nmAt X nm)) :
 Calls Tryd.prog 33 #[.slice A0 X.length c0, .string nm, .func (.func 34) #[] #[]] w fun e w' => e = .returned (.tuple #[.int .i64 (nmAt X nm : Int), .bool (decide (nmAt X nm < X.length) && decide ((rd_T26 X (nmAt X nm : Int)).f0 = nm))]) ∧ Below w.heap.size w w' := by
 have hu1 := Tryd.underlying26
 have HR0 := Aside0.mk hr0
 have HC0 := Aside0.mk hc0
 have HM := Aside0.mk hm
 have hs : nmAt X nm ≤ X.length := (List.takeWhile_prefix _).length_le
 obtain ⟨s, hs0⟩ : ∃ s, s = nmAt X nm := ⟨_, rfl⟩
 rw [← hs0] at hs ⊢
 have HS := Aside0.mk hs0
 clear hr0 hc0 hm hs0
 go_enter Tryd.func33, Tryd.ntmps33
 go_wp2
 go_loopg [9, 10, 11] X.length (fun kq v9 v10 v11 w' => ∃ (i j : Nat), v9 = .int .i64 (i : Int) ∧ v10 = .int .i64 (j : Int) ∧ Aside0 (kq = j - i ∧ i ≤ s ∧ s ≤ j ∧ j ≤ X.length) ∧ Aside0 (Below w.heap.size w w'))
 case atStart => exact ⟨0, X.length, rfl, rfl, ⟨by omega⟩, ⟨by repeat (first | exact Below.refl _ _ | apply below_alloc | apply pw_below_drewN | apply below_drew1)⟩⟩
 case round =>
  obtain ⟨i, j, rfl, rfl, HX, HB1⟩ := hrel
  obtain ⟨hkq, hi, hj, hjX⟩ := HX.out
  by_cases hij : (i : Int) < (j : Int)
  ·
   have d1 : decide ((i : Int) < (j : Int)) = true := decide_eq_true hij
   obtain ⟨h, hh⟩ : ∃ h : Nat, ((i : Int) + (j : Int)) / 2 = (h : Int) := ⟨(i + j) / 2, by omega⟩
   have hih : i ≤ h ∧ h < j := by omega
   have hlt : (h : Int) < (X.length : Int) := by omega
   have p0 : (0 : Int) ≤ (h : Int) := by omega
   obtain ⟨ad, A2, c2, e0, ux0, ux1, ux2, hl2, hg2⟩ := at_T26 (Kd.C_below HR0.out HB1.out) (h : Int) p0 hlt
   subst e0
   have hcmp := (nmLt_dec (rd_T26 X (h : Int)).f0 nm).trans (HM.out h (by omega))
   rw [← HS.out] at hcmp
   generalize rd_T26 X (h : Int) = e at ux0 ux1 ux2 hl2 hg2 hcmp
   simp only [Int.toNat_natCast] at ux0 ux1 ux2
   have HCMP := Aside0.mk hcmp
   clear hl2 hg2 hcmp
   have NX : Aside0 (gk = j - i ∧ i ≤ h ∧ h < j ∧ j ≤ X.length ∧ i ≤ s ∧ s ≤ j) := ⟨hkq, hih.1, hih.2, hjX, hi, hj⟩
   by_cases hsl : h < s
   ·
    have dc : decide (Lib.compareBytes e.f0.data.toList nm.data.toList < 0) = true := by rw [HCMP.out]; exact decide_eq_true hsl
    have HSL := Aside0.mk hsl
    clear hsl hkq hi hj hih
    go_wp2_with (go_at_call 34; refine (findCmp_calls _ _ _ nm _).mono ?_; rintro e_ w5 ⟨rfl, hb5⟩; have HB5 := Aside0.mk (below_step HB1.out hb5); clear hb5)
    go_roundg (j - (h + 1))
    case measure => have := NX.out; omega
    case rel => exact ⟨h + 1, j, by first | rfl | simp, rfl, ⟨by have h1 := NX.out; have h2 := HSL.out; omega⟩, HB5⟩
   ·
    have dc : decide (Lib.compareBytes e.f0.data.toList nm.data.toList < 0) = false := by rw [HCMP.out]; exact decide_eq_false hsl
    have HSL := Aside0.mk hsl
    clear hsl hkq hi hj hih
    go_wp2_with (go_at_call 34; refine (findCmp_calls _ _ _ nm _).mono ?_; rintro e_ w5 ⟨rfl, hb5⟩; have HB5 := Aside0.mk (below_step HB1.out hb5); clear hb5)
    go_roundg (h - i)
    case measure => have := NX.out; omega
    case rel => exact ⟨i, h, rfl, by first | rfl | simp, ⟨by have h1 := NX.out; have h2 := HSL.out; omega⟩, HB5⟩
  ·
   have d1 : decide ((i : Int) < (j : Int)) = false := decide_eq_false hij
   obtain rfl : i = j := by omega
   obtain rfl : i = s := by omega
   go_upto_region 8 with fail
   by_cases hlt : i < X.length
   ·
    have d2 : decide ((i : Int) < (X.length : Int)) = true := decide_eq_true (by omega)
    have d2' : decide (i < X.length) = true := decide_eq_true hlt
    have p0 : (0 : Int) ≤ (i : Int) := by omega
    have q0 : (i : Int) < (X.length : Int) := by omega
    obtain ⟨ad, A2, c2, e0, ux0, ux1, ux2, hl2, hg2⟩ := at_T26 (Kd.C_below HR0.out HB1.out) (i : Int) p0 q0
    subst e0
    have HQ : Aside0 ((Lib.compareBytes (rd_T26 X (i : Int)).f0.data.toList nm.data.toList == 0) = (decide (i < X.length) && decide ((rd_T26 X (i : Int)).f0 = nm))) := ⟨by rw [d2', Bool.true_and, ← nmEq_dec]; rfl⟩
    obtain ⟨e, he⟩ : ∃ e, e = rd_T26 X (i : Int) := ⟨_, rfl⟩
    rw [← he] at ux0 ux1 ux2
    simp only [Int.toNat_natCast] at ux0 ux1 ux2
    have HE := Aside0.mk he
    clear hl2 hg2 hkq hi hj hij he
    go_wp2_with (go_at_call 34; refine (findCmp_calls _ _ _ nm _).mono ?_; rintro e_ w5 ⟨rfl, hb5⟩; have HB5 := Aside0.mk (below_step HB1.out hb5); clear hb5)
    go_ret2
    exact ⟨by have h := HQ.out; rw [← HE.out] at h; rw [← HE.out]; exact congrArg (fun b => Ending.returned (.tuple #[.int .i64 (i : Int), .bool b])) h, HB5.out⟩
   ·
    have d2 : decide ((i : Int) < (X.length : Int)) = false := decide_eq_false (by omega)
    have d2' : decide (i < X.length) = false := decide_eq_false hlt
    have HQ : Aside0 (false = (decide (i < X.length) && decide ((rd_T26 X (i : Int)).f0 = nm))) := ⟨by rw [d2']; rfl⟩
    clear hkq hi hj hij
    go_wp2
    go_ret2
    exact ⟨congrArg (fun b => Ending.returned (.tuple #[.int .i64 (i : Int), .bool b])) HQ.out, HB1.out⟩

end Go.Proofs.YtknfnmdfdkdipaaDoor.Pure
namespace Go.Proofs.YtknfnmdfdkdipaaDoor.Pure
set_option linter.unusedVariables false
set_option linter.unusedSimpArgs false
open Go Go.RowKit Go.Proofs.YtknfnmdfdkdipaaDoor.PFnTonaryAdd Go.Proofs.YtknfnmdfdkdipaaDoorW.PrintWords Go.Proofs.YtknfnmdfdkdipaaDoorW.PrintLast Go.Proofs.YtknfnmdfdkdipaaDoorW.PrintMore

theorem drewN_grown (w : World) (n : Nat) (row : Option Nat) : w.grownBy (w.drewN n) row := ⟨rfl, rfl, rfl, Nat.le_refl _, fun _ _ _ => rfl⟩
theorem setRow_far {W : World} {g k : Nat} (cs : Array Value) (h : k ≠ g) : (W.setRow g cs).heap[k]? = W.heap[k]? := by
 simp [World.setRow, Array.getElem?_modify, show ¬ g = k from fun e => h e.symm]
theorem setRow_grown (W : World) (g : Nat) (cs : Array Value) : W.grownBy (W.setRow g cs) (some g) :=
 ⟨rfl, rfl, rfl, by simp [World.setRow], fun k _ hk => setRow_far cs (fun e => hk (by rw [e]))⟩
theorem R_tail {P : Program} {α : Type} {d : Kd α} {e base n c g : Nat} {ok : Nat → Prop} {W : World} {xs : List α} (HO : d.R e W base ok (.slice (some ⟨g, 0, none⟩) n c) xs) (news : List Value) (o : Nat) (ho : n * d.sz ≤ o) (hf : o + news.length ≤ c * d.sz) (hone : ∀ v ∈ news, v.oneCell' = true) :
 ∃ w1, (storeCells ⟨g, o, none⟩ news 0).run P W = .ok () w1 ∧ d.R e w1 base ok (.slice (some ⟨g, 0, none⟩) n c) xs ∧ W.grownBy w1 (some g) := by
 obtain ⟨hn, hnc, _⟩ := Kd.R_reads' HO
 obtain ⟨hok, inner, hown, hr⟩ := HO
 rcases hown.2 with ⟨hv, _⟩ | ⟨g', cap', cur, hv, hb, hh, hnc', hcm, hcs, htake⟩
 ·
  cases hv
 injection hv with ha _ hc
 injection ha with ha
 injection ha with hg
 subst hg; subst hc
 have hnm : xs.length * d.sz = n * d.sz := by rw [hn]
 have hst := run_storeCells_at P g o e news 0 cur W hh (by rw [hcs]; omega) hone
 refine ⟨_, hst, ⟨hok, inner, ⟨hown.1, .inr ⟨g, c, _, by rw [hn], hb, setRow_heap W g cur _ e _ hh, hnc', hcm, ?_, ?_⟩⟩, ?_⟩, setRow_grown _ _ _⟩
 ·
  rw [← hcs, List.size_toArray, List.length_append, List.length_append, List.length_take, List.length_drop, Array.length_toList]
  omega
 ·
  have h8 : n * d.sz ≤ (cur.toList.take (o + 0)).length := by rw [List.length_take, Array.length_toList]; omega
  have h9 : (cur.toList.take (o + 0) ++ news ++ cur.toList.drop (o + 0 + news.length)).take (n * d.sz) = cur.toList.take (n * d.sz) := by
   rw [List.append_assoc, List.take_append_of_le_length h8, List.take_take, Nat.min_eq_left (by omega)]
  rw [← hnm] at h9
  exact h9.trans htake
 ·
  exact hr.imp_ (fun p q hp => d.M_move (fun k hk => setRow_far _ (fun e => hk.2 (by rw [e]; simp [Value.ownBlock]))) hp)
theorem S_tail {P : Program} {α : Type} {d : Kd α} {e base n c g : Nat} {ok : Nat → Prop} {W : World} {xs : List α} (HO : Kd.S d e W base ok (.slice (some ⟨g, 0, none⟩) n c) xs) (news : List Value) (o : Nat) (ho : n * d.sz ≤ o) (hf : o + news.length ≤ c * d.sz) (hone : ∀ v ∈ news, v.oneCell' = true) :
 ∃ w1, (storeCells ⟨g, o, none⟩ news 0).run P W = .ok () w1 ∧ Kd.S d e w1 base ok (.slice (some ⟨g, 0, none⟩) n c) xs ∧ W.grownBy w1 (some g) := by
 obtain ⟨f, HR⟩ := HO
 obtain ⟨w1, h1, h2, h3⟩ := R_tail (P := P) HR news o ho hf hone
 exact ⟨w1, h1, ⟨f, h2⟩, h3⟩
theorem S_clear1 {P : Program} {α : Type} {d : Kd α} {t e base n c c2 g : Nat} {ty : TypeId} {ok : Nat → Prop} {W : World} {xs : List α} {z : Value} {zs : List Value} (ht : P.underlying t = some (.slice e)) (hz : ∀ w, (zeroValue e).run P w = .ok z w) (hzc : (Builtin.zeroCells z.cells 1).toList = zs) (hzl : zs.length = d.sz) (hone : ∀ v ∈ zs, v.oneCell' = true)
 (HO : Kd.S d e W base ok (.slice (some ⟨g, 0, none⟩) n c) xs) (hn : n < c) :
 ∃ w1, (Builtin.clear_ #[t] ty #[.slice (some ⟨g, n * d.sz, none⟩) 1 c2]).run P W = .ok (.tuple #[]) w1 ∧ Kd.S d e w1 base ok (.slice (some ⟨g, 0, none⟩) n c) xs ∧ W.grownBy w1 (some g) := by
 have h5 : (n + 1) * d.sz ≤ c * d.sz := Nat.mul_le_mul_right _ hn
 rw [Nat.succ_mul] at h5
 obtain ⟨w1, h1, h2, h3⟩ := S_tail (P := P) HO zs (n * d.sz) (Nat.le_refl _) (by omega) hone
 refine ⟨w1, ?_, h2, h3⟩
 simp [Builtin.clear_, run_underlying ht, hz, hzc, h1]
theorem wpList_clear_run {P : Program} {W w' : World} {ops : Array Oper} {rest : List Oper} {o : Oper} {a : Act} {Q : Exit → Act → World → Prop} (hgd : o.guard = none) (x : Operand) (t : TypeId)
 (ho : o.op = .call { callee := .builtin .clear, args := #[x], argTypes := #[t] }) (v : Value) (hx : a.eval x = v) {v' : Value}
 (hr : (Builtin.clear_ #[t] o.type #[v]).run P W = .ok v' w') (h : wpList P ops Q rest (a.put o.dst v') w') : wpList P ops Q (o :: rest) a W := by
 refine wpList_plain hgd fun K hK => ?_
 unfold Oper.wp execOp
 simp only [ho, resolve, invoke, builtin, Sem.run_bind, Sem.run_pure, Result.andThen_ok, List.map_toArray, List.map_cons, List.map_nil, hx, hr]
 exact hK _ _ h
theorem add_off (g o : Nat) : (Addr.mk g 0 none).add o = Addr.mk g o none := by
 unfold Addr.add
 split
 ·
  next h => rw [h]
 ·
  rw [Nat.zero_add]
theorem ent_zero (w : World) : (zeroValue 26).run Tryd.prog w = .ok (.agg #[.string ⟨#[]⟩, .int .i64 0, .slice none 0 0]) w := by kernel_rfl
set_option maxHeartbeats 2000000 in
set_option maxRecDepth 100000 in
theorem delete_calls (X : List S26) (g c i base : Nat) (ok : Nat → Prop) (w : World) (hO : Kd.S k26 26 w base ok (.slice (some ⟨g, 0, none⟩) X.length c) X) (hb : base ≤ w.heap.size) (hi : i < X.length) (hl : X.length ≤ 1000) (hcm : c ≤ maxLen) :
 Calls Tryd.prog 24 #[.slice (some ⟨g, 0, none⟩) X.length c, .int .i64 (i : Int), .int .i64 ((i : Int) + 1)] w fun e w' => e = .returned (.slice (some ⟨g, 0, none⟩) (X.length - 1) c) ∧ Kd.S k26 26 w' base ok (.slice (some ⟨g, 0, none⟩) (X.length - 1) c) (X.eraseIdx i) ∧ w.grownBy w' (some g) := by
 have hu1 := Tryd.underlying26
 have hc0 : X.length ≤ c := (Kd.S_reads' hO).2.1
 have HO := Aside0.mk hO
 have HB := Aside0.mk hb
 unfold maxLen at hcm
 clear hO hb
 obtain ⟨n, hn⟩ : ∃ n, n = X.length := ⟨_, rfl⟩
 have HN := Aside0.mk hn
 have HOn : Aside0 (Kd.S k26 26 w base ok (.slice (some ⟨g, 0, none⟩) n c) X) := ⟨by rw [hn]; exact HO.out⟩
 rw [← hn] at hi hl hc0 ⊢
 clear HO hn
 obtain ⟨p, hp⟩ : ∃ p, n - 1 = p := ⟨_, rfl⟩
 rw [hp]
 have HP := Aside0.mk hp
 have b0 : (0 : Int) ≤ (i : Int) := by omega
 have b1 : (i : Int) ≤ (i : Int) + 1 := by omega
 have b2 : (i : Int) + 1 ≤ (n : Int) := by omega
 have b3 : (n : Int) ≤ (c : Int) := by omega
 have b5 : (i : Int) ≤ (c : Int) := by omega
 have b6 : (i : Int) + 1 ≤ (c : Int) := by omega
 have b7 : (0 : Int) ≤ (i : Int) + 1 := by omega
 have b8 : (p : Int) ≤ (n : Int) := by omega
 have b9 : (0 : Int) ≤ (p : Int) := by omega
 have n1 : ¬ (c = p) := by omega
 have n2 : n - p = 1 := by omega
 have n3 : p < n := by omega
 have hpi : i ≤ p := by omega
 clear hp
 have b4 : ¬ ((i : Int) = (i : Int) + 1) := by omega
 go_enter Tryd.func24, Tryd.ntmps24
 go_upto_region 5 with fail
 by_cases hck : c = i + 1
 ·
  subst hck
  obtain rfl : n = i + 1 := by omega
  obtain rfl : p = i := by have := HP.out; omega
  go_region_held3 (fun _ => True) (trivial) (first
   | (refine Kd.S_delete_step k26 (w0 := w) base (by rfl) (.tmp 22) (.tmp 25) 23 26 (by rfl) Tryd.underlying23 (by have h := congrArg (Option.map (fun x => x.2.1)) info26; rw [Option.map_map] at h; exact h) (k := p) (n := p + 1) (g := g) (c := p + 1) (m := 0) (c2 := 0) (by rfl) (by rfl) (by rw [if_pos rfl]) (by omega) (Kd.S_drew HOn.out) hi (below_drew1 (Below.refl _ _)) HB.out ?_; intro w5 ho5 hb5 hg5; rw [HP.out] at ho5 ⊢; have HO5 := Aside0.mk ho5; have HG5 := Aside0.mk ((drewN_grown w 1 (some g)).trans hg5); clear ho5 hb5 hg5)
   | fail)
  obtain ⟨w6, hr6, ho6, hg6⟩ := S_clear1 (P := Tryd.prog) (t := 23) (e := 26) (ty := 0) (c2 := 1) Tryd.underlying23 ent_zero (zs := [.string ⟨#[]⟩, .int .i64 0, .slice none 0 0]) (by kernel_rfl) rfl (by decide) HO5.out (by omega)
  have HR6 := Aside0.mk hr6
  have HO6 := Aside0.mk ho6
  have HG6 := Aside0.mk (HG5.out.trans hg6)
  clear hr6 ho6 hg6
  go_wp2_with ((with_reducible refine gate_builtin (b := .clear) (xs := #[.tmp 31]) rfl ?_); refine wpList_clear_run rfl (.tmp 31) 23 rfl _ rfl HR6.out ?_)
  go_ret
  exact ⟨rfl, HO6.out, HG6.out⟩
 ·
  go_region_held3 (fun _ => True) (trivial) (first
   | (refine Kd.S_delete_step k26 (w0 := w) base (by rfl) (.tmp 22) (.tmp 25) 23 26 (by rfl) Tryd.underlying23 (by have h := congrArg (Option.map (fun x => x.2.1)) info26; rw [Option.map_map] at h; exact h) (k := i) (n := n) (g := g) (c := c) (m := n - (i + 1)) (c2 := c - (i + 1)) (by rfl) (by rfl) (by rw [if_neg hck, Option.map_some]; exact congrArg some (add_off g ((i + 1) * 3)).symm) rfl (Kd.S_drew HOn.out) hi (below_drew1 (Below.refl _ _)) HB.out ?_; intro w5 ho5 hb5 hg5; rw [HP.out] at ho5 ⊢; have HO5 := Aside0.mk ho5; have HG5 := Aside0.mk ((drewN_grown w 1 (some g)).trans hg5); clear ho5 hb5 hg5)
   | fail)
  obtain ⟨w6, hr6, ho6, hg6⟩ := S_clear1 (P := Tryd.prog) (t := 23) (e := 26) (ty := 0) (c2 := c - p) Tryd.underlying23 ent_zero (zs := [.string ⟨#[]⟩, .int .i64 0, .slice none 0 0]) (by kernel_rfl) rfl (by decide) HO5.out (by omega)
  have HR6 := Aside0.mk hr6
  have HO6 := Aside0.mk ho6
  have HG6 := Aside0.mk (HG5.out.trans hg6)
  clear hr6 ho6 hg6
  go_wp2_with ((with_reducible refine gate_builtin (b := .clear) (xs := #[.tmp 31]) rfl ?_); refine wpList_clear_run rfl (.tmp 31) 23 rfl _ rfl HR6.out ?_)
  go_ret
  exact ⟨rfl, HO6.out, HG6.out⟩

def nmHas (X : List S26) (nm : ByteArray) : Bool := decide (nmAt X nm < X.length) && decide ((rd_T26 X (nmAt X nm : Int)).f0 = nm)
theorem nmAt_le (X : List S26) (nm : ByteArray) : nmAt X nm ≤ X.length := (List.takeWhile_prefix _).length_le
set_option maxHeartbeats 1000000 in
set_option maxRecDepth 100000 in
theorem find_calls (w : World) (base M : Nat) (own : Nat → Int) (F : Int → Option Value) (G : Int → List S26) (mode : Int) (nm : ByteArray) (hta : TonAt w base M own F G) (hl : (G mode).length ≤ 1000) (hm : (G mode).Pairwise (fun a b => nmLt a.f0 b.f0 = true)) :
 Calls Tryd.prog 17 #[.map (some M), .int .i64 mode, .string nm] w fun e w' => e = .returned (.tuple #[.int .i64 (nmAt (G mode) nm : Int), .bool (nmHas (G mode) nm)]) ∧ Below w.heap.size w w' := by
 have lk := hta.look mode
 obtain ⟨A, c, hv, hc, hC⟩ := Kd.S_reads (hta.row mode)
 rw [hv] at lk
 have HB := Aside0.mk (bsearch_calls (G mode) nm A c w hC hc hl (nmAt_mono _ hm nm))
 clear hta hv hc hC hm
 go_enter Tryd.func17, Tryd.ntmps17
 go_wp2_with (go_at_call 33; refine HB.out.mono ?_; rintro e_ w5 ⟨rfl, hb5⟩; have HB5 := Aside0.mk hb5; clear hb5)
 go_ret2
 exact ⟨rfl, HB5.out⟩

def entSz (L : List S26) : Bool := L.all fun e => decide (e.f0.size ≤ 9000000000000000 ∧ e.f2.length ≤ 1000000000000)
theorem entSz_all {L : List S26} (h : entSz L = true) : ∀ e ∈ L, e.f0.size ≤ 9000000000000000 ∧ e.f2.length ≤ 1000000000000 := fun e he => of_decide_eq_true (List.all_eq_true.1 h e he)

theorem run_zeros_grow {P : Program} (w : World) (t ti ty e : TypeId) (i0 : TypeInfo) (z : Value) (ht : P.underlying t = some (.slice e)) {k : IntKind} (hti : P.underlying ti = some (.int k)) (hi : P.info? e = some i0) (hz : i0.zero = some z) (hsz : 0 < i0.size)
 (g n m cap : Nat) (xs : List Value) (hx : xs.length = n * i0.size) (hcells : ∀ j u, xs[j]? = some u → w.cell? ((⟨g, 0, none⟩ : Addr).add j) = some u) (kx : IntKind) (hm : 0 < m) (hcap : cap < n + m) (h63 : n + m ≤ 1000000) (hbytes : (n + m) * i0.bytes ≤ 140737488355328) :
 (Builtin.append_ #[t, ti] ty #[.slice (some ⟨g, 0, none⟩) n cap, .int kx (m : Int)]).run P w =
  .ok (.slice (some ⟨w.heap.size, 0, none⟩) (n + m) (grownCap w (n + m) cap e)) (w.drew.alloc (.cells (xs.toArray ++ Builtin.zeroCells z.cells m ++ Builtin.zeroCells z.cells (grownCap w (n + m) cap e - (n + m))) e)) := by
 have hfo := run_firstCells_some (P := P) w.drew i0.size n ⟨g, 0, none⟩ n cap xs hx (by simpa using hcells)
 have hw : IntKind.i64.wrap (m : Int) = m := by rw [IntKind.wrap_i64]; omega
 have hneg : ¬ ((m : Int) < 0) := by omega
 have hmb : m * i0.bytes ≤ 140737488355328 := Nat.le_trans (Nat.mul_le_mul_right _ (Nat.le_add_left m n)) hbytes
 have hbig : ¬ (281474976710656 < (m : Int) * (i0.bytes : Int)) := by
  rw [← Int.natCast_mul]
  omega
 have hn : ¬ (n + m ≤ cap) := by omega
 have h63' : ¬ (9223372036854775807 < ((n : Int) + (m : Int))) := by omega
 have hfit := growslice_fits hcap hbytes
 have h48' : ¬ (281474976710656 < Builtin.nextslicecap (n + m) cap * i0.bytes) := by omega
 have hmz : ¬ (m * i0.size = 0) := Nat.mul_ne_zero (by omega) (by omega)
 simp [Builtin.append_, run_underlying ht, run_underlying hti, sizeOf, typeInfo, zeroValue, hi, hz, asInt, asIntOf, hw, hneg, hbig, hn, h63', h48', Question.forced, hfo, newRow, grownCap, hmz]
theorem run_copy_row {P : Program} (W : World) (t ty e : TypeId) (g o dl dc sl sc k : Nat) (a : Addr) (cs : List Value) (cur : Array Value) (ht : P.underlying t = some (.slice e)) {sz : Nat} (hsz : (P.info? e).map (·.size) = some sz)
 (hk : Nat.min sl dl = k) (hcs : cs.length = k * sz) (hld : ∀ j u, cs[j]? = some u → W.cell? (a.add j) = some u) (hh : W.heap[g]? = some (.cells cur e (0, 0))) (hf : o + cs.length ≤ cur.size) (h1 : ∀ u ∈ cs, u.oneCell' = true) :
 (Builtin.copy_ #[t, t] ty #[.slice (some ⟨g, o, none⟩) dl dc, .slice (some a) sl sc]).run P W = .ok (goInt k) (W.setRow g (cur.toList.take o ++ cs ++ cur.toList.drop (o + cs.length)).toArray) := by
 obtain ⟨i0, hi, hisz⟩ := Option.map_eq_some_iff.1 hsz
 have hl := run_loadCells_list (P := P) W a cs hld
 have hst := run_storeCells_at P g o e cs 0 cur W hh (by omega) h1
 simp only [Nat.add_zero] at hst
 rw [hcs] at hl
 simp [Builtin.copy_, run_underlying ht, Builtin.lenOf, Builtin.firstCells, sizeOf, typeInfo, hi, hisz, hk, hl, hst]
theorem wpList_copy_run2 {P : Program} {W w' : World} {ops : Array Oper} {rest : List Oper} {o : Oper} {a : Act} {Q : Exit → Act → World → Prop} (hgd : o.guard = none) (d s : Operand) (t : TypeId)
 (ho : o.op = .call { callee := .builtin .copy, args := #[d, s], argTypes := #[t, t] }) (v u : Value) (hd : a.eval d = v) (hs : a.eval s = u) {v' : Value}
 (hr : (Builtin.copy_ #[t, t] o.type #[v, u]).run P W = .ok v' w') (h : wpList P ops Q rest (a.put o.dst v') w') : wpList P ops Q (o :: rest) a W := by
 refine wpList_plain hgd fun K hK => ?_
 unfold Oper.wp execOp
 simp only [ho, resolve, invoke, builtin, Sem.run_bind, Sem.run_pure, Result.andThen_ok, List.map_toArray, List.map_cons, List.map_nil, hd, hs, hr]
 exact hK _ _ h
theorem step_copy_run2 {P : Program} {ops : Array Oper} {o : Oper} {a : Act} {W w' : World} {Kc : Act → World → Prop} {Q : Exit → Act → World → Prop} (hw : Region.wanted o (yielded ops a.tmps) = true) (d s : Operand) (t : TypeId)
 (ho : o.op = .call { callee := .builtin .copy, args := #[d, s], argTypes := #[t, t] }) (v u : Value) (hd : a.eval d = v) (hs : a.eval s = u) {v' : Value}
 (hr : (Builtin.copy_ #[t, t] o.type #[v, u]).run P W = .ok v' w') (h : Kc (a.put o.dst v') w') : if Region.wanted o (yielded ops a.tmps) = true then Oper.wp P o a W Kc Q else Kc (a.put o.dst undef) W := by
 rw [if_pos hw]
 unfold Oper.wp execOp
 simp only [ho, resolve, invoke, builtin, Sem.run_bind, Sem.run_pure, Result.andThen_ok, List.map_toArray, List.map_cons, List.map_nil, hd, hs, hr]
 exact h
theorem row_cells {W : World} {g : Nat} {cur : Array Value} {e : TypeId} (hh : W.heap[g]? = some (.cells cur e (0, 0))) (o : Nat) (cs : List Value) (h : ∀ j u, cs[j]? = some u → cur.toList[o + j]? = some u) : ∀ j u, cs[j]? = some u → W.cell? ((⟨g, o, none⟩ : Addr).add j) = some u := by
 intro j u hj
 rw [Addr.add_lit, cell_of_row W g _ cur e (0, 0) hh, ← Array.getElem?_toList]
 exact h j u hj
/-- in place: what stands behind is moved on, then the new cells are laid -/
theorem ins_shift (L a r b : List Value) (n3 i3 : Nat) (ha : a = (L.take n3).take i3) (hb : b = (L.take n3).drop i3) (hi : i3 ≤ n3) (hr : r.length = 3) (hl : n3 + 3 ≤ L.length) :
 (((L.take (i3 + 3) ++ b ++ L.drop (i3 + 3 + b.length)).take i3 ++ r ++ (L.take (i3 + 3) ++ b ++ L.drop (i3 + 3 + b.length)).drop (i3 + r.length)).take (n3 + 3)) = a ++ r ++ b := by
 have hbl : b.length = n3 - i3 := by rw [hb, List.length_drop, List.length_take]; omega
 have h1 : (L.take (i3 + 3) ++ b ++ L.drop (i3 + 3 + b.length)).take i3 = a := by
  rw [List.append_assoc, List.take_append_of_le_length (by rw [List.length_take]; omega), List.take_take, ha, List.take_take, Nat.min_eq_left (by omega), Nat.min_eq_left (by omega)]
 have h2 : (L.take (i3 + 3) ++ b ++ L.drop (i3 + 3 + b.length)).drop (i3 + r.length) = b ++ L.drop (i3 + 3 + b.length) := by
  rw [List.append_assoc, hr]
  exact List.drop_left' (by rw [List.length_take]; omega)
 rw [h1, h2, ← List.append_assoc]
 exact List.take_left' (by rw [List.length_append, List.length_append, hr, hbl, ha, List.length_take, List.length_take]; omega)
/-- a new row: the new cells, then what stands behind -/
theorem ins_grow (a r b Z : List Value) (i3 : Nat) (ha : a.length = i3) (hr : r.length = 3) (hZ : 3 + b.length ≤ Z.length) :
 ((((a ++ Z).take i3 ++ r ++ (a ++ Z).drop (i3 + r.length)).take (i3 + 3) ++ b ++ ((a ++ Z).take i3 ++ r ++ (a ++ Z).drop (i3 + r.length)).drop (i3 + 3 + b.length)).take (i3 + 3 + b.length)) = a ++ r ++ b := by
 have h1 : (a ++ Z).take i3 = a := List.take_left' ha
 have h2 : (a ++ r ++ (a ++ Z).drop (i3 + r.length)).take (i3 + 3) = a ++ r := List.take_left' (by rw [List.length_append, ha, hr])
 rw [h1, h2]
 exact List.take_left' (by rw [List.length_append, List.length_append, ha, hr])

end Go.Proofs.YtknfnmdfdkdipaaDoor.Pure
namespace Go.Proofs.YtknfnmdfdkdipaaDoor.Pure
set_option linter.unusedVariables false
set_option linter.unusedSimpArgs false
open Go Go.RowKit Go.Proofs.YtknfnmdfdkdipaaDoor.PFnTonaryAdd Go.Proofs.YtknfnmdfdkdipaaDoorW.PrintWords Go.Proofs.YtknfnmdfdkdipaaDoorW.PrintLast Go.Proofs.YtknfnmdfdkdipaaDoorW.PrintMore

def InsOut (w : World) (base n i : Nat) (v : Value) (inner r : List Value) (e : Ending) (w' : World) : Prop :=
 ∃ v', e = .returned v' ∧ w'.ownsRow base 26 3 v' (n + 1) (inner.take (i * 3) ++ r ++ inner.drop (i * 3)) ∧ w.grownBy w' v.ownBlock ∧ (v'.ownBlock = v.ownBlock ∨ ∃ b, v'.ownBlock = some b ∧ w.heap.size ≤ b)
theorem ent_parts : ∃ i0 : TypeInfo, Tryd.prog.info? 26 = some i0 ∧ i0.zero = some (.agg #[.string ⟨#[]⟩, .int .i64 0, .slice none 0 0]) ∧ i0.size = 3 ∧ i0.bytes = 48 := by
 obtain ⟨i0, hi, hzz⟩ := Option.map_eq_some_iff.1 info26
 simp only [Prod.mk.injEq] at hzz
 exact ⟨i0, hi, hzz.1, hzz.2.1, hzz.2.2⟩
theorem ent_sz : (Tryd.prog.info? 26).map (·.size) = some 3 := by
 obtain ⟨i0, hi, _, h, _⟩ := ent_parts
 rw [hi, Option.map_some, h]
theorem news_at {w : World} {gb : Nat} {r : List Value} (hr : w.heap[gb]? = some (.cells r.toArray 26 (0, 0))) : ∀ j u, r[j]? = some u → w.cell? ((⟨gb, 0, none⟩ : Addr).add j) = some u :=
 row_cells hr 0 r (fun j u h => by rw [Nat.zero_add]; simpa using h)
set_option maxHeartbeats 2000000 in
set_option maxRecDepth 100000 in
/-- at the end: an append -/
theorem insert_end (A : Option Addr) (n c gb base : Nat) (inner r : List Value) (w : World) (hown : w.ownsRow base 26 3 (.slice A n c) n inner) (hr : w.heap[gb]? = some (.cells r.toArray 26 (0, 0))) (hrl : r.length = 3) (hr1 : ∀ u ∈ r, u.oneCell' = true) (hn : n ≤ 1000) (hnc : n ≤ c) (hbase : base ≤ w.heap.size) :
 Calls Tryd.prog 18 #[.slice A n c, .int .i64 (n : Int), .slice (some ⟨gb, 0, none⟩) 1 1] w (InsOut w base n n (.slice A n c) inner r) := by
 obtain ⟨i0, hi, hz0, hz1, hz2⟩ := ent_parts
 have HN := Aside0.mk (news_at hr)
 have HO := Aside0.mk hown
 have HR1 := Aside0.mk hr1
 have HB := Aside0.mk hbase
 have HI := Aside0.mk hi
 have HZ0 := Aside0.mk hz0
 have HZ1 := Aside0.mk hz1
 have HZ2 := Aside0.mk hz2
 have HL := Aside0.mk (show inner.length = n * 3 from hown.1)
 have b0 : (0 : Int) ≤ (n : Int) := by omega
 have b1 : (n : Int) ≤ (n : Int) := by omega
 have b2 : (n : Int) ≤ (c : Int) := by omega
 clear hown hr hr1 hbase hi hz0 hz1 hz2
 by_cases hcn : c = n
 all_goals
  go_enter Tryd.func18, Tryd.ntmps18
  go_wp2_with ((with_reducible refine gate_builtin (b := .append) (xs := #[.tmp 23, .tmp 24]) rfl ?_); at_builtin; refine wpList_append_own_at _ rfl (.tmp 23) (.tmp 24) 23 rfl base 26 i0 (.agg #[.string ⟨#[]⟩, .int .i64 0, .slice none 0 0]) 3 48 Tryd.underlying23 HI.out HZ0.out HZ1.out HZ2.out rfl (by decide) (.slice A n c) n inner rfl HO.out ⟨gb, 0, none⟩ 1 1 r rfl (by rw [hrl]) HN.out HR1.out (by unfold maxLen; omega) (by omega) HB.out ?_; intro v' w5 ho5 hg5 _ hat5; have HO5 := Aside0.mk ho5; have HG5 := Aside0.mk hg5; have HA5 := Aside0.mk hat5; clear ho5 hg5 hat5)
  go_ret
  refine ⟨v', rfl, ?_, HG5.out, ?_⟩
  ·
   rw [List.take_of_length_le (by rw [HL.out]; omega), List.drop_of_length_le (by rw [HL.out]; omega), List.append_nil]
   exact HO5.out
  ·
   rcases HA5.out with h | h
   ·
    exact .inl h
   ·
    exact .inr ⟨_, h, Nat.le_refl _⟩
set_option maxHeartbeats 4000000 in
set_option maxRecDepth 100000 in
/-- in the midst, and there is room: in place -/
theorem insert_room (g n c i gb base : Nat) (inner r : List Value) (cur : Array Value) (w : World) (hc : c ≤ maxLen) (hh : w.heap[g]? = some (.cells cur 26 (0, 0))) (hcs : cur.size = c * 3) (htk : cur.toList.take (n * 3) = inner) (hil : inner.length = n * 3) (h1 : ∀ u ∈ inner, u.oneCell' = true) (hr : w.heap[gb]? = some (.cells r.toArray 26 (0, 0))) (hrl : r.length = 3) (hr1 : ∀ u ∈ r, u.oneCell' = true) (hgb : gb ≠ g) (hi : i < n) (hn : n ≤ 1000) (hnc : n + 1 ≤ c) (hb : base ≤ g) :
 Calls Tryd.prog 18 #[.slice (some ⟨g, 0, none⟩) n c, .int .i64 (i : Int), .slice (some ⟨gb, 0, none⟩) 1 1] w (InsOut w base n i (.slice (some ⟨g, 0, none⟩) n c) inner r) := by
 obtain ⟨b, hbd⟩ : ∃ b, b = inner.drop (i * 3) := ⟨_, rfl⟩
 have hbl : b.length = (n - i) * 3 := by rw [hbd, List.length_drop, hil, Nat.sub_mul]
 have hnl : (n + 1) * 3 ≤ c * 3 := Nat.mul_le_mul_right _ hnc
 have hin : i * 3 + 3 ≤ n * 3 := by have := Nat.mul_le_mul_right 3 (show i + 1 ≤ n from hi); omega
 -- the first copy
 obtain ⟨cur1, hcur1⟩ : ∃ cur1 : Array Value, cur1 = (cur.toList.take (i * 3 + 3) ++ b ++ cur.toList.drop (i * 3 + 3 + b.length)).toArray := ⟨_, rfl⟩
 have hs1 : cur1.size = c * 3 := by
  rw [hcur1, List.size_toArray, List.length_append, List.length_append, List.length_take, List.length_drop, Array.length_toList, hcs, hbl, Nat.sub_mul]
  omega
 have hc1 : ∀ (dl sl dc sc : Nat), dl = n - i → sl = n + 1 - i → (Builtin.copy_ #[23, 23] 3 #[.slice (some ⟨g, (i + 1) * 3, none⟩) dl dc, .slice (some ⟨g, i * 3, none⟩) sl sc]).run Tryd.prog w.drew = .ok (goInt ((n - i : Nat) : Int)) (w.drew.setRow g cur1) := by
  intro dl sl dc sc hdl hsl
  subst hdl hsl
  rw [hcur1, Nat.succ_mul]
  refine run_copy_row (P := Tryd.prog) w.drew 23 3 26 g (i * 3 + 3) (n - i) dc (n + 1 - i) sc (n - i) ⟨g, i * 3, none⟩ b cur Tryd.underlying23 ent_sz (Nat.min_eq_right (by omega)) hbl ?_ hh ?_ ?_
  ·
   refine row_cells (W := w.drew) hh (i * 3) b (fun j u hj => ?_)
   rw [hbd, List.getElem?_drop] at hj
   rw [← htk, List.getElem?_take] at hj
   split at hj
   ·
    exact hj
   ·
    cases hj
  ·
   rw [hbl, hcs, Nat.sub_mul]; omega
  ·
   intro u hu
   rw [hbd] at hu
   exact h1 u (List.mem_of_mem_drop hu)
 -- the second
 obtain ⟨cur2, hcur2⟩ : ∃ cur2 : Array Value, cur2 = (cur1.toList.take (i * 3) ++ r ++ cur1.toList.drop (i * 3 + r.length)).toArray := ⟨_, rfl⟩
 have hs2 : cur2.size = c * 3 := by
  rw [hcur2, List.size_toArray, List.length_append, List.length_append, List.length_take, List.length_drop, Array.length_toList, hs1, hrl]
  omega
 obtain ⟨w1, hw1⟩ : ∃ w1, w1 = w.drew.setRow g cur1 := ⟨_, rfl⟩
 have hh1 : w1.heap[g]? = some (.cells cur1 26 (0, 0)) := by rw [hw1]; exact setRow_heap w.drew g cur _ 26 _ hh
 have hr1' : w1.heap[gb]? = some (.cells r.toArray 26 (0, 0)) := by rw [hw1]; exact (setRow_far (W := w.drew) cur1 hgb).trans hr
 have hc2 : ∀ (dl dc : Nat), dl = n + 1 - i → (Builtin.copy_ #[23, 23] 3 #[.slice (some ⟨g, i * 3, none⟩) dl dc, .slice (some ⟨gb, 0, none⟩) 1 1]).run Tryd.prog w1 = .ok (goInt 1) (w1.setRow g cur2) := by
  intro dl dc hdl
  subst hdl
  rw [hcur2]
  exact run_copy_row (P := Tryd.prog) w1 23 3 26 g (i * 3) (n + 1 - i) dc 1 1 1 ⟨gb, 0, none⟩ r cur1 Tryd.underlying23 ent_sz (Nat.min_eq_left (by omega)) (by rw [hrl]) (news_at hr1') hh1 (by rw [hrl, hs1]; omega) hr1
 -- what then stands there
 have hfin : cur2.toList.take ((n + 1) * 3) = inner.take (i * 3) ++ r ++ b := by
  rw [hcur2, hcur1, Nat.succ_mul]
  exact ins_shift cur.toList (inner.take (i * 3)) r b (n * 3) (i * 3) (by rw [htk]) (by rw [htk, hbd]) (by omega) hrl (by rw [Array.length_toList, hcs]; omega)
 have hov : ∀ lb cb, (callFunc 36 #[.slice (some ⟨gb, 0, none⟩) 1 1, .slice (some ⟨g, (i + 1) * 3, none⟩) lb cb]).run Tryd.prog w = .ok (.value (.bool false)) w := fun lb cb => by
  rw [run_callFunc_extern Tryd.func36 (by kernel_rfl) (by kernel_rfl) (by kernel_rfl) (e := Extern.SlicesOverlaps.overlaps #[23, 23] #[4]) (by kernel_rfl),
   Lib.run_overlaps_apart w 23 4 26 Tryd.underlying23 3 (fun w => by kernel_rfl) ⟨gb, 0, none⟩ ⟨g, (i + 1) * 3, none⟩ 1 1 lb cb hgb 26 26 r.toArray.size cur.size (by simp [World.shape?, hr]) (by simp [World.shape?, hh]) (by omega) (by simp [World.frozen?, hr]) (by simp [World.frozen?, hr])]
  rfl
 have HF := Aside0.mk hfin
 have HS2 := Aside0.mk hs2
 have HBD := Aside0.mk hbd
 have HC1 := Aside0.mk hc1
 have HC2 := Aside0.mk hc2
 have HW1 := Aside0.mk hw1
 have HH := Aside0.mk hh
 have HH1 := Aside0.mk hh1
 have HIL := Aside0.mk hil
 have HC := Aside0.mk hc
 have HBG := Aside0.mk hb
 have HRL := Aside0.mk hrl
 have HBL := Aside0.mk hbl
 unfold maxLen at hc
 have b0 : (0 : Int) ≤ (i : Int) := by omega
 have b1 : (i : Int) ≤ (n : Int) := by omega
 have b2 : (n : Int) ≤ (c : Int) := by omega
 have b3 : (n : Int) + 1 ≤ (c : Int) := by omega
 have b4 : ¬ ((i : Int) = (n : Int)) := by omega
 have b5 : ¬ ((c : Int) < (n : Int) + 1) := by omega
 have b6 : (0 : Int) ≤ (n : Int) + 1 := by omega
 have b7 : (0 : Int) ≤ (i : Int) + 1 := by omega
 have b8 : (i : Int) + 1 ≤ (n : Int) + 1 := by omega
 have b9 : (i : Int) ≤ (n : Int) + 1 := by omega
 have b10 : (i : Int) + 1 ≤ ((n + 1 : Nat) : Int) := by omega
 have b11 : ((n + 1 : Nat) : Int) ≤ (c : Int) := by omega
 have b12 : (i : Int) ≤ ((n + 1 : Nat) : Int) := by omega
 have n1 : ¬ (c = i) := by omega
 have n2 : ¬ (c = i + 1) := by omega
 have n3 : n + 1 - (i + 1) = n - i := by omega
 clear hfin hs2 hbd hc1 hc2 hw1 hh1 hil hb hcs htk h1 hr hr1 hr1' hs1 hcur1 hcur2 hh hrl hbl hgb hnl hin
 go_enter Tryd.func18, Tryd.ntmps18
 go_upto_region 15 with (simp only [hov])
 clear b3 b5 b6 b8 b9 b10 b11 b12 n3
 obtain ⟨N, hN⟩ : ∃ N, n + 1 = N := ⟨_, rfl⟩
 have e1 : (0 : Int) ≤ (i : Int) + 1 := by omega
 have e2 : (i : Int) + 1 ≤ (N : Int) := by omega
 have e3 : (N : Int) ≤ (c : Int) := by omega
 have e4 : (i : Int) + 1 ≤ (c : Int) := by omega
 have e5 : (i : Int) ≤ (N : Int) := by omega
 have hwr : IntKind.i64.wrap ((i : Int) + 1) = (i : Int) + 1 := by rw [IntKind.wrap_i64]; omega
 rw [hN]
 have HNN := Aside0.mk hN
 clear hN
 go_region_held3 (fun _ => True) (trivial) (first
  | (refine step_copy_run2 (by rfl) (.tmp 73) (.tmp 76) 23 (by rfl) _ _ (by rfl) (by rfl) (HC1.out _ _ _ _ (by have := HNN.out; omega) (by have := HNN.out; omega)) ?_)
  | fail)
 rw [← HW1.out]
 go_wp2_with ((with_reducible refine gate_builtin (b := .copy) (xs := #[.tmp 80, .tmp 81]) rfl ?_); refine wpList_copy_run2 rfl (.tmp 80) (.tmp 81) 23 rfl _ _ rfl rfl (HC2.out _ _ (by have := HNN.out; omega)) ?_)
 obtain rfl : N = n + 1 := HNN.out.symm
 go_ret
 refine ⟨_, rfl, ⟨?_, .inr ⟨g, c, cur2, rfl, HBG.out, setRow_heap w1 g cur1 _ 26 _ HH1.out, hnc, HC.out, HS2.out, ?_⟩⟩, ?_, .inl rfl⟩
 ·
  rw [← HBD.out, List.length_append, List.length_append, HRL.out, HBL.out, List.length_take, HIL.out, Nat.sub_mul]
  have := Nat.mul_le_mul_right 3 (show i + 1 ≤ n from hi)
  omega
 ·
  rw [← HBD.out]; exact HF.out
 ·
  have h1 : w.grownBy (w.drew) (some g) := drewN_grown w 1 (some g)
  have h2 := setRow_grown w.drew g cur1
  rw [← HW1.out] at h2
  exact (h1.trans h2).trans (setRow_grown w1 g cur2)
set_option maxHeartbeats 4000000 in
set_option maxRecDepth 100000 in
/-- in the midst, and there is no room: a new row -/
theorem insert_grow (g n c i gb base : Nat) (inner r : List Value) (cur : Array Value) (w : World) (hh : w.heap[g]? = some (.cells cur 26 (0, 0))) (hcs : cur.size = c * 3) (htk : cur.toList.take (n * 3) = inner) (hil : inner.length = n * 3) (h1 : ∀ u ∈ inner, u.oneCell' = true) (hr : w.heap[gb]? = some (.cells r.toArray 26 (0, 0))) (hrl : r.length = 3) (hr1 : ∀ u ∈ r, u.oneCell' = true) (hi : i < n) (hn : n ≤ 1000) (hnc : n ≤ c) (hcn : c < n + 1) (hbase : base ≤ w.heap.size) :
 Calls Tryd.prog 18 #[.slice (some ⟨g, 0, none⟩) n c, .int .i64 (i : Int), .slice (some ⟨gb, 0, none⟩) 1 1] w (InsOut w base n i (.slice (some ⟨g, 0, none⟩) n c) inner r) := by
 obtain ⟨i0, hi0, hz0, hz1, hz2⟩ := ent_parts
 obtain ⟨b, hbd⟩ : ∃ b, b = inner.drop (i * 3) := ⟨_, rfl⟩
 have hbl : b.length = (n - i) * 3 := by rw [hbd, List.length_drop, hil, Nat.sub_mul]
 obtain ⟨a, had⟩ : ∃ a, a = inner.take (i * 3) := ⟨_, rfl⟩
 have hin : i * 3 + 3 ≤ n * 3 := by have := Nat.mul_le_mul_right 3 (show i + 1 ≤ n from hi); omega
 have hal : a.length = i * 3 := by rw [had, List.length_take, hil]; omega
 obtain ⟨G, hG⟩ : ∃ G, G = w.heap.size := ⟨_, rfl⟩
 obtain ⟨C, hC⟩ : ∃ C, C = grownCap w (n + 1) c 26 := ⟨_, rfl⟩
 have hCn : n + 1 ≤ C := by rw [hC]; exact grownCap_ge w (n + 1) c 26
 have hCm : C ≤ maxLen := by rw [hC]; exact grownCap_le_maxLen w (n + 1) c 26 (by unfold maxLen; omega)
 have hgl : g < G := by rw [hG]; exact blk_lt hh
 have hbll : gb < G := by rw [hG]; exact blk_lt hr
 -- the append of zeros
 have hrun := run_zeros_grow (P := Tryd.prog) w 23 3 23 26 i0 _ Tryd.underlying23 Tryd.underlying3 hi0 hz0 (by rw [hz1]; decide) g i (n + 1 - i) c a (by rw [hal, hz1])
  (row_cells hh 0 a (fun j u hj => by
   rw [had, List.getElem?_take] at hj
   split at hj
   ·
    rw [← htk, List.getElem?_take] at hj
    split at hj
    ·
     rw [Nat.zero_add]; exact hj
    ·
     cases hj
   ·
    cases hj)) .i64 (by omega) (by omega) (by omega) (by rw [hz2]; omega)
 rw [show i + (n + 1 - i) = n + 1 by omega, ← hC, ← hG] at hrun
 obtain ⟨Z, hZ⟩ : ∃ Z, Z = (Builtin.zeroCells (Value.agg #[.string ⟨#[]⟩, .int .i64 0, .slice none 0 0]).cells (n + 1 - i) ++ Builtin.zeroCells (Value.agg #[.string ⟨#[]⟩, .int .i64 0, .slice none 0 0]).cells (C - (n + 1))).toList := ⟨_, rfl⟩
 have hZl : Z.length = (C - i) * 3 := by
  rw [hZ, Array.length_toList, Array.size_append, size_zeroCells, size_zeroCells, show (Value.agg #[.string ⟨#[]⟩, .int .i64 0, .slice none 0 0]).cells.size = 3 from rfl, ← Nat.add_mul]
  congr 1
  omega
 obtain ⟨cur0, hcur0⟩ : ∃ cur0 : Array Value, cur0 = (a ++ Z).toArray := ⟨_, rfl⟩
 have e0 : a.toArray ++ Builtin.zeroCells (Value.agg #[.string ⟨#[]⟩, .int .i64 0, .slice none 0 0]).cells (n + 1 - i) ++ Builtin.zeroCells (Value.agg #[.string ⟨#[]⟩, .int .i64 0, .slice none 0 0]).cells (C - (n + 1)) = cur0 := by
  rw [hcur0, hZ]
  apply Array.ext'
  simp
 rw [e0] at hrun
 obtain ⟨w0, hw0⟩ : ∃ w0, w0 = w.drew.alloc (.cells cur0 26) := ⟨_, rfl⟩
 rw [← hw0] at hrun
 have hs0 : cur0.size = C * 3 := by
  rw [hcur0, List.size_toArray, List.length_append, hal, hZl, Nat.sub_mul]
  have := Nat.mul_le_mul_right 3 (show i ≤ C by omega)
  omega
 have hh0 : w0.heap[G]? = some (.cells cur0 26 (0, 0)) := by rw [hw0, hG]; exact heap_alloc_new w.drew _
 have hg0 : w0.heap[g]? = some (.cells cur 26 (0, 0)) := by rw [hw0]; exact blk_alloc (w := w.drew) hh _
 have hr0 : w0.heap[gb]? = some (.cells r.toArray 26 (0, 0)) := by rw [hw0]; exact blk_alloc (w := w.drew) hr _
 have hgr0 : w.grownBy w0 none := by
  rw [hw0]
  exact (drewN_grown w 1 none).trans (World.grownBy_alloc w.drew _ none)
 have hge := Nat.mul_le_mul_right 3 hCn
 rw [Nat.succ_mul] at hge
 -- the first copy
 obtain ⟨cur1, hcur1⟩ : ∃ cur1 : Array Value, cur1 = (cur0.toList.take (i * 3) ++ r ++ cur0.toList.drop (i * 3 + r.length)).toArray := ⟨_, rfl⟩
 have hs1 : cur1.size = C * 3 := by
  rw [hcur1, List.size_toArray, List.length_append, List.length_append, List.length_take, List.length_drop, Array.length_toList, hs0, hrl]
  omega
 obtain ⟨w1, hw1⟩ : ∃ w1, w1 = w0.setRow G cur1 := ⟨_, rfl⟩
 have hc1 : ∀ (dl dc : Nat), dl = n + 1 - i → (Builtin.copy_ #[23, 23] 3 #[.slice (some ⟨G, i * 3, none⟩) dl dc, .slice (some ⟨gb, 0, none⟩) 1 1]).run Tryd.prog w0 = .ok (goInt 1) w1 := by
  intro dl dc hdl
  subst hdl
  rw [hw1, hcur1]
  exact run_copy_row (P := Tryd.prog) w0 23 3 26 G (i * 3) (n + 1 - i) dc 1 1 1 ⟨gb, 0, none⟩ r cur0 Tryd.underlying23 ent_sz (Nat.min_eq_left (by omega)) (by rw [hrl]) (news_at hr0) hh0 (by rw [hrl, hs0]; omega) hr1
 have hh1 : w1.heap[G]? = some (.cells cur1 26 (0, 0)) := by rw [hw1]; exact setRow_heap w0 G cur0 _ 26 _ hh0
 have hg1 : w1.heap[g]? = some (.cells cur 26 (0, 0)) := by rw [hw1]; exact (setRow_far (W := w0) cur1 (by omega)).trans hg0
 -- the second
 obtain ⟨cur2, hcur2⟩ : ∃ cur2 : Array Value, cur2 = (cur1.toList.take (i * 3 + 3) ++ b ++ cur1.toList.drop (i * 3 + 3 + b.length)).toArray := ⟨_, rfl⟩
 have hs2 : cur2.size = C * 3 := by
  rw [hcur2, List.size_toArray, List.length_append, List.length_append, List.length_take, List.length_drop, Array.length_toList, hs1, hbl, Nat.sub_mul]
  omega
 have hc2 : ∀ (dl sl dc sc : Nat), dl = n - i → sl = n - i → (Builtin.copy_ #[23, 23] 3 #[.slice (some ⟨G, (i + 1) * 3, none⟩) dl dc, .slice (some ⟨g, i * 3, none⟩) sl sc]).run Tryd.prog w1.drew = .ok (goInt ((n - i : Nat) : Int)) (w1.drew.setRow G cur2) := by
  intro dl sl dc sc hdl hsl
  subst hdl hsl
  rw [hcur2, Nat.succ_mul]
  refine run_copy_row (P := Tryd.prog) w1.drew 23 3 26 G (i * 3 + 3) (n - i) dc (n - i) sc (n - i) ⟨g, i * 3, none⟩ b cur1 Tryd.underlying23 ent_sz (Nat.min_self _) hbl ?_ hh1 ?_ ?_
  ·
   refine row_cells (W := w1.drew) hg1 (i * 3) b (fun j u hj => ?_)
   rw [hbd, List.getElem?_drop] at hj
   rw [← htk, List.getElem?_take] at hj
   split at hj
   ·
    exact hj
   ·
    cases hj
  ·
   rw [hbl, hs1, Nat.sub_mul]; omega
  ·
   intro u hu
   rw [hbd] at hu
   exact h1 u (List.mem_of_mem_drop hu)
 have hfin : cur2.toList.take ((n + 1) * 3) = a ++ r ++ b := by
  rw [show (n + 1) * 3 = i * 3 + 3 + b.length by rw [hbl, Nat.sub_mul, Nat.succ_mul]; omega, hcur2, hcur1, hcur0]
  exact ins_grow a r b Z (i * 3) hal hrl (by rw [hZl, hbl, Nat.sub_mul, Nat.sub_mul]; omega)
 have HF := Aside0.mk hfin
 have HS2 := Aside0.mk hs2
 have HAD := Aside0.mk had
 have HBD := Aside0.mk hbd
 have HC1 := Aside0.mk hc1
 have HC2 := Aside0.mk hc2
 have HH1 := Aside0.mk hh1
 have HAL := Aside0.mk hal
 have HBL := Aside0.mk hbl
 have HRL := Aside0.mk hrl
 have HCM := Aside0.mk hCm
 have HG := Aside0.mk hG
 have HGB := Aside0.mk hbase
 have HG0 := Aside0.mk hgr0
 have HW1 := Aside0.mk hw1
 have HRUN := Aside0.mk (show (Builtin.append_ #[23, 3] 23 #[.slice (some ⟨g, 0, none⟩) i c, .int .i64 ((n : Int) + 1 - (i : Int))]).run Tryd.prog w = .ok (.slice (some ⟨G, 0, none⟩) (n + 1) C) w0 by
  rw [show (n : Int) + 1 - (i : Int) = ((n + 1 - i : Nat) : Int) by omega]; exact hrun)
 unfold maxLen at hCm
 clear hfin hs2 had hbd hc1 hc2 hh1 hal hbl hrl hG hbase hgr0 hw1 hrun hcs htk hil h1 hr hr1 hh hcur0 hcur1 hcur2 hs0 hs1 hh0 hg0 hr0 hg1 hw0 hZl hZ e0 hge hin hi0 hz0 hz1 hz2 hC
 have b0 : (0 : Int) ≤ (i : Int) := by omega
 have b1 : (i : Int) ≤ (n : Int) := by omega
 have b2 : (n : Int) ≤ (c : Int) := by omega
 have b3 : (c : Int) < (n : Int) + 1 := by omega
 have b4 : ¬ ((i : Int) = (n : Int)) := by omega
 have b5 : (i : Int) ≤ (c : Int) := by omega
 have n1 : ¬ (c = i) := by omega
 have hwr : IntKind.i64.wrap ((i : Int) + 1) = (i : Int) + 1 := by rw [IntKind.wrap_i64]; omega
 go_enter Tryd.func18, Tryd.ntmps18
 go_upto_region 10 with ((with_reducible refine gate_builtin (b := .append) (xs := #[.tmp 34, .tmp 39]) rfl ?_); at_builtin; refine Lib.wpList_append_run _ rfl (.tmp 34) (.tmp 39) 23 3 rfl _ _ rfl rfl _ _ HRUN.out ?_)
 obtain ⟨N, hN⟩ : ∃ N, n + 1 = N := ⟨_, rfl⟩
 have e0 : (0 : Int) ≤ (i : Int) + 1 := by omega
 have e1 : (i : Int) ≤ (N : Int) := by omega
 have e2 : (i : Int) + 1 ≤ (N : Int) := by omega
 have e3 : (N : Int) ≤ (C : Int) := by omega
 have e4 : (i : Int) + 1 ≤ (C : Int) := by omega
 have e5 : (i : Int) ≤ (C : Int) := by omega
 have e6 : ¬ (C = i) := by omega
 have e7 : ¬ (C = i + 1) := by omega
 rw [hN]
 have HNN := Aside0.mk hN
 clear hN b3
 go_upto_region 11 with ((with_reducible refine gate_builtin (b := .copy) (xs := #[.tmp 43, .tmp 44]) rfl ?_); refine wpList_copy_run2 rfl (.tmp 43) (.tmp 44) 23 rfl _ _ rfl rfl (HC1.out _ _ (by have := HNN.out; omega)) ?_)
 go_region_held3 (fun _ => True) (trivial) (first
  | (refine step_copy_run2 (by rfl) (.tmp 50) (.tmp 53) 23 (by rfl) _ _ (by rfl) (by rfl) (HC2.out _ _ _ _ (by have := HNN.out; omega) (by have := HNN.out; omega)) ?_)
  | fail)
 obtain rfl : N = n + 1 := HNN.out.symm
 go_wp2
 go_ret
 refine ⟨_, rfl, ⟨?_, .inr ⟨G, C, cur2, rfl, by rw [HG.out]; exact HGB.out, setRow_heap w1.drew G cur1 _ 26 _ HH1.out, hCn, HCM.out, HS2.out, ?_⟩⟩, ?_, .inr ⟨G, rfl, by rw [HG.out]; exact Nat.le_refl _⟩⟩
 ·
  rw [← HAD.out, ← HBD.out, List.length_append, List.length_append, HRL.out, HBL.out, HAL.out, Nat.sub_mul]
  have := Nat.mul_le_mul_right 3 (show i + 1 ≤ n from hi)
  omega
 ·
  rw [← HAD.out, ← HBD.out]; exact HF.out
 ·
  have hG := HG.out
  have h1 : w0.grownBy w1 (some G) := by rw [HW1.out]; exact setRow_grown w0 G cur1
  have h2 : w1.grownBy (w1.drew.setRow G cur2) (some G) := (drewN_grown w1 1 (some G)).trans (setRow_grown w1.drew G cur2)
  have h3 := HG0.out
  have h4 := h1.trans h2
  exact ⟨h4.os.trans h3.os, h4.tape.trans h3.tape, h4.output.trans h3.output, Nat.le_trans h3.size h4.size, fun k hk _ => (h4.block k (Nat.lt_of_lt_of_le hk h3.size) (fun e => by cases e; omega)).trans (h3.block k hk (by simp))⟩
/-- one element is put into a row of one's own -/
theorem insert_calls (A : Option Addr) (n c i gb base : Nat) (inner r : List Value) (w : World) (hown : w.ownsRow base 26 3 (.slice A n c) n inner) (h1 : ∀ u ∈ inner, u.oneCell' = true) (hr : w.heap[gb]? = some (.cells r.toArray 26 (0, 0))) (hrl : r.length = 3) (hr1 : ∀ u ∈ r, u.oneCell' = true) (hgb : (Value.slice A n c).ownBlock ≠ some gb) (hi : i ≤ n) (hn : n ≤ 1000) (hbase : base ≤ w.heap.size) :
 Calls Tryd.prog 18 #[.slice A n c, .int .i64 (i : Int), .slice (some ⟨gb, 0, none⟩) 1 1] w (InsOut w base n i (.slice A n c) inner r) := by
 rcases hown.2 with ⟨hv, hn0⟩ | ⟨g, cap, cur, hv, hb, hh, hnc, hcm, hcs, htk⟩
 ·
  injection hv with _ hn1 hc1
  subst hn1 hc1
  obtain rfl : i = 0 := by omega
  exact insert_end A 0 0 gb base inner r w hown hr hrl hr1 (by omega) (Nat.le_refl _) hbase
 ·
  injection hv with hA _ hc
  subst hA hc
  have hil : inner.length = n * 3 := hown.1
  by_cases hin : i = n
  ·
   subst hin
   exact insert_end _ i c gb base inner r w hown hr hrl hr1 hn hnc hbase
  ·
   by_cases hroom : n + 1 ≤ c
   ·
    exact insert_room g n c i gb base inner r cur w hcm hh hcs htk hil h1 hr hrl hr1 (fun e => hgb (by simp [Value.ownBlock, e])) (by omega) hn hroom hb
   ·
    exact insert_grow g n c i gb base inner r cur w hh hcs htk hil h1 hr hrl hr1 (by omega) hn hnc (by omega) hbase

end Go.Proofs.YtknfnmdfdkdipaaDoor.Pure
namespace Go.Proofs.YtknfnmdfdkdipaaDoor.Pure
set_option linter.unusedVariables false
set_option linter.unusedSimpArgs false
open Go Go.RowKit Go.Proofs.YtknfnmdfdkdipaaDoor.PFnTonaryAdd Go.Proofs.YtknfnmdfdkdipaaDoorW.PrintWords Go.Proofs.YtknfnmdfdkdipaaDoorW.PrintLast Go.Proofs.YtknfnmdfdkdipaaDoorW.PrintMore

theorem ins_lo (inner r : List Value) (i j : Nat) (h : i * 3 ≤ inner.length) (hj : j < i) : ((inner.take (i * 3) ++ r ++ inner.drop (i * 3)).drop (j * 3)).take 3 = (inner.drop (j * 3)).take 3 := by
 have := Nat.mul_le_mul_right 3 (show j + 1 ≤ i from hj)
 rw [List.append_assoc, List.drop_append_of_le_length (by rw [List.length_take]; omega), List.take_append_of_le_length (by rw [List.length_drop, List.length_take]; omega), List.drop_take, List.take_take, Nat.min_eq_left (by omega)]
theorem ins_mid (inner r : List Value) (i : Nat) (h : i * 3 ≤ inner.length) (hr : r.length = 3) : ((inner.take (i * 3) ++ r ++ inner.drop (i * 3)).drop (i * 3)).take 3 = r := by
 rw [List.append_assoc, List.drop_left' (by rw [List.length_take]; omega)]
 exact List.take_left' hr
theorem ins_hi (inner r : List Value) (i j : Nat) (h : i * 3 ≤ inner.length) (hr : r.length = 3) (hj : i ≤ j) : ((inner.take (i * 3) ++ r ++ inner.drop (i * 3)).drop ((j + 1) * 3)).take 3 = (inner.drop (j * 3)).take 3 := by
 have := Nat.mul_le_mul_right 3 hj
 have hl : (inner.take (i * 3) ++ r).length = i * 3 + 3 := by rw [List.length_append, List.length_take, hr]; omega
 rw [List.drop_append, List.drop_of_length_le (by rw [hl]; omega), List.nil_append, hl, List.drop_drop]
 congr 2
 omega
open Classical in
theorem insert_S (v : Value) (xs : List S26) (x : S26) (i gb base : Nat) (r : List Value) (ok okp ok' : Nat → Prop) (w : World) (hS : Kd.S k26 26 w base ok v xs) (hM : k26.M w base okp x r) (hdis : ∀ k, okp k → ¬ ok k) (h1 : ∀ k, ok k → ok' k) (h2 : ∀ k, okp k → ok' k) (h3 : ∀ k, w.heap.size ≤ k → ok' k)
 (hr : w.heap[gb]? = some (.cells r.toArray 26 (0, 0))) (hgb : v.ownBlock ≠ some gb) (hi : i ≤ xs.length) (hn : xs.length ≤ 1000) (hbase : base ≤ w.heap.size) :
 Calls Tryd.prog 18 #[v, .int .i64 (i : Int), .slice (some ⟨gb, 0, none⟩) 1 1] w fun e w' => ∃ v', e = .returned v' ∧ Kd.S k26 26 w' base ok' v' (xs.take i ++ x :: xs.drop i) ∧ w.grownBy w' v.ownBlock ∧ (v'.ownBlock = v.ownBlock ∨ ∃ b, v'.ownBlock = some b ∧ w.heap.size ≤ b) := by
 obtain ⟨A, c, hv⟩ := Kd.S_slice hS
 obtain ⟨f, h0, inner, hown, hrr⟩ := hS
 rw [List.length_zipIdx] at hown
 have hrl : r.length = 3 := k26.K_len (k26.K_of_M hM)
 have hr1 := k26.K_one (k26.K_of_M hM)
 have hil : inner.length = xs.length * 3 := hown.1
 have hones := ones_of (d := Kd.tag f k26) (Nat.zero_lt_succ 2) hrr
 have hile : i * 3 ≤ inner.length := by rw [hil]; exact Nat.mul_le_mul_right 3 hi
 subst hv
 refine (insert_calls A xs.length c i gb base inner r w hown hones hr hrl hr1 hgb hi hn hbase).mono ?_
 rintro e w' ⟨v', rfl, ho, hg, hat⟩
 have hne : ∀ k, some k ≠ (Value.slice A xs.length c).ownBlock → k < w.heap.size → some k ≠ v'.ownBlock := by
  intro k hk hlt
  rcases hat with hat | ⟨b, hb, hle⟩
  ·
   rw [hat]; exact hk
  ·
   rw [hb]
   intro he
   injection he with he
   omega
 have step : ∀ {q : S26} {cs : List Value} {o : Nat → Prop}, k26.M w base o q cs → (∀ k, o k → some k ≠ (Value.slice A xs.length c).ownBlock) → k26.M w' base (fun k => o k ∧ some k ≠ v'.ownBlock) q cs := by
  intro q cs o hq hh
  have h1 := k26.M_move (w1 := w') (fun k hk => hg.block k hk.2.2.1 (hh k hk.1)) (k26.M_bound hq)
  exact k26.M_mono (fun k hk => ⟨hk.1, hne k (hh k hk.1) hk.2.2.1⟩) h1
 have hlen : (xs.take i ++ x :: xs.drop i).length = xs.length + 1 := by rw [List.length_append, List.length_cons, List.length_take, List.length_drop]; omega
 refine ⟨v', rfl, ⟨fun k => if okp k then i else if f k < i then f k else f k + 1, fun k hk => ?_, _, by rw [List.length_zipIdx, hlen]; exact ho, by rw [List.length_zipIdx, hlen]; exact ho.1, fun j p hj => ?_⟩, hg, hat⟩
 ·
  rcases hat with hat | ⟨b, hb, hle⟩
  ·
   exact h1 k (h0 k (hat ▸ hk))
  ·
   rw [hb] at hk
   injection hk with hk
   exact h3 k (by omega)
 ·
  rw [List.getElem?_zipIdx, Nat.zero_add] at hj
  obtain ⟨q, hq, rfl⟩ := Option.map_eq_some_iff.1 hj
  rcases Nat.lt_trichotomy j i with hji | rfl | hji
  ·
   have hq' : xs[j]? = some q := by
    rw [List.getElem?_append_left (by rw [List.length_take]; omega), List.getElem?_take, if_pos hji] at hq
    exact hq
   have hm := hrr.2 j (q, j) (by rw [List.getElem?_zipIdx, hq']; simp)
   show k26.M w' base _ q _
   rw [show (Kd.tag f k26).sz = 3 from rfl] at hm
   have e1 := ins_lo inner r i j hile hji
   refine k26.M_mono (fun k hk => ?_) ((congrArg (k26.M w' base _ q) e1).mpr (step hm (fun k hk => hk.1.2)))
   refine ⟨⟨h1 k hk.1.1.1, hk.2⟩, ?_⟩
   have hf : f k = j := hk.1.2
   show (if okp k then i else if f k < i then f k else f k + 1) = j
   rw [if_neg (fun h => hdis k h hk.1.1.1), if_pos (by omega)]; exact hf
  ·
   have hq' : q = x := by
    rw [List.getElem?_append_right (by rw [List.length_take]; omega), List.length_take, Nat.min_eq_left hi, Nat.sub_self] at hq
    exact (Option.some.inj hq).symm
   subst hq'
   show k26.M w' base _ q _
   have e1 := ins_mid inner r j hile hrl
   refine k26.M_mono (fun k hk => ?_) ((congrArg (k26.M w' base _ q) e1).mpr (step hM (fun k hk e => hdis k hk (h0 k e.symm))))
   refine ⟨⟨h2 k hk.1, hk.2⟩, ?_⟩
   show (if okp k then j else if f k < j then f k else f k + 1) = j
   rw [if_pos hk.1]
  ·
   obtain ⟨j, rfl⟩ : ∃ j', j = j' + 1 := ⟨j - 1, by omega⟩
   have hq' : xs[j]? = some q := by
    rw [List.getElem?_append_right (by rw [List.length_take]; omega), List.length_take, Nat.min_eq_left hi, show j + 1 - i = (j - i) + 1 by omega, List.getElem?_cons_succ, List.getElem?_drop] at hq
    rw [← hq]; congr 1; omega
   have hm := hrr.2 j (q, j) (by rw [List.getElem?_zipIdx, hq']; simp)
   show k26.M w' base _ q _
   rw [show (Kd.tag f k26).sz = 3 from rfl] at hm
   have e1 := ins_hi inner r i j hile hrl (by omega)
   refine k26.M_mono (fun k hk => ?_) ((congrArg (k26.M w' base _ q) e1).mpr (step hm (fun k hk => hk.1.2)))
   refine ⟨⟨h1 k hk.1.1.1, hk.2⟩, ?_⟩
   have hf : f k = j := hk.1.2
   show (if okp k then i else if f k < i then f k else f k + 1) = j + 1
   rw [if_neg (fun h => hdis k h hk.1.1.1), if_neg (by omega), hf]

end Go.Proofs.YtknfnmdfdkdipaaDoor.Pure
namespace Go.Proofs.YtknfnmdfdkdipaaDoor.Pure
set_option linter.unusedVariables false
set_option linter.unusedSimpArgs false
open Go Go.RowKit Go.Proofs.YtknfnmdfdkdipaaDoor.PFnTonaryAdd Go.Proofs.YtknfnmdfdkdipaaDoorW.PrintWords Go.Proofs.YtknfnmdfdkdipaaDoorW.PrintLast Go.Proofs.YtknfnmdfdkdipaaDoorW.PrintMore

def tonAddI (L : List S26) (e : S26) : List S26 × Bool :=
 if tonOk L = true then
  if entOk e = true then
   if L.length = 20 then ([], false)
   else if nmHas (L.filter (fun x => x.f1 == e.f1)) e.f0 = true then ([], false)
   else (catM (fun j => if j = e.f1 then (L.filter (fun x => x.f1 == e.f1)).take (nmAt (L.filter (fun x => x.f1 == e.f1)) e.f0) ++ e :: (L.filter (fun x => x.f1 == e.f1)).drop (nmAt (L.filter (fun x => x.f1 == e.f1)) e.f0) else L.filter (fun x => x.f1 == j)) 8, true)
  else ([], false)
 else ([], false)
set_option maxHeartbeats 4000000 in
set_option maxRecDepth 100000 in
theorem impl_TonaryAdd_calls (L : List S26) (e : S26) (A0 : Option Addr) (c0 : Nat) (Ae : Option Addr) (ce : Nat) (w : World) (ht : MTab w) (hr0 : Kd.C k26 w A0 L.length L) (hc0 : L.length ≤ c0) (hre : Kd.C k74 w Ae e.f2.length e.f2) (hce : e.f2.length ≤ ce) (hz : entSz L = true) (hze : e.f0.size ≤ 9000000000000000 ∧ e.f2.length ≤ 1000000000000) :
 Calls Tryd.prog 5 #[.slice A0 L.length c0, .agg #[.string e.f0, .int .i64 e.f1, .slice Ae e.f2.length ce]] w fun r w' => ∃ v, r = .returned (.tuple #[v, .bool (tonAddI L e).2]) ∧ Kd.S k26 26 w' w.heap.size (fun _ => True) v (tonAddI L e).1 ∧ Below w.heap.size w w' := by
 have hu1 := Tryd.underlying26
 have HT := Aside0.mk ht
 have HR0 := Aside0.mk hr0
 have HC0 := Aside0.mk hc0
 have HRE := Aside0.mk hre
 have HCE := Aside0.mk hce
 have HZ := Aside0.mk (entSz_all hz)
 have hfl : e.f2.length ≤ 1000000000000 := hze.2
 obtain ⟨kv, hkv⟩ := Ev.rounds (impl_Entry_valid_ev e (by have := hze.1; omega))
 have HKV := Aside0.mk hkv
 have HOF := Aside0.mk (fun (w3 : World) (hb : Below w.heap.size w w3) => impl_tonaryOf_calls L A0 c0 w3 (ht.below hb) (Kd.C_below hr0 hb) hc0 (entSz_all hz))
 clear ht hr0 hc0 hre hce hz hze hkv
 unfold tonAddI
 cases hk : tonOk L
 ·
  rw [hk] at HOF
  rw [if_neg (by decide)]
  clear hk
  go_enter Tryd.func5, Tryd.ntmps5
  go_wp2_with (first
   | ((with_reducible refine gate_dst (N := 3) rfl ?_); refine box_event ?hg (N := 3) ?hd (cs := #[.string e.f0, .int .i64 e.f1, .slice Ae e.f2.length ce]) (t := 26) ?hr ?_; (case hd => rfl); (case hg => rfl); (case hr => first | (go_simp; done) | (go_simp; rfl)); intro g3 hg w3 hbox hb; have HK3 := Aside0.mk hbox; have HB3 := Aside0.mk hb; have N3 := Aside0.mk (show w.heap.size ≤ g3 from (by rw [hg]; exact Nat.le_refl _)); have N33 := Aside0.mk (blk_lt hbox); clear hg hbox hb)
   | (go_at_call 15; refine (HOF.out _ HB3.out).mono ?_; rintro e_ w1 ⟨p, rfl, hm, hb⟩; have HB := Aside0.mk hb; have HM0 := Aside0.mk hm; clear hm hb))
  go_ret2
  exact ⟨_, rfl, Kd.S_nil _ _ _ _ _, below_step HB3.out HB.out⟩
 rw [hk] at HOF
 rw [if_pos rfl]
 have HOK := Aside0.mk ((tonOk_iff L).1 hk)
 clear hk
 cases hve : entOk e
 ·
  rw [hve] at HKV
  rw [if_neg (by decide)]
  clear hve
  go_enter Tryd.func5, Tryd.ntmps5
  go_upto_region 2 with (first
   | ((with_reducible refine gate_dst (N := 3) rfl ?_); refine box_event ?hg (N := 3) ?hd (cs := #[.string e.f0, .int .i64 e.f1, .slice Ae e.f2.length ce]) (t := 26) ?hr ?_; (case hd => rfl); (case hg => rfl); (case hr => first | (go_simp; done) | (go_simp; rfl)); intro g3 hg w3 hbox hb; have HK3 := Aside0.mk hbox; have HB3 := Aside0.mk hb; have N3 := Aside0.mk (show w.heap.size ≤ g3 from (by rw [hg]; exact Nat.le_refl _)); have N33 := Aside0.mk (blk_lt hbox); clear hg hbox hb)
   | (go_at_call 15; refine (HOF.out _ HB3.out).mono ?_; rintro e_ w1 ⟨p, rfl, hm, hb⟩; obtain ⟨M, rfl, own, F, hta⟩ := hm rfl; have HB := Aside0.mk hb; have HTA := Aside0.mk hta; clear hm hb hta))
  have K1 := Aside0.mk (blk_below HK3.out HB.out)
  have y0 : w1.cell? ⟨g3, 0, none⟩ = some (.string e.f0) := (blk_cell K1.out 0).trans rfl
  have y1 : w1.cell? ⟨g3, 1, none⟩ = some (.int .i64 e.f1) := (blk_cell K1.out 1).trans rfl
  have y2 : w1.cell? ⟨g3, 2, none⟩ = some (.slice Ae e.f2.length ce) := (blk_cell K1.out 2).trans rfl
  have HB13 := Aside0.mk (below_step HB3.out HB.out)
  go_wp2_with (go_at_call 16; refine (impl_Entry_valid.calls kv e.f0 e.f1 Ae ce e.f2 false _ (HT.out.below HB13.out) (Kd.C_below HRE.out HB13.out) HCE.out HKV.out).mono ?_; rintro e_ w8 ⟨rfl, hb8⟩; have HB8 := Aside0.mk hb8; clear hb8)
  go_ret2
  exact ⟨_, rfl, Kd.S_nil _ _ _ _ _, below_step HB13.out HB8.out⟩
 rw [hve] at HKV
 rw [if_pos rfl]
 clear hve
 by_cases h20 : L.length = 20
 ·
  rw [if_pos h20]
  have d20 : ((L.length : Int) == 20) = true := by rw [h20]; rfl
  have i20 : (L.length : Int) = 20 := by omega
  clear h20
  go_enter Tryd.func5, Tryd.ntmps5
  go_upto_region 2 with (first
   | ((with_reducible refine gate_dst (N := 3) rfl ?_); refine box_event ?hg (N := 3) ?hd (cs := #[.string e.f0, .int .i64 e.f1, .slice Ae e.f2.length ce]) (t := 26) ?hr ?_; (case hd => rfl); (case hg => rfl); (case hr => first | (go_simp; done) | (go_simp; rfl)); intro g3 hg w3 hbox hb; have HK3 := Aside0.mk hbox; have HB3 := Aside0.mk hb; have N3 := Aside0.mk (show w.heap.size ≤ g3 from (by rw [hg]; exact Nat.le_refl _)); have N33 := Aside0.mk (blk_lt hbox); clear hg hbox hb)
   | (go_at_call 15; refine (HOF.out _ HB3.out).mono ?_; rintro e_ w1 ⟨p, rfl, hm, hb⟩; obtain ⟨M, rfl, own, F, hta⟩ := hm rfl; have HB := Aside0.mk hb; have HTA := Aside0.mk hta; clear hm hb hta))
  have K1 := Aside0.mk (blk_below HK3.out HB.out)
  have y0 : w1.cell? ⟨g3, 0, none⟩ = some (.string e.f0) := (blk_cell K1.out 0).trans rfl
  have y1 : w1.cell? ⟨g3, 1, none⟩ = some (.int .i64 e.f1) := (blk_cell K1.out 1).trans rfl
  have y2 : w1.cell? ⟨g3, 2, none⟩ = some (.slice Ae e.f2.length ce) := (blk_cell K1.out 2).trans rfl
  have HB13 := Aside0.mk (below_step HB3.out HB.out)
  go_wp2_with (go_at_call 16; refine (impl_Entry_valid.calls kv e.f0 e.f1 Ae ce e.f2 true _ (HT.out.below HB13.out) (Kd.C_below HRE.out HB13.out) HCE.out HKV.out).mono ?_; rintro e_ w8 ⟨rfl, hb8⟩; have HB8 := Aside0.mk hb8; clear hb8)
  go_ret2
  exact ⟨_, rfl, Kd.S_nil _ _ _ _ _, below_step HB13.out HB8.out⟩
 rw [if_neg h20]
 have i20 : ¬ ((L.length : Int) = 20) := by omega
 clear h20
 obtain ⟨X, hX⟩ : ∃ X, X = L.filter (fun x => x.f1 == e.f1) := ⟨_, rfl⟩
 rw [← hX]
 have hXl : X.length ≤ 20 := by rw [hX]; exact Nat.le_trans (List.length_filter_le _ _) HOK.out.1
 have HX := Aside0.mk hX
 have hfc := fun (w1 : World) (base M : Nat) (own : Nat → Int) (F : Int → Option Value) (hta : TonAt w1 base M own F (fun k => L.filter (fun x => x.f1 == k))) => find_calls w1 base M own F _ e.f1 e.f0 hta (by rw [← HX.out]; omega) (srt_names HOK.out.2.2 e.f1)
 rw [← hX] at hfc
 obtain ⟨i, hi⟩ : ∃ i, i = nmAt X e.f0 := ⟨_, rfl⟩
 have hil : i ≤ X.length := by rw [hi]; exact nmAt_le X e.f0
 rw [← hi] at hfc ⊢
 have HFC := Aside0.mk hfc
 clear hfc hX hi
 cases hf : nmHas X e.f0
 ·
  rw [hf] at HFC
  rw [if_neg (by decide)]
  clear hf
  go_enter Tryd.func5, Tryd.ntmps5
  go_upto_region 2 with (first
   | ((with_reducible refine gate_dst (N := 3) rfl ?_); refine box_event ?hg (N := 3) ?hd (cs := #[.string e.f0, .int .i64 e.f1, .slice Ae e.f2.length ce]) (t := 26) ?hr ?_; (case hd => rfl); (case hg => rfl); (case hr => first | (go_simp; done) | (go_simp; rfl)); intro g3 hg w3 hbox hb; have HK3 := Aside0.mk hbox; have HB3 := Aside0.mk hb; have N3 := Aside0.mk (show w.heap.size ≤ g3 from (by rw [hg]; exact Nat.le_refl _)); have N33 := Aside0.mk (blk_lt hbox); clear hg hbox hb)
   | (go_at_call 15; refine (HOF.out _ HB3.out).mono ?_; rintro e_ w1 ⟨p, rfl, hm, hb⟩; obtain ⟨M, rfl, own, F, hta⟩ := hm rfl; have HB := Aside0.mk hb; have HTA := Aside0.mk hta; clear hm hb hta))
  have K1 := Aside0.mk (blk_below HK3.out HB.out)
  have y0 : w1.cell? ⟨g3, 0, none⟩ = some (.string e.f0) := (blk_cell K1.out 0).trans rfl
  have y1 : w1.cell? ⟨g3, 1, none⟩ = some (.int .i64 e.f1) := (blk_cell K1.out 1).trans rfl
  have y2 : w1.cell? ⟨g3, 2, none⟩ = some (.slice Ae e.f2.length ce) := (blk_cell K1.out 2).trans rfl
  have HB13 := Aside0.mk (below_step HB3.out HB.out)
  go_upto_region 4 with (go_at_call 16; refine (impl_Entry_valid.calls kv e.f0 e.f1 Ae ce e.f2 true _ (HT.out.below HB13.out) (Kd.C_below HRE.out HB13.out) HCE.out HKV.out).mono ?_; rintro e_ w8 ⟨rfl, hb8⟩; have HB8 := Aside0.mk hb8; clear hb8)
  have HTA8 := Aside0.mk (HTA.out.below HB8.out)
  have K8 := Aside0.mk (blk_below K1.out HB8.out)
  have HB138 := Aside0.mk (below_step HB13.out HB8.out)
  clear y0 y1 y2
  have y0 : w8.cell? ⟨g3, 0, none⟩ = some (.string e.f0) := (blk_cell K8.out 0).trans rfl
  have y1 : w8.cell? ⟨g3, 1, none⟩ = some (.int .i64 e.f1) := (blk_cell K8.out 1).trans rfl
  go_upto_region 7 with (go_at_call 17; refine (HFC.out _ _ M own F HTA8.out).mono ?_; rintro e_ w2 ⟨rfl, hb2⟩; have HB2 := Aside0.mk hb2; clear hb2)
  have HTA2 := Aside0.mk (HTA8.out.below HB2.out)
  have K2 := Aside0.mk (blk_below K8.out HB2.out)
  have HB32 := Aside0.mk (below_step HB.out (below_step HB8.out HB2.out))
  have HBW2 := Aside0.mk (below_step HB138.out HB2.out)
  clear y0 y1 HB13 HB138 HTA8 K8 K1 HK3 HTA HB
  have y0 : w2.drew.cell? ⟨g3, 0, none⟩ = some (.string e.f0) := (blk_cell K2.out 0).trans rfl
  have y1 : w2.drew.cell? ⟨g3, 1, none⟩ = some (.int .i64 e.f1) := (blk_cell K2.out 1).trans rfl
  have y2 : w2.drew.cell? ⟨g3, 2, none⟩ = some (.slice Ae e.f2.length ce) := (blk_cell K2.out 2).trans rfl
  obtain ⟨v0, hv0⟩ : ∃ v0, v0 = (F e.f1).getD (.slice none 0 0) := ⟨_, rfl⟩
  have HV0 := Aside0.mk hv0
  clear hv0
  have lkA : (Instr.lookup 43 (.map (some M)) (.int .i64 e.f1) false).run Tryd.prog w2.drew = .ok v0 w2.drew := by rw [HV0.out]; exact (HTA2.out.below (below_drew1 (Below.refl _ _))).look e.f1
  have HCP := Aside0.mk (show impl_Entry_copied.f e.f0 e.f1 e.f2 = some (e.f0, e.f1, e.f2) by unfold impl_Entry_copied.f impl_copiedTones.f; rw [if_pos hfl]; rfl)
  have HGD := Aside0.mk (show Kd.C k74 w2.drew Ae e.f2.length e.f2 from Kd.C_drew (Kd.C_below HRE.out HBW2.out))
  have N32 := Aside0.mk (show g3 < w2.heap.size from Nat.lt_of_lt_of_le (blk_lt K2.out) (Nat.le_refl _))
  have NE3 : Aside0 (some g3 ≠ v0.ownBlock) := ⟨fun h => by
   have h1 := Kd.S_base (HTA2.out.row e.f1) g3 (by rw [← HV0.out]; exact h.symm)
   have h2 := N33.out
   omega⟩
  have NM3 : Aside0 (g3 ≠ M) := ⟨by have h1 := HTA2.out.1; have h2 := N33.out; omega⟩
  go_region_held3 (fun w' => w'.cell? ⟨g3, 0, none⟩ = some (.string e.f0) ∧ w'.cell? ⟨g3, 1, none⟩ = some (.int .i64 e.f1) ∧ w'.cell? ⟨g3, 2, none⟩ = some (.slice Ae e.f2.length ce))
   (first
    | exact ⟨y0, y1, y2⟩
    | go_keep
    | exact ⟨pw_cell_below hb12 y0, pw_cell_below hb12 y1, pw_cell_below hb12 y2⟩
    | exact ⟨pw_cell_below (below_alloc (Below.refl _ _) _) (pw_cell_below hb12 y0), pw_cell_below (below_alloc (Below.refl _ _) _) (pw_cell_below hb12 y1), pw_cell_below (below_alloc (Below.refl _ _) _) (pw_cell_below hb12 y2)⟩
    | exact ⟨cell_grown hg13 (pw_cell_below (below_alloc (Below.refl _ _) _) (pw_cell_below hb12 y0)) NE3.out, cell_grown hg13 (pw_cell_below (below_alloc (Below.refl _ _) _) (pw_cell_below hb12 y1)) NE3.out, cell_grown hg13 (pw_cell_below (below_alloc (Below.refl _ _) _) (pw_cell_below hb12 y2)) NE3.out⟩
    | exact ⟨cell_setBlock (cell_grown hg13 (pw_cell_below (below_alloc (Below.refl _ _) _) (pw_cell_below hb12 y0)) NE3.out) NM3.out, cell_setBlock (cell_grown hg13 (pw_cell_below (below_alloc (Below.refl _ _) _) (pw_cell_below hb12 y1)) NE3.out) NM3.out, cell_setBlock (cell_grown hg13 (pw_cell_below (below_alloc (Below.refl _ _) _) (pw_cell_below hb12 y2)) NE3.out) NM3.out⟩
    | fail)
   (first
    | (go_at_call 19; (with_reducible refine (impl_Entry_copied.calls e.f0 e.f1 Ae ce e.f2 e.f0 e.f1 e.f2 w2.drew HGD.out HCE.out HCP.out).mono ?_); rintro e_ w12 ⟨v2, rfl, ho2, hb12⟩; obtain ⟨Av, cv, rfl⟩ := Kd.R_slice ho2; have hbW : Below w2.heap.size w2 w12 := below_step (below_drew1 (Below.refl _ _)) hb12; have lkB := (HTA2.out.below hbW).look e.f1; rw [← HV0.out] at lkB; have hbA : Below w2.heap.size w2 (w12.alloc (.cells #[.string e.f0, .int .i64 e.f1, .slice Av e.f2.length cv] 26 (0, 0))) := below_step hbW (below_alloc (Below.refl _ _) _); have lkC := (HTA2.out.below hbA).look e.f1; rw [← HV0.out] at lkC; have HM2 := Aside0.mk (Kd.M_alloc (k26_mkM w12 w3.heap.size (fun b => w2.heap.size ≤ b) e (Kd.R_lower (Kd.R_mono (Kd.R_bound ho2) (fun b hb => hb.2.1)) HB32.out.size)) (.cells #[.string e.f0, .int .i64 e.f1, .slice Av e.f2.length cv] 26 (0, 0))); have HO12 := Aside0.mk (show Kd.S k26 26 (w12.alloc (.cells #[.string e.f0, .int .i64 e.f1, .slice Av e.f2.length cv] 26 (0, 0))) w3.heap.size (fun b => (own b = e.f1 ∧ b ≠ M) ∧ b < w2.heap.size) v0 X by (rw [HV0.out, HX.out]; exact Kd.S_below (TonAt.bound (HTA2.out.row e.f1)) hbA)); have HBA := Aside0.mk hbA; have HBWW := Aside0.mk hbW; clear ho2 hbW hbA)
    | (go_at_call 18; refine (insert_S v0 X e i w12.heap.size w3.heap.size [.string e.f0, .int .i64 e.f1, .slice Av e.f2.length cv] (fun b => (own b = e.f1 ∧ b ≠ M) ∧ b < w2.heap.size) (fun b => w2.heap.size ≤ b) (fun b => (own b = e.f1 ∧ b ≠ M) ∨ w2.heap.size ≤ b) _ HO12.out HM2.out (fun k hk h => by omega) (fun k hk => .inl hk.1) (fun k hk => .inr hk) (fun k hk => .inr (Nat.le_trans HBA.out.size hk)) (blk_new w12 _) (fun h => HTA2.out.ne e.f1 w12.heap.size HBWW.out.size (by rw [← HV0.out]; exact h.symm)) hil (by omega) (Nat.le_trans HB32.out.size HBA.out.size)).mono ?_; rintro e_ w13 ⟨v13, rfl, ho13, hg13, hat13⟩; obtain ⟨es, clk, hput, hmap⟩ := TonAt.append HTA2.out HBA.out (by rw [← HV0.out]; exact hg13) ho13; have HMAP := Aside0.mk hmap; have HB13 := Aside0.mk (pw_below_grown (below_step HB32.out HBA.out) _ (below_step HB32.out HBA.out).size hg13 (fun k e_ => Kd.S_base HO12.out k e_)); clear hmap ho13 hat13)
    | fail)
  all_goals
   have HBE := Aside0.mk (below_setBlock HB13.out HTA2.out.1 (o := .map es clk))
   have HMX := Aside0.mk (HMAP.out.cong (G' := fun j => if j = e.f1 then X.take i ++ e :: X.drop i else L.filter (fun x => x.f1 == j)) (fun j => rfl))
   clear HB13 HMAP hput hg13 hb12
   generalize ChangeMaps.setBlock w13 M (.map es clk) = w14 at HBE HMX ⊢
   have HL := Aside0.mk (impl_list_calls w3 w14 M _ HBE.out HMX.out (fun k => by
    show (if k = e.f1 then X.take i ++ e :: X.drop i else L.filter (fun x => x.f1 == k)).length ≤ 1000
    split
    ·
     rw [List.length_append, List.length_cons, List.length_take, List.length_drop]; omega
    ·
     exact Nat.le_trans (List.length_filter_le _ _) (by have := HOK.out.1; omega)))
   go_wp2_with (go_at_call 20; refine HL.out.mono ?_; rintro e_ w7 ⟨v, rfl, ho7, hb7⟩; have HO7 := Aside0.mk ho7; have HB7 := Aside0.mk hb7; clear ho7 hb7)
   go_ret2
   exact ⟨_, rfl, Kd.S_lower HO7.out HB3.out.size, below_step HB3.out HB7.out⟩
 ·
  rw [hf] at HFC
  rw [if_pos rfl]
  clear hf
  go_enter Tryd.func5, Tryd.ntmps5
  go_upto_region 2 with (first
   | ((with_reducible refine gate_dst (N := 3) rfl ?_); refine box_event ?hg (N := 3) ?hd (cs := #[.string e.f0, .int .i64 e.f1, .slice Ae e.f2.length ce]) (t := 26) ?hr ?_; (case hd => rfl); (case hg => rfl); (case hr => first | (go_simp; done) | (go_simp; rfl)); intro g3 hg w3 hbox hb; have HK3 := Aside0.mk hbox; have HB3 := Aside0.mk hb; have N3 := Aside0.mk (show w.heap.size ≤ g3 from (by rw [hg]; exact Nat.le_refl _)); have N33 := Aside0.mk (blk_lt hbox); clear hg hbox hb)
   | (go_at_call 15; refine (HOF.out _ HB3.out).mono ?_; rintro e_ w1 ⟨p, rfl, hm, hb⟩; obtain ⟨M, rfl, own, F, hta⟩ := hm rfl; have HB := Aside0.mk hb; have HTA := Aside0.mk hta; clear hm hb hta))
  have K1 := Aside0.mk (blk_below HK3.out HB.out)
  have y0 : w1.cell? ⟨g3, 0, none⟩ = some (.string e.f0) := (blk_cell K1.out 0).trans rfl
  have y1 : w1.cell? ⟨g3, 1, none⟩ = some (.int .i64 e.f1) := (blk_cell K1.out 1).trans rfl
  have y2 : w1.cell? ⟨g3, 2, none⟩ = some (.slice Ae e.f2.length ce) := (blk_cell K1.out 2).trans rfl
  have HB13 := Aside0.mk (below_step HB3.out HB.out)
  go_upto_region 4 with (go_at_call 16; refine (impl_Entry_valid.calls kv e.f0 e.f1 Ae ce e.f2 true _ (HT.out.below HB13.out) (Kd.C_below HRE.out HB13.out) HCE.out HKV.out).mono ?_; rintro e_ w8 ⟨rfl, hb8⟩; have HB8 := Aside0.mk hb8; clear hb8)
  have HTA8 := Aside0.mk (HTA.out.below HB8.out)
  have K8 := Aside0.mk (blk_below K1.out HB8.out)
  have HB138 := Aside0.mk (below_step HB13.out HB8.out)
  clear y0 y1 y2
  have y0 : w8.cell? ⟨g3, 0, none⟩ = some (.string e.f0) := (blk_cell K8.out 0).trans rfl
  have y1 : w8.cell? ⟨g3, 1, none⟩ = some (.int .i64 e.f1) := (blk_cell K8.out 1).trans rfl
  go_wp2_with (go_at_call 17; refine (HFC.out _ _ M own F HTA8.out).mono ?_; rintro e_ w2 ⟨rfl, hb2⟩; have HB2 := Aside0.mk hb2; clear hb2)
  go_ret2
  exact ⟨_, rfl, Kd.S_nil _ _ _ _ _, below_step HB138.out HB2.out⟩

def tonDrop (L : List S26) (mode : Int) (nm : ByteArray) : List S26 × Bool :=
 if tonOk L = true then
  if nmHas (L.filter (fun e => e.f1 == mode)) nm = true then (catM (fun j => if j = mode then (L.filter (fun e => e.f1 == mode)).eraseIdx (nmAt (L.filter (fun e => e.f1 == mode)) nm) else L.filter (fun e => e.f1 == j)) 8, true)
  else ([], false)
 else ([], false)
theorem S_cap {α : Type} {d : Kd α} {e base n c : Nat} {a : Addr} {ok : Nat → Prop} {W : World} {xs : List α} (h : Kd.S d e W base ok (.slice (some a) n c) xs) : c ≤ maxLen := by
 obtain ⟨inner, hown⟩ := Kd.S_own h
 rcases hown.2 with ⟨hv, _⟩ | ⟨g', cap', cur, hv, hb, hh, hnc', hcm, hcs, htake⟩
 ·
  cases hv
 ·
  injection hv with _ _ hc
  rw [hc]; exact hcm
set_option maxHeartbeats 2000000 in
set_option maxRecDepth 100000 in
theorem impl_TonaryDrop_calls (L : List S26) (mode : Int) (nm : ByteArray) (A0 : Option Addr) (c0 : Nat) (w : World) (ht : MTab w) (hr0 : Kd.C k26 w A0 L.length L) (hc0 : L.length ≤ c0) (hz : entSz L = true) :
 Calls Tryd.prog 8 #[.slice A0 L.length c0, .int .i64 mode, .string nm] w fun e w' => ∃ v, e = .returned (.tuple #[v, .bool (tonDrop L mode nm).2]) ∧ Kd.S k26 26 w' w.heap.size (fun _ => True) v (tonDrop L mode nm).1 ∧ Below w.heap.size w w' := by
 have HT := Aside0.mk ht
 have HR0 := Aside0.mk hr0
 have HC0 := Aside0.mk hc0
 have HZ := Aside0.mk (entSz_all hz)
 have hc := impl_tonaryOf_calls L A0 c0 w HT.out HR0.out HC0.out HZ.out
 clear ht hr0 hc0 hz
 unfold tonDrop
 cases hk : tonOk L
 ·
  rw [hk] at hc
  rw [if_neg (by decide)]
  clear hk
  go_enter Tryd.func8, Tryd.ntmps8
  go_wp2_with (go_at_call 15; refine hc.mono ?_; rintro e w1 ⟨p, rfl, hm, hb⟩; have HB := Aside0.mk hb; clear hm hb hc)
  go_ret2
  exact ⟨_, rfl, Kd.S_nil _ _ _ _ _, HB.out⟩
 ·
  rw [hk] at hc
  rw [if_pos rfl]
  have HOK := Aside0.mk ((tonOk_iff L).1 hk)
  clear hk
  obtain ⟨X, hX⟩ : ∃ X, X = L.filter (fun e => e.f1 == mode) := ⟨_, rfl⟩
  rw [← hX]
  have hXl : X.length ≤ 20 := by rw [hX]; exact Nat.le_trans (List.length_filter_le _ _) HOK.out.1
  have HX := Aside0.mk hX
  have hfc := fun (w1 : World) (base M : Nat) (own : Nat → Int) (F : Int → Option Value) (hta : TonAt w1 base M own F (fun k => L.filter (fun e => e.f1 == k))) => find_calls w1 base M own F _ mode nm hta (by rw [← HX.out]; omega) (srt_names HOK.out.2.2 mode)
  rw [← hX] at hfc
  have HFC := Aside0.mk hfc
  obtain ⟨i, hi⟩ : ∃ i, i = nmAt X nm := ⟨_, rfl⟩
  have hil : i ≤ X.length := by rw [hi]; exact nmAt_le X nm
  rw [← hi] at hfc ⊢
  have HI := Aside0.mk hi
  clear HFC hX hi
  have HFC := Aside0.mk hfc
  clear hfc
  cases hf : nmHas X nm
  ·
   rw [if_neg (by decide)]
   rw [hf] at HFC
   clear hf
   go_enter Tryd.func8, Tryd.ntmps8
   go_wp2_with (first
    | (go_at_call 15; refine hc.mono ?_; rintro e w1 ⟨p, rfl, hm, hb⟩; obtain ⟨M, rfl, own, F, hta⟩ := hm rfl; have HB := Aside0.mk hb; have HTA := Aside0.mk hta; clear hm hb hc hta)
    | (go_at_call 17; refine (HFC.out _ _ M own F HTA.out).mono ?_; rintro e w2 ⟨rfl, hb2⟩; have HB2 := Aside0.mk (below_step HB.out hb2); clear hb2))
   go_ret2
   exact ⟨_, rfl, Kd.S_nil _ _ _ _ _, HB2.out⟩
  ·
   rw [if_pos rfl]
   rw [hf] at HFC
   have hlt : i < X.length := by
    unfold nmHas at hf
    rw [Bool.and_eq_true, ← HI.out] at hf
    exact of_decide_eq_true hf.1
   have HNE : Aside0 (X ≠ []) := ⟨fun e => by rw [e] at hlt; exact Nat.not_lt_zero _ hlt⟩
   clear hf
   go_enter Tryd.func8, Tryd.ntmps8
   go_upto_region 7 with (first
    | (go_at_call 15; refine hc.mono ?_; rintro e w1 ⟨p, rfl, hm, hb⟩; obtain ⟨M, rfl, own, F, hta⟩ := hm rfl; have HB := Aside0.mk hb; have HTA := Aside0.mk hta; clear hm hb hc hta)
    | (go_at_call 17; refine (HFC.out _ _ M own F HTA.out).mono ?_; rintro e w2 ⟨rfl, hb2⟩; have HB2 := Aside0.mk (below_step HB.out hb2); have HTA2 := Aside0.mk (HTA.out.below hb2); clear hb2))
   obtain ⟨v0, hv0⟩ : ∃ v0, v0 = (F mode).getD (.slice none 0 0) := ⟨_, rfl⟩
   have hrow := HTA2.out.row mode
   have lk := HTA2.out.look mode
   rw [← hv0] at hrow lk
   have hrow2 : Kd.S k26 26 w2 w.heap.size (fun b => own b = mode ∧ b ≠ M) v0 X := by rw [HX.out]; exact hrow
   obtain ⟨g, cap, rfl, hgb, hgl, _⟩ := Kd.S_form hrow2 (by omega)
   have HD := Aside0.mk (delete_calls X g cap i w.heap.size _ w2 hrow2 HB2.out.size hlt (by omega) (S_cap hrow2))
   have HGB := Aside0.mk hgb
   have HV := Aside0.mk hv0
   have HW := Aside0.mk (w64 (x := (i : Int) + 1) (by omega) (by omega))
   have hil0 : (i : Int) + 1 ≤ 100 := by omega
   clear hrow hrow2 hv0 hgb hgl HTA HB
   go_upto_region 8 with (go_at_call 24; refine HD.out.mono ?_; rintro e w5 ⟨rfl, ho5, hg5⟩; obtain ⟨es, clk, hput, hmap⟩ := TonAt.append (k := mode) HTA2.out (Below.refl _ _) (w2 := w5) (by rw [← HV.out]; exact hg5) (Kd.S_mono ho5 (fun b hb => .inl hb)); have HMAP := Aside0.mk hmap; have HB5 := Aside0.mk (pw_below_grown HB2.out (some g) HB2.out.size hg5 (fun k e => by cases e; exact HGB.out)); clear hmap ho5 hg5)
   have HBE := Aside0.mk (below_setBlock HB5.out HTA2.out.1 (o := .map es clk))
   have HMX := Aside0.mk (HMAP.out.cong (G' := fun j => if j = mode then X.eraseIdx i else L.filter (fun e => e.f1 == j)) (fun j => rfl))
   clear HB5 HMAP hput
   generalize ChangeMaps.setBlock w5 M (.map es clk) = w6 at HBE HMX ⊢
   have HL := Aside0.mk (impl_list_calls w w6 M _ HBE.out HMX.out (fun k => by
    show (if k = mode then X.eraseIdx i else L.filter (fun e => e.f1 == k)).length ≤ 1000
    split
    ·
     exact Nat.le_trans (List.length_eraseIdx_le _ _) (by omega)
    ·
     exact Nat.le_trans (List.length_filter_le _ _) (by have := HOK.out.1; omega)))
   go_wp2_with (go_at_call 20; refine HL.out.mono ?_; rintro e w7 ⟨v, rfl, ho7, hb7⟩; have HO7 := Aside0.mk ho7; have HB7 := Aside0.mk hb7; clear ho7 hb7)
   go_ret2
   exact ⟨_, rfl, HO7.out, HB7.out⟩

set_option maxHeartbeats 1000000 in
set_option maxRecDepth 100000 in
theorem impl_TonaryValid_calls (L : List S26) (A0 : Option Addr) (c0 : Nat) (w : World) (ht : MTab w) (hr0 : Kd.C k26 w A0 L.length L) (hc0 : L.length ≤ c0) (hz : entSz L = true) :
 Calls Tryd.prog 11 #[.slice A0 L.length c0] w fun e w' => e = .returned (.bool (tonOk L)) ∧ Below w.heap.size w w' := by
 have HT := Aside0.mk ht
 have HR0 := Aside0.mk hr0
 have HC0 := Aside0.mk hc0
 have HZ := Aside0.mk (entSz_all hz)
 clear ht hr0 hc0 hz
 go_enter Tryd.func11, Tryd.ntmps11
 go_wp2_with (go_at_call 15; refine (impl_tonaryOf_calls L A0 c0 w HT.out HR0.out HC0.out HZ.out).mono ?_; rintro e w1 ⟨p, rfl, hm, hb⟩; have HB := Aside0.mk hb; clear hm hb)
 go_ret
 exact ⟨rfl, HB.out⟩

end Go.Proofs.YtknfnmdfdkdipaaDoor.Pure
namespace Go.Proofs.YtknfnmdfdkdipaaDoor.Pure
set_option linter.unusedVariables false
set_option linter.unusedSimpArgs false
open Go Go.RowKit Go.Proofs.YtknfnmdfdkdipaaDoor.PFnTonaryAdd Go.Proofs.YtknfnmdfdkdipaaDoorW.PrintWords Go.Proofs.YtknfnmdfdkdipaaDoorW.PrintLast Go.Proofs.YtknfnmdfdkdipaaDoorW.PrintMore

theorem nm_ne {a b : ByteArray} (h : nmLt a b = true) : a ≠ b := fun e => by rw [e, nmLt_irrefl] at h; cases h
theorem nmHas_iff {X : List S26} (hp : X.Pairwise (fun a b => nmLt a.f0 b.f0 = true)) (nm : ByteArray) : nmHas X nm = true ↔ ∃ e ∈ X, e.f0 = nm := by
 unfold nmHas
 rw [Bool.and_eq_true, decide_eq_true_iff, decide_eq_true_iff]
 constructor
 ·
  rintro ⟨h1, h2⟩
  exact ⟨_, rd_ent X _ h1, h2⟩
 ·
  rintro ⟨e, he, hn⟩
  obtain ⟨j, hj, rfl⟩ := List.mem_iff_getElem.1 he
  have hrj : rd_T26 X (j : Int) = X[j] := by unfold rd_T26; rw [Int.toNat_natCast, List.getD_eq_getElem?_getD, List.getElem?_eq_getElem hj]; rfl
  have h1 := nmAt_mono X hp nm j hj
  rw [hrj, hn, nmLt_irrefl] at h1
  have hji : nmAt X nm ≤ j := Nat.not_lt.1 (of_decide_eq_false h1.symm)
  have hlt : nmAt X nm < X.length := by omega
  refine ⟨hlt, ?_⟩
  rcases Nat.lt_or_ge (nmAt X nm) j with h2 | h2
  ·
   have h3 := nmAt_mono X hp nm _ hlt
   have h4 := List.pairwise_iff_getElem.1 hp _ _ hlt hj h2
   have hri : rd_T26 X (nmAt X nm : Int) = X[nmAt X nm] := by unfold rd_T26; rw [Int.toNat_natCast, List.getD_eq_getElem?_getD, List.getElem?_eq_getElem hlt]; rfl
   rw [hn] at h4
   rw [hri, h4] at h3
   exact absurd (of_decide_eq_true h3.symm) (Nat.lt_irrefl _)
  ·
   have : nmAt X nm = j := by omega
   rw [this, hrj, hn]

def insAt (L : List S26) (n : Nat) (e : S26) : List S26 := L.take n ++ e :: L.drop n
def befN (L : List S26) (e : S26) : Nat := (L.takeWhile (fun x => befE x e)).length
def tonRes (Z : List S26) : List S26 × Bool := if tonOk Z = true then (Z, true) else ([], false)
def tonAdd (L : List S26) (e : S26) : List S26 × Bool := if tonOk L = true then tonRes (insAt L (befN L e) e) else ([], false)
theorem insAt_len (L : List S26) (n : Nat) (e : S26) : (insAt L n e).length = L.length + 1 := by
 unfold insAt
 rw [List.length_append, List.length_cons, List.length_take, List.length_drop]; omega

theorem befN_split (e : S26) : ∀ L : List S26, Srt L → ∃ A B, L = A ++ B ∧ A.length = befN L e ∧ (∀ x ∈ A, befE x e = true) ∧ (∀ x ∈ B, befE x e = false)
 | [], _ => ⟨[], [], rfl, rfl, fun _ h => (by cases h), fun _ h => (by cases h)⟩
 | x :: L, hs => by
  obtain ⟨h1, h2⟩ := List.pairwise_cons.1 hs
  cases hx : befE x e
  ·
   refine ⟨[], x :: L, rfl, by unfold befN; rw [List.takeWhile_cons, hx]; rfl, fun _ h => (by cases h), fun y hy => ?_⟩
   rcases List.mem_cons.1 hy with rfl | hy
   ·
    exact hx
   ·
    cases hye : befE y e
    ·
     rfl
    ·
     rw [befE_trans (h1 y hy) hye] at hx; cases hx
  ·
   obtain ⟨A, B, hL, hl, hA, hB⟩ := befN_split e L h2
   refine ⟨x :: A, B, by rw [hL]; rfl, ?_, fun y hy => ?_, hB⟩
   ·
    unfold befN
    rw [List.takeWhile_cons, hx, if_pos rfl, List.length_cons, List.length_cons, hl]; rfl
   ·
    rcases List.mem_cons.1 hy with rfl | hy
    ·
     exact hx
    ·
     exact hA y hy
theorem key_same {a b : S26} (h1 : befE a b = false) (h2 : befE b a = false) : a.f1 = b.f1 ∧ a.f0 = b.f0 := by
 have n1 : ¬ (a.f1 < b.f1 ∨ (a.f1 = b.f1 ∧ nmLt a.f0 b.f0 = true)) := fun h => by rw [(befE_iff a b).2 h] at h1; cases h1
 have n2 : ¬ (b.f1 < a.f1 ∨ (b.f1 = a.f1 ∧ nmLt b.f0 a.f0 = true)) := fun h => by rw [(befE_iff b a).2 h] at h2; cases h2
 have e1 : a.f1 = b.f1 := by omega
 refine ⟨e1, nm_eq_of ?_ ?_⟩
 ·
  cases h : nmLt a.f0 b.f0
  ·
   rfl
  ·
   exact absurd (.inr ⟨e1, h⟩) n1
 ·
  cases h : nmLt b.f0 a.f0
  ·
   rfl
  ·
   exact absurd (.inr ⟨e1.symm, h⟩) n2
theorem nmAt_split (A B : List S26) (nm : ByteArray) (hA : ∀ x ∈ A, nmLt x.f0 nm = true) (hB : ∀ x ∈ B, nmLt x.f0 nm = false) : nmAt (A ++ B) nm = A.length := by
 unfold nmAt
 rw [List.takeWhile_append_of_pos (by simpa using hA)]
 cases B with
 | nil => simp
 | cons b B => rw [List.takeWhile_cons, hB b List.mem_cons_self]; simp

theorem tonAddI_eq (L : List S26) (e : S26) : tonAddI L e = tonAdd L e := by
 unfold tonAddI tonAdd
 by_cases hk : tonOk L = true
 ·
  rw [if_pos hk, if_pos hk]
  obtain ⟨hlen, hok, hs⟩ := (tonOk_iff L).1 hk
  have hp := srt_names hs e.f1
  obtain ⟨A, B, hL, hAl, hA, hB⟩ := befN_split e L hs
  have hins : insAt L (befN L e) e = A ++ e :: B := by
   unfold insAt
   rw [← hAl, hL, List.take_left' rfl, List.drop_left' rfl]
  rw [hins]
  have hil : (A ++ e :: B).length = L.length + 1 := by rw [hL, List.length_append, List.length_append, List.length_cons]; omega
  have hmem : ∀ x, x ∈ A ++ e :: B ↔ x ∈ L ∨ x = e := by
   intro x
   rw [hL, List.mem_append, List.mem_cons, List.mem_append]
   constructor
   ·
    rintro (h | h | h)
    ·
     exact .inl (.inl h)
    ·
     exact .inr h
    ·
     exact .inl (.inr h)
   ·
    rintro ((h | h) | h)
    ·
     exact .inl h
    ·
     exact .inr (.inr h)
    ·
     exact .inr (.inl h)
  unfold tonRes
  by_cases he : entOk e = true
  ·
   rw [if_pos he]
   by_cases h20 : L.length = 20
   ·
    rw [if_pos h20, if_neg]
    rw [tonOk_iff, hil]
    rintro ⟨h, _⟩
    omega
   ·
    rw [if_neg h20]
    by_cases hh : nmHas (L.filter (fun x => x.f1 == e.f1)) e.f0 = true
    ·
     rw [if_pos hh, if_neg]
     rw [tonOk_iff]
     rintro ⟨_, _, hs2⟩
     obtain ⟨x, hx, hn⟩ := (nmHas_iff hp e.f0).1 hh
     rw [List.mem_filter] at hx
     have hm : x.f1 = e.f1 := by simpa using hx.2
     have n1 : befE x e = false := by
      cases h : befE x e
      ·
       rfl
      ·
       rw [befE_iff, hn, nmLt_irrefl] at h
       rcases h with h | ⟨_, h⟩
       ·
        omega
       ·
        cases h
     have hxB : x ∈ B := by
      have := hx.1
      rw [hL, List.mem_append] at this
      rcases this with h | h
      ·
       rw [hA x h] at n1; cases n1
      ·
       exact h
     have h2 := (List.pairwise_cons.1 (List.pairwise_append.1 hs2).2.1).1 x hxB
     rw [befE_iff, hn, nmLt_irrefl] at h2
     rcases h2 with h | ⟨_, h⟩
     ·
      omega
     ·
      cases h
    ·
     rw [if_neg hh]
     have hBe : ∀ x ∈ B, befE e x = true := by
      intro x hx
      cases h : befE e x
      ·
       exfalso
       obtain ⟨k1, k2⟩ := key_same (hB x hx) h
       exact hh ((nmHas_iff hp e.f0).2 ⟨x, by rw [List.mem_filter, hL]; exact ⟨List.mem_append_right _ hx, by simp [k1]⟩, k2⟩)
      ·
       rfl
     have hs2 : Srt (A ++ e :: B) := by
      rw [hL] at hs
      obtain ⟨s1, s2, s3⟩ := List.pairwise_append.1 hs
      refine List.pairwise_append.2 ⟨s1, List.pairwise_cons.2 ⟨hBe, s2⟩, fun a ha b hb => ?_⟩
      rcases List.mem_cons.1 hb with rfl | hb
      ·
       exact hA a ha
      ·
       exact s3 a ha b hb
     have hoks : ∀ x ∈ A ++ e :: B, entOk x = true := fun x hx => by
      rcases (hmem x).1 hx with h | rfl
      ·
       exact hok x h
      ·
       exact he
     rw [if_pos ((tonOk_iff _).2 ⟨by rw [hil]; omega, hoks, hs2⟩)]
     refine Prod.ext ?_ rfl
     refine (catM_cong 8 (fun k h1 h2 => ?_)).trans (catM_eq hs2 (fun x hx => entOk_mode (hoks x hx)))
     rw [List.filter_append]
     by_cases hke : k = e.f1
     ·
      subst hke
      have hAf : ∀ x ∈ A.filter (fun x => x.f1 == e.f1), nmLt x.f0 e.f0 = true := by
       intro x hx
       rw [List.mem_filter] at hx
       have h1 := (befE_iff x e).1 (hA x hx.1)
       have h2 : x.f1 = e.f1 := by simpa using hx.2
       rcases h1 with h | h
       ·
        omega
       ·
        exact h.2
      have hBf : ∀ x ∈ B.filter (fun x => x.f1 == e.f1), nmLt x.f0 e.f0 = false := by
       intro x hx
       rw [List.mem_filter] at hx
       have h2 : x.f1 = e.f1 := by simpa using hx.2
       cases h : nmLt x.f0 e.f0
       ·
        rfl
       ·
        have := (befE_iff x e).2 (.inr ⟨h2, h⟩)
        rw [hB x hx.1] at this; cases this
      rw [if_pos rfl, hL, List.filter_append, nmAt_split _ _ _ hAf hBf, List.take_left' rfl, List.drop_left' rfl, List.filter_cons_of_pos (by simp)]
     ·
      rw [if_neg hke, hL, List.filter_append, List.filter_cons_of_neg (by simp; exact fun h => hke h.symm)]
  ·
   rw [if_neg he, if_neg]
   rw [tonOk_iff]
   rintro ⟨_, h, _⟩
   exact he (h e ((hmem e).2 (.inr rfl)))
 ·
  rw [if_neg hk, if_neg hk]

def notE (mode : Int) (nm : ByteArray) (e : S26) : Bool := !(e.f1 == mode && decide (e.f0 = nm))
theorem erase_filter : ∀ (X : List S26), X.Pairwise (fun a b => nmLt a.f0 b.f0 = true) → ∀ (i : Nat) (nm : ByteArray), i < X.length → (rd_T26 X (i : Int)).f0 = nm → X.eraseIdx i = X.filter (fun e => !decide (e.f0 = nm))
 | [], _, i, _, hi, _ => absurd hi (Nat.not_lt_zero i)
 | e :: X, hp, 0, nm, _, hn => by
  obtain ⟨h1, h2⟩ := List.pairwise_cons.1 hp
  have hn : e.f0 = nm := hn
  rw [List.eraseIdx_cons_zero, List.filter_cons_of_neg (by simp [hn])]
  refine (List.filter_eq_self.2 (fun x hx => ?_)).symm
  have := nm_ne (h1 x hx)
  rw [hn] at this
  simp [Ne.symm this]
 | e :: X, hp, i + 1, nm, hi, hn => by
  obtain ⟨h1, h2⟩ := List.pairwise_cons.1 hp
  have hl : i < X.length := by simp at hi; omega
  rw [rd_cons_succ] at hn
  have := nm_ne (h1 _ (rd_ent X i hl))
  rw [hn] at this
  rw [List.eraseIdx_cons_succ, List.filter_cons_of_pos (by simp [this]), erase_filter X h2 i nm hl hn]
theorem tonDrop_eq (L : List S26) (mode : Int) (nm : ByteArray) : tonDrop L mode nm = if tonOk L = true then (if (L.filter (notE mode nm)).length = L.length then ([], false) else (L.filter (notE mode nm), true)) else ([], false) := by
 unfold tonDrop
 by_cases hk : tonOk L = true
 ·
  rw [if_pos hk, if_pos hk]
  obtain ⟨hlen, hok, hs⟩ := (tonOk_iff L).1 hk
  have hp := srt_names hs mode
  obtain ⟨X, hX⟩ : ∃ X, X = L.filter (fun e => e.f1 == mode) := ⟨_, rfl⟩
  rw [← hX] at hp ⊢
  by_cases hh : nmHas X nm = true
  ·
   rw [if_pos hh]
   obtain ⟨e, he, hn⟩ := (nmHas_iff hp nm).1 hh
   rw [hX, List.mem_filter] at he
   have hne : ¬ (L.filter (notE mode nm)).length = L.length := fun h => by
    have := List.length_filter_eq_length_iff.1 h e he.1
    unfold notE at this
    rw [he.2, hn] at this
    simp at this
   rw [if_neg hne]
   unfold nmHas at hh
   rw [Bool.and_eq_true] at hh
   have herase := erase_filter X hp (nmAt X nm) nm (of_decide_eq_true hh.1) (of_decide_eq_true hh.2)
   rw [herase]
   have hsub : (L.filter (notE mode nm)).Sublist L := List.filter_sublist
   refine Prod.ext ?_ rfl
   refine (catM_cong 8 (fun k h1 h2 => ?_)).trans (catM_eq (List.Pairwise.sublist hsub hs) (fun e he => entOk_mode (hok e (hsub.subset he))))
   rw [List.filter_filter]
   by_cases e : k = mode
   ·
    subst e
    rw [if_pos rfl, hX, List.filter_filter]
    refine List.filter_congr fun x _ => ?_
    unfold notE
    cases x.f1 == k <;> simp
   ·
    rw [if_neg e]
    refine List.filter_congr fun x _ => ?_
    unfold notE
    by_cases e2 : x.f1 = k
    ·
     have : ¬ k = mode := e
     simp [e2, this]
    ·
     simp [e2]
  ·
   rw [if_neg hh]
   have hall : (L.filter (notE mode nm)).length = L.length := by
    refine List.length_filter_eq_length_iff.2 fun e he => ?_
    unfold notE
    by_cases h1 : e.f1 = mode
    ·
     have : ¬ e.f0 = nm := fun h2 => hh ((nmHas_iff hp nm).2 ⟨e, by rw [hX, List.mem_filter]; exact ⟨he, by simp [h1]⟩, h2⟩)
     simp [this]
    ·
     simp [h1]
   rw [if_pos hall]
 ·
  rw [if_neg hk, if_neg hk]

end Go.Proofs.YtknfnmdfdkdipaaDoor.Pure
namespace Go.Proofs.YtknfnmdfdkdipaaDoor.PFnTonaryAdd
set_option linter.unusedVariables false
set_option linter.unusedSimpArgs false
open Go Go.RowKit Go.Proofs.YtknfnmdfdkdipaaDoor.Pure Go.Proofs.YtknfnmdfdkdipaaDoorW.PrintWords Go.Proofs.YtknfnmdfdkdipaaDoorW.PrintLast Go.Proofs.YtknfnmdfdkdipaaDoorW.PrintMore
def impl_TonaryAdd.f (l0 : List S26) (a1_0 : ByteArray) (a1_1 : Int) (l1_2 : List S74) : Option (List S26 × Bool) := if entSz l0 = true ∧ a1_0.size ≤ 9000000000000000 ∧ l1_2.length ≤ 1000000000000 then some (tonAdd l0 ⟨a1_0, a1_1, l1_2⟩) else none
theorem impl_TonaryAdd.calls (A0 : Option Addr) (c0 : Nat) (l0 : List S26) (a1_0 : ByteArray) (a1_1 : Int) (A1_2 : Option Addr) (c1_2 : Nat) (l1_2 : List S74) (r1 : List S26) (r2 : Bool) (w : World) (ht : DTab w) (hr0 : Kd.C k26 w A0 l0.length l0) (hc0 : l0.length ≤ c0) (hr1_2 : Kd.C k74 w A1_2 l1_2.length l1_2) (hc1_2 : l1_2.length ≤ c1_2) (h : impl_TonaryAdd.f l0 a1_0 a1_1 l1_2 = some (r1, r2)) :
 Calls Tryd.prog 5 #[.slice A0 l0.length c0, .agg #[.string a1_0, .int .i64 a1_1, .slice A1_2 l1_2.length c1_2]] w fun e w' => ∃ v0_ : Value, e = .returned (.tuple #[v0_, .bool r2]) ∧ Kd.S k26 26 w' w.heap.size (fun _ => True) v0_ r1 ∧ Below w.heap.size w w' := by
 unfold impl_TonaryAdd.f at h; split at h
 ·
  rename_i hh
  injection h with h
  have := impl_TonaryAdd_calls l0 ⟨a1_0, a1_1, l1_2⟩ A0 c0 A1_2 c1_2 w ht.m hr0 hc0 hr1_2 hc1_2 hh.1 hh.2; rw [tonAddI_eq, h] at this; exact this
 ·
  cases h

end Go.Proofs.YtknfnmdfdkdipaaDoor.PFnTonaryAdd
namespace Go.Proofs.YtknfnmdfdkdipaaDoor.PFnTonaryAdd
open Go.RowKit Go.Proofs.YtknfnmdfdkdipaaDoorW.PrintWords Go.Proofs.YtknfnmdfdkdipaaDoorW.PrintLast Go.Proofs.YtknfnmdfdkdipaaDoorW.PrintMore
attribute [local go_sem] max2_int min2_int max_two min_two max_three min_three max_four min_four   -- for this text's walks alone
set_option linter.unusedVariables false
set_option linter.unusedSimpArgs false

theorem eqA74 (d : Nat) (w : World) (x0 y0 : Int) (x1 y1 : Bool) :
 (Op.equalIn (d + 2) 74 (.agg #[.int .i64 x0, .bool x1]) (.agg #[.int .i64 y0, .bool y1])).run Tryd.prog w = .ok (x0 == y0 && (x1 == y1)) w := by
 refine eqA_of Tryd.underlying74 (by kernel_rfl) ?_; refine eqf_cons (by rfl) (by go_simp; rfl) (by go_simp; rfl) (by go_simp) ?_; exact eqf_last (by rfl) (by go_simp; rfl) (by go_simp; rfl) (by go_simp)
end Go.Proofs.YtknfnmdfdkdipaaDoor.PFnTonaryAdd
namespace Go.Proofs.YtknfnmdfdkdipaaDoor.PFnTonaryAdd
open Go.RowKit Go.Proofs.YtknfnmdfdkdipaaDoorW.PrintWords Go.Proofs.YtknfnmdfdkdipaaDoorW.PrintLast Go.Proofs.YtknfnmdfdkdipaaDoorW.PrintMore
attribute [local go_sem] max2_int min2_int max_two min_two max_three min_three max_four min_four   -- for this text's walks alone
set_option linter.unusedVariables false
set_option linter.unusedSimpArgs false

attribute [local go_sem high] eqA74
def laws_sameTones.l0 : Nat → List (S74) → List (S74) → Int → Option (Bool)
 | 0, _, _, _ => none
 | k + 1, x0, x1, x5 => if x5 < (x0.length : Int) then (if 0 ≤ x5 then (if x5 < (x1.length : Int) then (if (!(((rd_T74 x0 x5).f0) == ((rd_T74 x1 x5).f0)) || (!(((rd_T74 x0 x5).f1) == ((rd_T74 x1 x5).f1)))) = true then (some false) else (laws_sameTones.l0 k x0 x1 (wrap64 (x5 + 1)))) else (none)) else (none)) else (some true)
def laws_sameTones.f (k : Nat) (l0 : List (S74)) (l1 : List (S74)) : Option (Bool) := if (l0.length : Int) = (l1.length : Int) then (laws_sameTones.l0 k l0 l1 0) else (some false)
set_option maxHeartbeats 8000000 in
set_option maxRecDepth 100000 in
theorem laws_sameTones.calls (k : Nat) (A0 : Option Addr) (c0 : Nat) (l0 : List (S74)) (A1 : Option Addr) (c1 : Nat) (l1 : List (S74)) (r : Bool) (w : World) (hr0 : Kd.C k74 w A0 l0.length l0) (hc0 : l0.length ≤ c0) (hr1 : Kd.C k74 w A1 l1.length l1) (hc1 : l1.length ≤ c1) (h : laws_sameTones.f k l0 l1 = some r) :
 Calls Tryd.prog 27 #[.slice A0 l0.length c0, .slice A1 l1.length c1] w fun e w' => e = .returned (.bool r) ∧ Drawn0 w w' := by
 have hu74 := Tryd.underlying74; have HR0 := Aside0.mk hr0; have HC0 := Aside0.mk hc0; clear hr0 hc0; have HR1 := Aside0.mk hr1; have HC1 := Aside0.mk hc1; clear hr1 hc1; have H : (if (l0.length : Int) = (l1.length : Int) then (laws_sameTones.l0 k l0 l1 0) else (some false)) = some r := h; clear h; by_cases c3 : (l0.length : Int) = (l1.length : Int)
 ·
  rw [if_pos c3] at H; have c3b0 : ((l0.length : Int) == (l1.length : Int)) = true := beq_iff_eq.mpr c3; have c3b1 : ((l0.length : Int) != (l1.length : Int)) = false := bne_eq_false_iff_eq.mpr c3; have c3b2 : (l0.length == l1.length) = true := by first | simpa using c3 | (simp at c3 ⊢; omega)
  clear c3; have H' := Aside0.mk H; clear H; go_enter Tryd.func27, Tryd.ntmps27
  go_wp2; repeat (go_quiet (fail); try go_wp2)
  go_loopg [5] k (fun kq v5 w' => ∃ (x5_1 : Int), v5 = .int .i64 x5_1 ∧ Aside0 (laws_sameTones.l0 kq l0 l1 x5_1 = some r) ∧ Aside0 (kq ≤ k) ∧ Drawn0 w w')
  case atStart => exact ⟨(0), (by first | rfl | (simp; done) | (simp [*]; done)), H', ⟨Nat.le_refl _⟩, by repeat (first | exact Drawn0.refl _ | apply Drawn0.step)⟩
  case round =>
   clear H'; try clear c1
   try clear c2
   try clear p2
   try clear c3
   try clear c3b0
   try clear c3b1
   try clear c3b2
   obtain ⟨x5_1, rfl, HA, HK1, ⟨m1, rfl⟩⟩ := hrel; cases gk with
   | zero => exact absurd HA.out (by simp [laws_sameTones.l0])
   | succ k1 =>
    have H := HA.out; clear HA; simp only [laws_sameTones.l0] at H; by_cases c4 : x5_1 < (l0.length : Int)
    ·
     rw [if_pos c4] at H; have c4b0 : decide (x5_1 < (l0.length : Int)) = true := decide_eq_true c4; clear c4; by_cases c5 : 0 ≤ x5_1
     ·
      rw [if_pos c5] at H; have c5b0 : decide (0 ≤ x5_1) = true := decide_eq_true c5; clear c5; by_cases c6 : x5_1 < (l1.length : Int)
      ·
       rw [if_pos c6] at H; have c6b0 : decide (x5_1 < (l1.length : Int)) = true := decide_eq_true c6; clear c6; by_cases c7 : (!(((rd_T74 l0 x5_1).f0) == ((rd_T74 l1 x5_1).f0)) || (!(((rd_T74 l0 x5_1).f1) == ((rd_T74 l1 x5_1).f1)))) = true
       ·
        rw [if_pos c7] at H; have c7b0 : (!(((rd_T74 l0 x5_1).f0) == ((rd_T74 l1 x5_1).f0)) || (!(((rd_T74 l0 x5_1).f1) == ((rd_T74 l1 x5_1).f1)))) = true := c7; clear c7; obtain rfl := Option.some.inj H; have p311 : 0 ≤ (x5_1 : Int) := of_decide_eq_true (by first | (with_reducible assumption) | assumption); have q311 : x5_1 < (l0.length : Int) := of_decide_eq_true (by first | (with_reducible assumption) | assumption); obtain ⟨ad311, e311, hx311_0, hx311_1⟩ := at_T74 HR0.out x5_1 p311 q311; cases e311; replace p311 := eq_true p311; replace q311 := eq_true q311; have p312 : 0 ≤ (x5_1 : Int) := of_decide_eq_true (by first | (with_reducible assumption) | assumption); have q312 : x5_1 < (l1.length : Int) := of_decide_eq_true (by first | (with_reducible assumption) | assumption); obtain ⟨ad312, e312, hx312_0, hx312_1⟩ := at_T74 HR1.out x5_1 p312 q312; cases e312; replace p312 := eq_true p312; replace q312 := eq_true q312; go_wp2; repeat (go_quiet (fail); try go_wp2)
        go_ret
        exact ⟨by first | rfl | (simp; done) | (simp [*]; done), by repeat (first | exact Drawn0.refl _ | apply Drawn0.step)⟩
       ·
        rw [if_neg c7] at H; have c7b0 : (!(((rd_T74 l0 x5_1).f0) == ((rd_T74 l1 x5_1).f0)) || (!(((rd_T74 l0 x5_1).f1) == ((rd_T74 l1 x5_1).f1)))) = false := by simpa using c7
        clear c7; have H' := Aside0.mk H; clear H; have p311 : 0 ≤ (x5_1 : Int) := of_decide_eq_true (by first | (with_reducible assumption) | assumption); have q311 : x5_1 < (l0.length : Int) := of_decide_eq_true (by first | (with_reducible assumption) | assumption); obtain ⟨ad311, e311, hx311_0, hx311_1⟩ := at_T74 HR0.out x5_1 p311 q311; cases e311; replace p311 := eq_true p311; replace q311 := eq_true q311; have p312 : 0 ≤ (x5_1 : Int) := of_decide_eq_true (by first | (with_reducible assumption) | assumption); have q312 : x5_1 < (l1.length : Int) := of_decide_eq_true (by first | (with_reducible assumption) | assumption); obtain ⟨ad312, e312, hx312_0, hx312_1⟩ := at_T74 HR1.out x5_1 p312 q312; cases e312; replace p312 := eq_true p312; replace q312 := eq_true q312; go_wp2; repeat (go_quiet (fail); try go_wp2)
        go_roundg k1
        case measure => have := HK1.out; omega
        case rel => exact ⟨(wrap64 (x5_1 + 1)), (by first | rfl | (simp; done) | (simp [*]; done)), H', ⟨by have := HK1.out; omega⟩, by repeat (first | exact Drawn0.refl _ | apply Drawn0.step)⟩
      ·
       rw [if_neg c6] at H; exact absurd H (by simp)
     ·
      rw [if_neg c5] at H; exact absurd H (by simp)
    ·
     rw [if_neg c4] at H; have c4b0 : decide (x5_1 < (l0.length : Int)) = false := decide_eq_false c4; clear c4; obtain rfl := Option.some.inj H; go_wp2; repeat (go_quiet (fail); try go_wp2)
     go_ret
     exact ⟨by first | rfl | (simp; done) | (simp [*]; done), by repeat (first | exact Drawn0.refl _ | apply Drawn0.step)⟩
 ·
  rw [if_neg c3] at H; have c3b0 : ((l0.length : Int) == (l1.length : Int)) = false := beq_eq_false_iff_ne.mpr c3; have c3b1 : ((l0.length : Int) != (l1.length : Int)) = true := bne_iff_ne.mpr c3; have c3b2 : (l0.length == l1.length) = false := by first | simpa using c3 | (simp at c3 ⊢; omega)
  obtain rfl := Option.some.inj H; go_enter Tryd.func27, Tryd.ntmps27
  go_wp2; repeat (go_quiet (fail); try go_wp2)
  go_ret
  exact ⟨by first | rfl | (simp; done) | (simp [*]; done), by repeat (first | exact Drawn0.refl _ | apply Drawn0.step)⟩

end Go.Proofs.YtknfnmdfdkdipaaDoor.PFnTonaryAdd
