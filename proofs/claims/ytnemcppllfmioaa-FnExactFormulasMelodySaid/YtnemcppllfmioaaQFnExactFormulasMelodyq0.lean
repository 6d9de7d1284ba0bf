/- Lemmas on the printed functions for the law FnExactFormulasMelody. -/
import Derived.Test.YtnemcppllfmioaaPFnExactFormulasMelodyx5
import Derived.Test.YtnemcppllfmioaaPFnExactFormulasMelodyx3
import Derived.Test.YtnemcppllfmioaaPFnExactFormulasMelodyx9
import Derived.Test.YtnemcppllfmioaaPFnExactFormulasMelodyx4
import Derived.Test.YtnemcppllfmioaaPFnExactFormulasMelodyx7
import Derived.Test.YtnemcppllfmioaaPFnExactFormulasMelodyx10
import Derived.Test.YtnemcppllfmioaaPFnExactFormulasMelodyx31
import Derived.Test.YtnemcppllfmioaaPFnExactFormulasMelodyx32
import Derived.Test.YtnemcppllfmioaaPFnExactFormulasMelodyx33
import Derived.Test.YtnemcppllfmioaaPFnExactFormulasMelodyx21
import Derived.Test.YtnemcppllfmioaaPFnExactFormulasMelodyx26
import Derived.Test.YtnemcppllfmioaaPFnExactFormulasMelodyx16
import Derived.Test.YtnemcppllfmioaaPFnExactFormulasMelodyx29
import Derived.Test.YtnemcppllfmioaaPFnExactFormulasMelodyx20
import Derived.Deep.RegionHeld3
import Derived.BigRegion
import Derived.Deep.Slices
import Derived.Laws.CopyOwn
namespace Go.Proofs.Ytnemcppllfmioaa.Pure
set_option linter.unusedVariables false
set_option linter.unusedSimpArgs false
open Go Go.RowKit Go.Proofs.Ytnemcppllfmioaa.PFnExactFormulasMelody Go.Proofs.YtnemcppllfmioaaW.PrintWords Go.Proofs.YtnemcppllfmioaaW.PrintLast Go.Proofs.YtnemcppllfmioaaW.PrintMore

/-! words: Ev, wrap64, lists -/
theorem Ev.succ {α : Type} {g : Nat → Option α} {r : α} (h : Ev (fun k => g (k + 1)) r) : Ev g r := Ev.step (fun _ => rfl) h
theorem Ev.pos {α : Type} {c : Prop} [Decidable c] {f g : Nat → Option α} {r : α} (hc : c) (h : Ev f r) : Ev (fun k => if c then f k else g k) r := by
  simp only [if_pos hc]; exact h
theorem Ev.neg {α : Type} {c : Prop} [Decidable c] {f g : Nat → Option α} {r : α} (hc : ¬ c) (h : Ev g r) : Ev (fun k => if c then f k else g k) r := by
  simp only [if_neg hc]; exact h
theorem Ev.uniq {α : Type} {g : Nat → Option α} {r r' : α} (h : Ev g r) (h' : Ev g r') : r = r' := by
  obtain ⟨K, h⟩ := h; obtain ⟨K', h'⟩ := h'
  have a := h (max K K') (Nat.le_max_left _ _)
  have b := h' (max K K') (Nat.le_max_right _ _)
  exact Option.some.inj (a.symm.trans b)
theorem Ev.someb {α β : Type} {a : α} {f : Nat → α → Option β} {r : β} (h : Ev (fun n => f n a) r) : Ev (fun n => (some a).bind (f n)) r := h
theorem Ev.conb {α β : Type} {x : Option α} {a : α} {f : Nat → α → Option β} {r : β} (hx : x = some a) (h : Ev (fun n => f n a) r) : Ev (fun n => x.bind (f n)) r := by subst hx; exact h
theorem Ev.eqr {α : Type} {g : Nat → Option α} {r r' : α} (h : Ev g r) (e : r = r') : Ev g r' := e ▸ h
theorem Ev.eqg {α : Type} {g g' : Nat → Option α} {r : α} (h : Ev g r) (e : g' = g) : Ev g' r := e ▸ h
/-- A loop over the places of a list, from the front. -/
theorem Ev.over {α ρ σ : Type} (d : α) (xs : List α) (L : Nat → σ → Int → Option ρ) (F : σ → List α → ρ) (I : Nat → σ → Prop)
    (hend : ∀ s, I xs.length s → Ev (fun k => L k s (xs.length : Int)) (F s []))
    (hstep : ∀ s (i : Nat) rest, I i s → i < xs.length → xs.drop i = xs.getD i d :: rest → (∀ s', I (i + 1) s' → Ev (fun k => L k s' ((i : Int) + 1)) (F s' rest)) → Ev (fun k => L k s (i : Int)) (F s (xs.getD i d :: rest))) :
    ∀ (i : Nat) (s : σ), i ≤ xs.length → I i s → Ev (fun k => L k s (i : Int)) (F s (xs.drop i)) := by
  intro i s hi hI
  obtain ⟨n, hn⟩ : ∃ n, n = xs.length - i := ⟨_, rfl⟩
  induction n generalizing i s with
  | zero =>
    have e : i = xs.length := by omega
    subst e
    rw [List.drop_length]
    exact hend s hI
  | succ n ih =>
    have hlt : i < xs.length := by omega
    have e : xs.drop i = xs.getD i d :: xs.drop (i + 1) := by
      rw [List.drop_eq_getElem_cons hlt, List.getD_eq_getElem?_getD, List.getElem?_eq_getElem hlt]; rfl
    rw [e]
    refine hstep s i _ hI hlt e (fun s' hs' => ?_)
    have := ih (i + 1) s' (by omega) hs' (by omega)
    simpa using this
theorem w64 {x : Int} (h : -9223372036854775808 ≤ x) (h' : x ≤ 9223372036854775807) : wrap64 x = x := by unfold wrap64; omega
theorem xor_bd (x y : Int) (hx : 0 ≤ x) (hx' : x < 4611686018427387904) (hy : 0 ≤ y) (hy' : y < 4611686018427387904) : 0 ≤ Go.bits .xor .i64 x y := by
  obtain ⟨a, rfl⟩ := Int.eq_ofNat_of_zero_le hx
  obtain ⟨b, rfl⟩ := Int.eq_ofNat_of_zero_le hy
  have ha : a < 2 ^ 62 := by omega
  have hb : b < 2 ^ 62 := by omega
  have hc : a ^^^ b < 2 ^ 62 := Nat.xor_lt_two_pow ha hb
  have ha' : a % 2 ^ IntKind.i64.bits = a := Nat.mod_eq_of_lt (Nat.lt_of_lt_of_le ha (by decide))
  have hb' : b % 2 ^ IntKind.i64.bits = b := Nat.mod_eq_of_lt (Nat.lt_of_lt_of_le hb (by decide))
  have e : Go.bits .xor .i64 (a : Int) (b : Int) = ((a ^^^ b : Nat) : Int) := by
    simp only [Go.bits, BitVec.ofInt_natCast, BitVec.toNat_xor, BitVec.toNat_ofNat, ha', hb']
    rw [Go.IntKind.wrap_i64]; omega
  rw [e]; omega
theorem rd_nat (xs : List Int) (i : Nat) : rd xs (i : Int) = xs.getD i 0 := rfl
theorem mx_le (a b : Int) : a ≤ mx a b ∧ b ≤ mx a b ∧ (mx a b = a ∨ mx a b = b) := by unfold mx; split <;> omega
theorem mn_le (a b : Int) : mn a b ≤ a ∧ mn a b ≤ b ∧ (mn a b = a ∨ mn a b = b) := by unfold mn; split <;> omega
/-- From some number of rounds on there is an answer, and it is such a one. -/
def Evx {α : Type} (g : Nat → Option α) (P : α → Prop) : Prop := ∃ r, Ev g r ∧ P r
theorem Evx.now {α : Type} {P : α → Prop} {r : α} (h : P r) : Evx (fun _ => some r) P := ⟨r, Ev.now r, h⟩
theorem Evx.ev {α : Type} {g : Nat → Option α} {P : α → Prop} {r : α} (h : Ev g r) (hP : P r) : Evx g P := ⟨r, h, hP⟩
theorem Evx.mono {α : Type} {g : Nat → Option α} {P Q : α → Prop} (h : Evx g P) (hPQ : ∀ r, P r → Q r) : Evx g Q := by
  obtain ⟨r, h, hP⟩ := h; exact ⟨r, h, hPQ r hP⟩
theorem Evx.bind {α β : Type} {g : Nat → Option α} {f : Nat → α → Option β} {P : α → Prop} {Q : β → Prop} (h : Evx g P) (k : ∀ a, P a → Evx (fun n => f n a) Q) : Evx (fun n => (g n).bind (f n)) Q := by
  obtain ⟨a, h, hP⟩ := h
  obtain ⟨r, h', hQ⟩ := k a hP
  exact ⟨r, Ev.bind h h', hQ⟩
theorem Evx.succ {α : Type} {g : Nat → Option α} {P : α → Prop} (h : Evx (fun k => g (k + 1)) P) : Evx g P := by
  obtain ⟨r, h, hP⟩ := h; exact ⟨r, Ev.succ h, hP⟩
theorem Evx.pos {α : Type} {c : Prop} [Decidable c] {f g : Nat → Option α} {P : α → Prop} (hc : c) (h : Evx f P) : Evx (fun k => if c then f k else g k) P := by
  simp only [if_pos hc]; exact h
theorem Evx.neg {α : Type} {c : Prop} [Decidable c] {f g : Nat → Option α} {P : α → Prop} (hc : ¬ c) (h : Evx g P) : Evx (fun k => if c then f k else g k) P := by
  simp only [if_neg hc]; exact h
theorem Evx.ite {α : Type} {c : Prop} [Decidable c] {f g : Nat → Option α} {P : α → Prop} (h : c → Evx f P) (h' : ¬ c → Evx g P) : Evx (fun k => if c then f k else g k) P := by
  by_cases hc : c
  · exact Evx.pos hc (h hc)
  · exact Evx.neg hc (h' hc)
theorem Evx.someb {α β : Type} {a : α} {f : Nat → α → Option β} {P : β → Prop} (h : Evx (fun n => f n a) P) : Evx (fun n => (some a).bind (f n)) P := h
theorem Evx.conb {α β : Type} {x : Option α} {a : α} {f : Nat → α → Option β} {P : β → Prop} (hx : x = some a) (h : Evx (fun n => f n a) P) : Evx (fun n => x.bind (f n)) P := by subst hx; exact h
theorem Evx.bind1 {α β : Type} {g : Nat → Option α} {f : Nat → α → Option β} {a : α} {Q : β → Prop} (h : Ev g a) (k : Evx (fun n => f n a) Q) : Evx (fun n => (g n).bind (f n)) Q := by
  obtain ⟨r, h', hQ⟩ := k
  exact ⟨r, Ev.bind h h', hQ⟩
theorem rd_bd {s : List Int} (hs : ∀ x ∈ s, 0 ≤ x ∧ x ≤ 255) (i : Int) : 0 ≤ rd s i ∧ rd s i ≤ 255 := by
  unfold rd
  rw [List.getD_eq_getElem?_getD]
  cases h : s[i.toNat]? with
  | none => simp
  | some v => exact hs v (List.mem_of_getElem? h)
theorem mem_set_of {α : Type} {P : α → Prop} {l : List α} (h : ∀ x ∈ l, P x) (i : Nat) (v : α) (hv : P v) : ∀ x ∈ l.set i v, P x := by
  intro x hx
  rcases List.mem_or_eq_of_mem_set hx with hx | hx
  · exact h x hx
  · exact hx ▸ hv

/-! laws_toFormulaS: as the print has it, but for the value of the inner row, which is opened ahead of the store -/
def laws_toFormulaS.l0 : Nat → List (S98) → List (S55) → Int → Option ((List (S55)))
  | 0, _, _, _ => none
  | k + 1, x0, x3, x4 => if x4 < (x0.length : Int) then (if 0 ≤ x4 then ((laws_toFormula.f k ((rd_T98 x0 x4).f0) ((rd_T98 x0 x4).f1)).bind fun bt120 => (if x4 < (x3.length : Int) then (laws_toFormulaS.l0 k x0 (x3.set (x4 : Int).toNat (⟨bt120.1, bt120.2⟩ : S55)) (wrap64 (x4 + 1))) else (none))) else (none)) else (some x3)
def laws_toFormulaS.f (k : Nat) (l0 : List (S98)) : Option ((List (S55))) := if 0 ≤ (l0.length : Int) then (if ((l0.length : Int) : Int).toNat ≤ 8796093022208 then (laws_toFormulaS.l0 k l0 (List.replicate ((l0.length : Int) : Int).toNat z55) 0) else (none)) else (none)
theorem laws_toFormulaS.mono_l : ∀ k, (∀ y0 y1 y2, LeO (laws_toFormulaS.l0 k y0 y1 y2) (laws_toFormulaS.l0 (k + 1) y0 y1 y2))
  | 0 => fun _ _ _ r h => by simp [laws_toFormulaS.l0] at h
  | k + 1 => by
    have ih0 := laws_toFormulaS.mono_l k
    · intro y0 y1 y2
      unfold laws_toFormulaS.l0
      repeat' first
      | (with_reducible exact ih0 _ _ _)
      | (with_reducible exact laws_toFormula.mono _ _ _)
      | (with_reducible exact LeO.refl _)
      | (with_reducible exact LeO.none _)
      | (with_reducible refine LeO.ite ?_ ?_)
      | (with_reducible refine LeO.bind ?_ (fun _ => ?_))
      | exact ih0 _ _ _
      | exact laws_toFormula.mono _ _ _
      | exact LeO.none _
      | refine LeO.ite ?_ ?_
      | refine LeO.bind ?_ (fun _ => ?_)
theorem laws_toFormulaS.mono : ∀ a0 k, LeO (laws_toFormulaS.f k a0) (laws_toFormulaS.f (k + 1) a0) := by
  intro a0 k
  have ih0 := laws_toFormulaS.mono_l k
  unfold laws_toFormulaS.f
  repeat' first
      | (with_reducible exact ih0 _ _ _)
      | (with_reducible exact laws_toFormula.mono _ _ _)
      | (with_reducible exact LeO.refl _)
      | (with_reducible exact LeO.none _)
      | (with_reducible refine LeO.ite ?_ ?_)
      | (with_reducible refine LeO.bind ?_ (fun _ => ?_))
      | exact ih0 _ _ _
      | exact laws_toFormula.mono _ _ _
      | exact LeO.none _
      | refine LeO.ite ?_ ?_
      | refine LeO.bind ?_ (fun _ => ?_)
set_option maxHeartbeats 8000000 in
set_option maxRecDepth 100000 in
theorem laws_toFormulaS.calls (k : Nat) (A0 : Option Addr) (c0 : Nat) (l0 : List (S98)) (r : List (S55)) (w : World) (hr0 : Kd.C k98 w A0 l0.length l0) (hc0 : l0.length ≤ c0) (h : laws_toFormulaS.f k l0 = some r) :
    Calls Try.prog 21 #[.slice A0 l0.length c0] w fun e w' => ∃ v0_ : Value, e = .returned (v0_) ∧ Kd.S k55 55 w' w.heap.size (fun _ => True) v0_ r ∧ Below w.heap.size w w' := by
  have hu98 := Try.underlying98
  have hu55 := Try.underlying55
  have HR0 := Aside0.mk hr0
  have HC0 := Aside0.mk hc0
  clear hr0 hc0
  have HB := Aside0.mk (Below.refl w.heap.size w)
  have H : (if 0 ≤ (l0.length : Int) then (if ((l0.length : Int) : Int).toNat ≤ 8796093022208 then (laws_toFormulaS.l0 k l0 (List.replicate ((l0.length : Int) : Int).toNat z55) 0) else (none)) else (none)) = some r := h
  clear h
  by_cases c2 : 0 ≤ (l0.length : Int)
  · rw [if_pos c2] at H
    have c2b0 := eq_true c2
    have c2b1 : decide (0 ≤ (l0.length : Int)) = true := decide_eq_true c2
    clear c2
    by_cases c3 : ((l0.length : Int) : Int).toNat ≤ 8796093022208
    · rw [if_pos c3] at H
      have c3b0 := eq_true c3
      have c3b1 : decide (((l0.length : Int) : Int).toNat ≤ 8796093022208) = true := decide_eq_true c3
      clear c3
      obtain ⟨y116, hy116⟩ : ∃ y_ : List (S55), y_ = (List.replicate ((l0.length : Int) : Int).toNat z55) := ⟨_, rfl⟩
      replace H : (laws_toFormulaS.l0 k l0 y116 0) = some r := by first | (rw [hy116]; with_reducible exact H) | (have H2_ := (Option.bind_some _ _).symm.trans H; rw [hy116]; with_reducible exact H2_) | (have H2_ := (Option.bind_some _ _).symm.trans H; with_reducible exact H2_) | with_reducible exact H | (rw [hy116]; exact H) | exact H
      have Ny116 := Aside0.mk hy116
      clear hy116
      have H' := Aside0.mk H
      clear H
      go_enter Try.func21, Try.ntmps21
      go_wp2_with (first | ((with_reducible refine gate_dst (N := 7) rfl ?_); refine Kd.S_make k55 _ 55 rfl (N := 7) rfl 38 _ _ rfl (l0.length : Int) rfl rfl Try.underlying38 (.agg #[(.slice none 0 0), (.int .i64 0)]) 32 info55 rfl (by decide) (by omega) z55 (ok := fun _ => True) (okp := fun _ => True) (k55_mkM _ _ _ z55 (Kd.R_nil _ _ _ _ _)) (fun _ hk => hk) trivial (of_decide_eq_true (by first | (with_reducible assumption) | assumption)) (Nat.le_trans (Nat.mul_le_mul_right _ (of_decide_eq_true (by first | (with_reducible assumption) | assumption) : (l0.length : Int).toNat ≤ 8796093022208)) (by omega)) (Below.refl _ _) (Nat.le_refl _) ?_; intro v117 w4 ho5 hb hg_ hnew_; clear hg_ hnew_; (first | rw [← Ny116.out] at ho5 | (simp only [Int.reduceToNat] at ho5; rw [← Ny116.out] at ho5)); have n0_ := Aside0.mk (Kd.S_lower ho5 (below_size (by repeat (first | (with_reducible first | exact HB.out | apply below_alloc | apply pw_below_drewN | apply below_drew1) | exact HB.out)))); have n1_ := Aside0.mk (below_step (by repeat (first | (with_reducible first | exact HB.out | apply below_alloc | apply pw_below_drewN | apply below_drew1) | exact HB.out)) hb); clear HB; have HO118 := n0_; have HB := n1_; clear n0_ n1_; clear hb ho5))
      go_loopg [4] k (fun kq v4 w' => ∃ (x3_1 : List (S55)) (x4_1 : Int), v4 = .int .i64 x4_1 ∧ Aside0 (laws_toFormulaS.l0 kq l0 x3_1 x4_1 = some r) ∧ Aside0 (kq ≤ k) ∧ Aside0 (Kd.S k55 55 w' w.heap.size (fun _ => True) v117 x3_1) ∧ Aside0 (Below w.heap.size w w'))
      case atStart => exact ⟨(y116), (0), (by first | rfl | (simp; done) | (simp [*]; done)), H', ⟨Nat.le_refl _⟩, ⟨by (with_reducible repeat (first | apply Kd.S_alloc | apply Kd.S_drewN | apply Kd.S_drew)); exact HO118.out⟩, ⟨by repeat (first | (with_reducible first | exact HB.out | apply below_alloc | apply pw_below_drewN | apply below_drew1) | exact HB.out)⟩⟩
      case round =>
        clear H'
        try clear c2
        try clear c2b0
        try clear c2b1
        try clear p2
        try clear c3
        try clear c3b0
        try clear c3b1
        obtain ⟨x3_1, x4_1, rfl, HA, HK1, HO_3, HB⟩ := hrel
        cases gk with
        | zero => exact absurd HA.out (by simp [laws_toFormulaS.l0])
        | succ k1 =>
          have H := HA.out
          clear HA
          simp only [laws_toFormulaS.l0] at H
          by_cases c6 : x4_1 < (l0.length : Int)
          · rw [if_pos c6] at H
            have c6b0 : decide (x4_1 < (l0.length : Int)) = true := decide_eq_true c6
            clear c6
            by_cases c7 : 0 ≤ x4_1
            · rw [if_pos c7] at H
              have c7b0 : decide (0 ≤ x4_1) = true := decide_eq_true c7
              clear c7
              replace H := Option.bind_eq_some_iff.mp H
              obtain ⟨⟨t120, t123⟩, A80, H⟩ := H
              replace H : (if x4_1 < (x3_1.length : Int) then (laws_toFormulaS.l0 k1 l0 (x3_1.set (x4_1 : Int).toNat (⟨t120, t123⟩ : S55)) (wrap64 (x4_1 + 1))) else (none)) = some r := H
              have A8 := Aside0.mk A80
              clear A80
              by_cases c9 : x4_1 < (x3_1.length : Int)
              · rw [if_pos c9] at H
                have c9b0 : decide (x4_1 < (x3_1.length : Int)) = true := decide_eq_true c9
                clear c9
                obtain ⟨y124, hy124⟩ : ∃ y_ : List (S55), y_ = (x3_1.set (x4_1 : Int).toNat (⟨t120, t123⟩ : S55)) := ⟨_, rfl⟩
                replace H : (laws_toFormulaS.l0 k1 l0 y124 (wrap64 (x4_1 + 1))) = some r := by first | (rw [hy124]; with_reducible exact H) | (have H2_ := (Option.bind_some _ _).symm.trans H; rw [hy124]; with_reducible exact H2_) | (have H2_ := (Option.bind_some _ _).symm.trans H; with_reducible exact H2_) | with_reducible exact H | (rw [hy124]; exact H) | exact H
                have Ny124 := Aside0.mk hy124
                clear hy124
                have H' := Aside0.mk H
                clear H
                have p119 : 0 ≤ (x4_1 : Int) := of_decide_eq_true (by first | (with_reducible assumption) | assumption)
                have q119 : x4_1 < (l0.length : Int) := of_decide_eq_true (by first | (with_reducible assumption) | assumption)
                obtain ⟨ad119, A119_0, c119_0, e119, hx119_0, hx119_1, hl119_0, hi119_0⟩ := at_T98 HR0.out x4_1 p119 q119
                cases e119
                replace hx119_0 := (HB.out.cell (World.block_lt_of_cell? w _ hx119_0)).trans hx119_0
                replace hx119_1 := (HB.out.cell (World.block_lt_of_cell? w _ hx119_1)).trans hx119_1
                have HR119_0 := Aside0.mk hi119_0
                have HC119_0 := Aside0.mk hl119_0
                clear hi119_0 hl119_0
                replace p119 := eq_true p119
                replace q119 := eq_true q119
                go_wp2_with (first | ((with_reducible refine gate_callee (f := 70) rfl ?_); refine goesL_ (some 20) rfl rfl Try.func70 (by kernel_rfl) rfl #[.agg #[.slice A119_0 ((rd_T98 l0 x4_1).f0).length c119_0, .int .i64 ((rd_T98 l0 x4_1).f1)]] rfl (by (try simp only [List.map_toArray, List.map_cons, List.map_nil]); first | done | rfl | (simp only [List.length_drop, List.length_take]; rfl)) ?_; (with_reducible refine (laws_toFormula.calls k1 _ _ ((rd_T98 l0 x4_1).f0) ((rd_T98 l0 x4_1).f1) t120 t123 _ ?side1 ?side2 A8.out).mono ?_); (case side1 => repeat (first | exact (Kd.C_below HR119_0.out HB.out) | (with_reducible refine Kd.C_alloc ?_ _) | (with_reducible refine Kd.C_drewN ?_ _) | (with_reducible refine Kd.C_drew ?_))); (case side2 => exact HC119_0.out); rintro e w11 ⟨v121, rfl, ho0, hb⟩; refine ⟨_, rfl, ?_⟩; obtain ⟨av_, cv_, rfl⟩ := Kd.R_slice ho0; have n0_ := Aside0.mk (Kd.S_elder' (by (with_reducible repeat (first | apply Kd.S_alloc | apply Kd.S_drewN | apply Kd.S_drew)); exact HO_3.out) (Kd.R_base ho0) hb); have n1_ := Aside0.mk (Kd.R_lower ho0 (below_size (by repeat (first | (with_reducible first | exact HB.out | apply below_alloc | apply pw_below_drewN | apply below_drew1) | exact HB.out)))); have n2_ := Aside0.mk (below_step (by repeat (first | (with_reducible first | exact HB.out | apply below_alloc | apply pw_below_drewN | apply below_drew1) | exact HB.out)) hb); clear HO_3; clear HB; have HO_3 := n0_; have HO122 := n1_; have HB := n2_; clear n0_ n1_ n2_; (try clear hb); (try clear hb2); (try clear hk); (try clear hi); (try clear ho0); have p10 : 0 ≤ (x4_1 : Int) := of_decide_eq_true (by first | (with_reducible assumption) | assumption); have q10 : (x4_1 : Int) < ((x3_1.length : Int) : Int) := of_decide_eq_true (by first | (with_reducible assumption) | assumption); obtain ⟨go10, co10, eo10, gb10, gl10, cl10, HG10⟩ := Kd.S_form HO_3.out (by omega); (first | cases eo10 | (injection eo10 with ea_ en_ ec_; (first | subst ea_ | (injection ea_ with ea_; subst ea_)); subst ec_; clear en_)); have GB10 := Aside0.mk gb10; have GG10 := Aside0.mk HG10; clear gb10 gl10 HG10; obtain ⟨_, ce10, hcl10, hM10, hcc10, hfr10, _, _⟩ := Kd.S_elem HO_3.out z55 (x4_1 : Int) p10 q10; obtain ⟨ve10_0, rfl, ge10_0⟩ := k55_openM hM10; have hx10_0 : w11.cell? ⟨go10, (x4_1 : Int).toNat * 2, none⟩ = some (ve10_0) := hcc10 0 _ rfl; have hx10_1 : w11.cell? ⟨go10, (x4_1 : Int).toNat * 2 + 1, none⟩ = some (.int .i64 ((rd_T55 x3_1 x4_1).f1)) := hcc10 1 _ rfl; have hf10_0 : w11.frozen? ⟨go10, (x4_1 : Int).toNat * 2, none⟩ = false := hfr10 0; have hf10_1 : w11.frozen? ⟨go10, (x4_1 : Int).toNat * 2 + 1, none⟩ = false := hfr10 1; clear hcl10 hcc10 hfr10 hM10; replace p10 := eq_true p10; replace q10 := eq_true q10; have n_ := Aside0.mk (Kd.S_mono (ok' := (fun k_ => some k_ ≠ ((Value.slice av_ t120.length cv_) : Value).ownBlock)) HO_3.out (fun k_ hk => hk.2)); clear HO_3; have HO_3 := n_; clear n_; have HX12 := Aside0.mk (show Kd.S k55 55 w11 w.heap.size (fun k_ => ((fun _ => True)) k_ ∧ ¬ ((fun k_ => some k_ = ((Value.slice av_ t120.length cv_) : Value).ownBlock)) k_) (.slice (some ⟨go10, 0, none⟩) x3_1.length co10) x3_1 from (by (with_reducible repeat (first | apply Kd.S_alloc | apply Kd.S_drewN | apply Kd.S_drew)); exact Kd.S_mono HO_3.out (fun k_ hk => ⟨trivial, fun e_ => hk e_⟩))); obtain ⟨oki12, ce12, hcl12, hM12, hcc12, hfr12, hoki12, hH12⟩ := Kd.S_elem HX12.out z55 (x4_1 : Int) (of_decide_eq_true (by first | (with_reducible assumption) | assumption)) (by have h_ : (x4_1 : Int) < ((x3_1.length : Int) : Int) := of_decide_eq_true (by first | (with_reducible assumption) | assumption); first | exact h_ | (have e_ := (Kd.S_reads' HO_3.out).1; omega) | simpa using h_); obtain ⟨ve12_0, rfl, ge12_0⟩ := k55_openM hM12; have HP12 := Kd.S_seg hH12 (of_decide_eq_true (by first | (with_reducible assumption) | assumption)) (by have h_ : (x4_1 : Int) < ((x3_1.length : Int) : Int) := of_decide_eq_true (by first | (with_reducible assumption) | assumption); first | exact h_ | (have e_ := (Kd.S_reads' HO_3.out).1; omega) | simpa using h_) (seg := [(Value.slice av_ t120.length cv_), .int .i64 t123]) (j := 0) (show 2 ≤ 2 from by decide) (x' := (⟨t120, t123⟩ : S55)) (k55_mkM _ _ _ (⟨t120, t123⟩ : S55) (Kd.R_mono (Kd.R_tight rfl (Kd.R_mono (ok' := fun k_ => ((fun _ => True)) k_ ∧ k_ ≠ go10) (Kd.R_apart' (HO122.out) (Kd.S_typed HO_3.out) (by decide)) (fun k_ hk => ⟨trivial, fun e_ => (hk.2) (by rw [e_]; rfl)⟩))) (fun _ h_ => Or.inr (h_)))) (fun _ hk => hk) (fun k_ hk_ => ((Kd.R_mono (ok' := fun k_ => ((fun _ => True)) k_ ∧ k_ ≠ go10) (Kd.R_apart' (HO122.out) (Kd.S_typed HO_3.out) (by decide)) (fun k_ hk => ⟨trivial, fun e_ => (hk.2) (by rw [e_]; rfl)⟩))).1 k_ hk_.symm); have hx12_0 := hcc12 0 _ rfl; (try simp only [show (k55).sz = 2 from rfl, Nat.mul_one, Nat.add_zero] at hx12_0); have hf12_0 := hfr12 0; (try simp only [show (k55).sz = 2 from rfl, Nat.mul_one, Nat.add_zero] at hf12_0); have hx12_1 := hcc12 1 _ rfl; (try simp only [show (k55).sz = 2 from rfl, Nat.mul_one, Nat.add_zero] at hx12_1); have hf12_1 := hfr12 1; (try simp only [show (k55).sz = 2 from rfl, Nat.mul_one, Nat.add_zero] at hf12_1); clear hcl12 hcc12 hfr12 hM12 hoki12 hH12) | ((with_reducible refine gate_store (t := 55) (p := 21) rfl ?_); refine store_event (t := 55) (p := 21) (v := ?vo_w13) (w1 := ((w11.setCell ⟨go10, (x4_1 : Int).toNat * 2, none⟩ ((Value.slice av_ t120.length cv_))).setCell ⟨go10, (x4_1 : Int).toNat * 2 + 1, none⟩ (.int .i64 t123))) ?hg ?ho ?hn ?hr ?_; (case ho => rfl); (case hg => rfl); (case hn => rfl); (case hr => first | (go_simp; done) | (go_simp; rfl)); intro w13 hw; have hg : w11.grownBy w13 (some go10) := (by rw [hw]; exact HP12.2); have hp_ : Kd.S k55 55 w13 w.heap.size (fun _ => True) (.slice (some ⟨go10, 0, none⟩) x3_1.length co10) y124 := (by rw [hw, Ny124.out]; exact HP12.1); clear HP12; have n0_ := Aside0.mk (hp_); have n1_ := Aside0.mk ((by rw [hw]; exact below_set (below_set (HB.out) GB10.out) GB10.out : Below w.heap.size w w13)); clear HO_3; clear HB; clear HO122; have HO_3 := n0_; have HB := n1_; clear n0_ n1_; clear hg hw hp_))
                go_roundg k1
                case measure => have := HK1.out; omega
                case rel => exact ⟨(y124), (wrap64 (x4_1 + 1)), (by first | rfl | (simp; done) | (simp [*]; done)), H', ⟨by have := HK1.out; omega⟩, ⟨by (with_reducible repeat (first | apply Kd.S_alloc | apply Kd.S_drewN | apply Kd.S_drew)); exact HO_3.out⟩, ⟨by repeat (first | (with_reducible first | exact HB.out | apply below_alloc | apply pw_below_drewN | apply below_drew1) | exact HB.out)⟩⟩
              · rw [if_neg c9] at H
                exact absurd H (by simp)
            · rw [if_neg c7] at H
              exact absurd H (by simp)
          · rw [if_neg c6] at H
            have c6b0 : decide (x4_1 < (l0.length : Int)) = false := decide_eq_false c6
            clear c6
            obtain rfl := Option.some.inj H
            go_wp2
            go_ret
            exact ⟨_, by first | rfl | (simp [errW_none, errW_some] <;> rfl) | (simp [*, errW_none, errW_some] <;> rfl), by (with_reducible repeat (first | apply Kd.S_alloc | apply Kd.S_drewN | apply Kd.S_drew)); exact HO_3.out, by repeat (first | (with_reducible first | exact HB.out | apply below_alloc | apply pw_below_drewN | apply below_drew1) | exact HB.out)⟩
    · rw [if_neg c3] at H
      exact absurd H (by simp)
  · rw [if_neg c2] at H
    exact absurd H (by simp)

/-! a row of one's own between two block numbers -/
def Own {α : Type} (d : Kd α) (e : Nat) (W : World) (B a b : Nat) (v : Value) (xs : List α) : Prop := d.R e W B (fun k => a ≤ k ∧ k < b) v xs
section
variable {α : Type} {d : Kd α} {e : Nat} {W W' w0 : World} {B a b n c : Nat} {v : Value} {A : Option Addr} {xs ys : List α} {S : Nat → Prop}
theorem Own.make (h : d.R e W' W.heap.size (fun _ => True) v xs) (hB : B ≤ W.heap.size) : Own d e W' B W.heap.size W'.heap.size v xs := Kd.R_lower (Kd.R_mono (Kd.R_bound h) (fun k hk => ⟨hk.2.1, hk.2.2.1⟩)) hB
theorem Own.below (h : Own d e W B a b v xs) (hb : Below W.heap.size W W') : Own d e W' B a b v xs := Kd.R_below h hb
theorem Own.kept (h : Own d e W B a b v xs) (hk : Kept W W' S) (hS : ∀ k, a ≤ k → k < b → ¬ S k) : Own d e W' B a b v xs := Kd.R_kept h hk (fun k hk => hS k hk.1 hk.2)
theorem Own.C (h : Own d e W B a b (.slice A xs.length c) xs) : d.C W A xs.length xs := (Kd.R_reads' h).2.2
theorem Own.cap (h : Own d e W B a b (.slice A n c) xs) : n ≤ c := (Kd.R_reads' h).2.1
/-- What is back from a call that wrote the row. -/
theorem Own.back (hs : d.E = []) (h : Own d e W B a b v xs) (hr : d.R e W' B (fun k => (a ≤ k ∧ k < b) ∨ W.heap.size ≤ k) v ys) : Own d e W' B a b v ys := Kd.R_reok hs hr (fun k hk => h.1 k hk)
theorem Own.len (h : Own d e W B a b (.slice A n c) xs) : n = xs.length := (Kd.R_reads' h).1
end
def OwnS {α : Type} (d : Kd α) (e : Nat) (W : World) (B a b : Nat) (v : Value) (xs : List α) : Prop := Kd.S d e W B (fun k => a ≤ k ∧ k < b) v xs
section
variable {α : Type} {d : Kd α} {e : Nat} {W W' w0 : World} {B a b n c : Nat} {v : Value} {A : Option Addr} {xs ys : List α} {S : Nat → Prop}
theorem OwnS.make (h : Kd.S d e W' W.heap.size (fun _ => True) v xs) (hB : B ≤ W.heap.size) : OwnS d e W' B W.heap.size W'.heap.size v xs := Kd.S_lower (Kd.S_mono (Kd.S_bound h) (fun k hk => ⟨hk.2.1, hk.2.2.1⟩)) hB
theorem OwnS.below (h : OwnS d e W B a b v xs) (hb : Below W.heap.size W W') : OwnS d e W' B a b v xs := Kd.S_below h hb
theorem OwnS.kept (h : OwnS d e W B a b v xs) (hk : Kept W W' S) (hS : ∀ k, a ≤ k → k < b → ¬ S k) : OwnS d e W' B a b v xs := Kd.S_kept h hk (fun k hk => hS k hk.1 hk.2)
theorem OwnS.C (h : OwnS d e W B a b (.slice A xs.length c) xs) : d.C W A xs.length xs := (Kd.S_reads' h).2.2
theorem OwnS.cap (h : OwnS d e W B a b (.slice A n c) xs) : n ≤ c := (Kd.S_reads' h).2.1
theorem OwnS.len (h : OwnS d e W B a b (.slice A n c) xs) : n = xs.length := (Kd.S_reads' h).1
end

/-! the laws' helpers over slices of int -/
def convInt (x : Int) : Int := x
theorem map_convInt (l : List Int) : l.map convInt = l := List.map_id l
theorem szIntS_eq (l : List Int) (left : Int) (h0 : 0 ≤ left) (h1 : left ≤ 1000000000000) (hl : (l.length : Int) ≤ 9223372036854775807) : laws_szIntS.f l left = some (if left - (l.length : Int) < 0 then -1 else left - (l.length : Int)) := by
  unfold laws_szIntS.f
  rw [w64 (by omega) (by omega)]
  split <;> rfl
theorem toIntS_ev (l : List Int) (hl : l.length ≤ 1000000000000) : Ev (fun k => laws_toIntS.f k l) l := by
  unfold laws_toIntS.f
  refine Ev.pos (by omega) (Ev.pos (by simp; omega) ?_)
  have := Ev.over (0 : Int) l (fun k (s : List Int) i => laws_toIntS.l0 k l s i) (fun s rest => s.take (l.length - rest.length) ++ rest) (fun _ s => s.length = l.length) (by
    intro s hs
    refine Ev.succ ?_
    simp only [laws_toIntS.l0]
    refine Ev.eqr (Ev.neg (by omega) (Ev.now _)) ?_
    simp [← hs]) (by
    intro s i rest hs hi hdr ih
    have hrl : rest.length + 1 + i = l.length := by
      have := congrArg List.length hdr
      simp at this; omega
    refine Ev.succ ?_
    simp only [laws_toIntS.l0]
    refine Ev.pos (by omega) (Ev.pos (by omega) (Ev.pos (by omega) ?_))
    rw [w64 (by omega) (by omega)]
    refine Ev.eqr (ih _ (by simpa using hs)) ?_
    have e1 : l.length - rest.length = i + 1 := by omega
    have e2 : l.length - (l.getD i 0 :: rest).length = i := by simp; omega
    rw [e1, e2]
    simp only [Int.toNat_natCast]
    rw [List.take_set, List.take_succ_eq_append_getElem (by omega), List.set_append_right _ _ (by simp; omega)]
    have e3 : i - (s.take i).length = 0 := by simp; omega
    rw [e3]
    simp [rd]) 0 (List.replicate l.length 0) (Nat.zero_le _) (by simp)
  simpa using this
theorem eqIntS_ev (l : List Int) (hl : l.length ≤ 1000000000000000) : Ev (fun k => laws_eqIntS.f k l l) true := by
  unfold laws_eqIntS.f
  refine Ev.pos rfl ?_
  have := Ev.over (0 : Int) l (fun k (_ : Unit) i => laws_eqIntS.l0 k l l i) (fun _ _ => true) (fun _ _ => True) (by
    intro s _
    refine Ev.succ ?_
    simp only [laws_eqIntS.l0]
    exact Ev.neg (by omega) (Ev.now _)) (by
    intro s i rest _ hi _ ih
    refine Ev.succ ?_
    simp only [laws_eqIntS.l0]
    refine Ev.pos (by omega) (Ev.pos (by omega) (Ev.pos (by omega) (Ev.pos (by simp) ?_)))
    rw [w64 (by omega) (by omega)]
    exact ih () trivial) 0 () (Nat.zero_le _) trivial
  simpa using this
theorem IntS_to (l : List Int) (A : Option Addr) (c : Nat) (w : World) (hl : l.length ≤ 1000000000000) (hr : Kd.C (Kd.int .i64) w A l.length l) (hc : l.length ≤ c) :
    Calls Try.prog 34 #[.slice A l.length c] w fun e w' => ∃ v, e = .returned v ∧ Kd.R (Kd.int .i64) 3 w' w.heap.size (fun _ => True) v (l.map convInt) ∧ Below w.heap.size w w' := by
  obtain ⟨k, h⟩ := Ev.rounds (toIntS_ev l hl)
  rw [map_convInt]
  exact (laws_toIntS.calls k A c l _ w hr hc h).mono (fun e w' h => h)
theorem IntS_eq (l : List Int) (A0 A1 : Option Addr) (c0 c1 : Nat) (w : World) (hl : l.length ≤ 1000000000000) (hr0 : Kd.C (Kd.int .i64) w A0 l.length l) (hc0 : l.length ≤ c0) (hr1 : Kd.C (Kd.int .i64) w A1 l.length l) (hc1 : l.length ≤ c1) :
    Calls Try.prog 36 #[.slice A0 l.length c0, .slice A1 l.length c1] w fun e w' => e = .returned (.bool true) ∧ Below w.heap.size w w' := by
  obtain ⟨k, h⟩ := Ev.rounds (eqIntS_ev l (by omega))
  refine (laws_eqIntS.calls k A0 c0 l A1 c1 l true w hr0 hc0 hr1 hc1 h).mono ?_
  rintro e w' ⟨rfl, hd⟩
  exact ⟨rfl, hd.below⟩

/-! the laws' helpers over slices of formulas -/
def convFormula (x : S98) : S55 := ⟨x.f0, x.f1⟩
def isz : List S55 → Int
  | [] => 0
  | x :: xs => (x.f0.length : Int) + isz xs
def FormulaSz (l : List S55) : Int := (l.length : Int) + isz l
theorem isz_nn : ∀ l, 0 ≤ isz l
  | [] => by simp [isz]
  | x :: xs => by have := isz_nn xs; simp only [isz]; omega
theorem isz_get {l : List S55} {x : S55} (h : x ∈ l) : (x.f0.length : Int) ≤ isz l := by
  induction l with
  | nil => simp at h
  | cons y ys ih =>
    have := isz_nn ys
    simp only [isz]
    rcases List.mem_cons.1 h with rfl | h
    · omega
    · have := ih h; omega
theorem FormulaSz_len (l : List S55) : (l.length : Int) ≤ FormulaSz l := by have := isz_nn l; unfold FormulaSz; omega
theorem FormulaSz_nn (l : List S55) : 0 ≤ FormulaSz l := by have := FormulaSz_len l; omega
theorem FormulaSz_get {l : List S55} {x : S55} (h : x ∈ l) : (x.f0.length : Int) ≤ FormulaSz l := by have := isz_get h; unfold FormulaSz; omega
theorem szFormulaS_ev (l : List S98) (left : Int) (h0 : 0 ≤ left) (h1 : left ≤ 1000000000000) (hl : (l.length : Int) ≤ 9223372036854775807) (hw : ∀ x ∈ l, (x.f0.length : Int) ≤ 9223372036854775807) : Ev (fun k => laws_szFormulaS.f k l left) (if left - FormulaSz (l.map convFormula) < 0 then -1 else left - FormulaSz (l.map convFormula)) := by
  unfold laws_szFormulaS.f
  have hn := isz_nn (l.map convFormula)
  rw [w64 (by omega) (by omega)]
  by_cases hb : left - (l.length : Int) < 0
  · refine Ev.eqr (Ev.pos hb (Ev.now _)) ?_
    rw [if_pos (show left - FormulaSz (l.map convFormula) < 0 by unfold FormulaSz; rw [List.length_map]; omega)]
  · refine Ev.neg hb ?_
    have := Ev.over z98 l (fun k (s : Int) i => laws_szFormulaS.l0 k l s i) (fun s rest => if s - isz (rest.map convFormula) < 0 then -1 else s - isz (rest.map convFormula)) (fun _ s => 0 ≤ s ∧ s ≤ 1000000000000) (by
      intro s hs
      refine Ev.succ ?_
      simp only [laws_szFormulaS.l0]
      refine Ev.eqr (Ev.neg (by omega) (Ev.now _)) ?_
      simp only [List.map_nil, isz]
      rw [if_neg (by omega)]; omega) (by
      intro s i rest hs hi hdr ih
      have hm : l.getD i z98 ∈ l := by
        rw [List.getD_eq_getElem?_getD, List.getElem?_eq_getElem hi]; exact List.getElem_mem hi
      have hx := hw _ hm
      refine Ev.succ ?_
      simp only [laws_szFormulaS.l0]
      refine Ev.pos (by omega) (Ev.pos (by omega) ?_)
      show Ev _ _
      have hrd : rd_T98 l (i : Int) = l.getD i z98 := rfl
      rw [hrd]
      generalize l.getD i z98 = x at hx
      have hr := isz_nn (rest.map convFormula)
      have e : laws_szFormula.f x.f0 x.f1 s = some (if s - (x.f0.length : Int) < 0 then -1 else s - (x.f0.length : Int)) := by
        unfold laws_szFormula.f
        rw [szIntS_eq _ _ hs.1 hs.2 hx]
        by_cases h : s - (x.f0.length : Int) < 0
        · simp [if_pos h]
        · simp [if_neg h]
      refine Ev.conb e ?_
      simp only [List.map_cons, isz]
      have hc : (convFormula x).f0 = x.f0 := rfl
      rw [hc]
      by_cases h : s - (x.f0.length : Int) < 0
      · rw [if_pos h, if_pos (show s - ((x.f0.length : Int) + isz (rest.map convFormula)) < 0 by omega)]
        exact Ev.pos (by omega) (Ev.now _)
      · rw [if_neg h]
        refine Ev.neg h ?_
        rw [w64 (by omega) (by omega)]
        refine Ev.eqr (ih _ (by omega)) ?_
        rw [show s - (x.f0.length : Int) - isz (rest.map convFormula) = s - ((x.f0.length : Int) + isz (rest.map convFormula)) by omega]) 0 (left - (l.length : Int)) (Nat.zero_le _) (by omega)
    refine Ev.eqr (by simpa using this) ?_
    unfold FormulaSz
    rw [List.length_map, show left - (l.length : Int) - isz (l.map convFormula) = left - ((l.length : Int) + isz (l.map convFormula)) by omega]
theorem toFormulaS_ev (l : List S98) (hl : FormulaSz (l.map convFormula) ≤ 1000000000000) : Ev (fun k => laws_toFormulaS.f k l) (l.map convFormula) := by
  have hll := FormulaSz_len (l.map convFormula)
  rw [List.length_map] at hll
  unfold laws_toFormulaS.f
  refine Ev.pos (by omega) (Ev.pos (by simp; omega) ?_)
  have := Ev.over z98 l (fun k (s : List S55) i => laws_toFormulaS.l0 k l s i) (fun s rest => s.take (l.length - rest.length) ++ rest.map convFormula) (fun _ s => s.length = l.length) (by
    intro s hs
    refine Ev.succ ?_
    simp only [laws_toFormulaS.l0]
    refine Ev.eqr (Ev.neg (by omega) (Ev.now _)) ?_
    simp [← hs]) (by
    intro s i rest hs hi hdr ih
    have hrl : rest.length + 1 + i = l.length := by
      have := congrArg List.length hdr
      simp at this; omega
    have hm : l.getD i z98 ∈ l := by
      rw [List.getD_eq_getElem?_getD, List.getElem?_eq_getElem hi]; exact List.getElem_mem hi
    have hx : ((rd_T98 l (i : Int)).f0.length : Int) ≤ FormulaSz (l.map convFormula) := FormulaSz_get (List.mem_map_of_mem (f := convFormula) hm)
    refine Ev.succ ?_
    simp only [laws_toFormulaS.l0]
    refine Ev.pos (by omega) (Ev.pos (by omega) (Ev.bind (a := ((rd_T98 l i).f0, (rd_T98 l i).f1)) ?_ (Ev.pos (by omega) ?_)))
    · unfold laws_toFormula.f
      exact Ev.bind (toIntS_ev _ (by omega)) (Ev.now _)
    rw [w64 (by omega) (by omega)]
    refine Ev.eqr (ih _ (by simpa using hs)) ?_
    have e1 : l.length - rest.length = i + 1 := by omega
    have e2 : l.length - (l.getD i z98 :: rest).length = i := by simp; omega
    rw [e1, e2]
    simp only [Int.toNat_natCast, List.map_cons]
    rw [List.take_set, List.take_succ_eq_append_getElem (by omega), List.set_append_right _ _ (by simp; omega)]
    have e3 : i - (s.take i).length = 0 := by simp; omega
    rw [e3]
    simp [convFormula, rd_T98]) 0 (List.replicate l.length z55) (Nat.zero_le _) (by simp)
  simpa using this
theorem eqFormulaS_ev (l : List S55) (hl : FormulaSz l ≤ 1000000000000) : Ev (fun k => laws_eqFormulaS.f k l l) true := by
  have hll := FormulaSz_len l
  unfold laws_eqFormulaS.f
  refine Ev.pos rfl ?_
  have := Ev.over z55 l (fun k (_ : Unit) i => laws_eqFormulaS.l0 k l l i) (fun _ _ => true) (fun _ _ => True) (by
    intro s _
    refine Ev.succ ?_
    simp only [laws_eqFormulaS.l0]
    exact Ev.neg (by omega) (Ev.now _)) (by
    intro s i rest _ hi _ ih
    have hm : l.getD i z55 ∈ l := by
      rw [List.getD_eq_getElem?_getD, List.getElem?_eq_getElem hi]; exact List.getElem_mem hi
    have hx : ((rd_T55 l (i : Int)).f0.length : Int) ≤ FormulaSz l := FormulaSz_get hm
    refine Ev.succ ?_
    simp only [laws_eqFormulaS.l0]
    refine Ev.pos (by omega) (Ev.pos (by omega) (Ev.pos (by omega) (Ev.bind (a := true) ?_ (Ev.pos rfl ?_))))
    · unfold laws_eqFormula.f
      exact Ev.bind (eqIntS_ev _ (by omega)) (Ev.pos rfl (Ev.pos (by simp) (Ev.now _)))
    rw [w64 (by omega) (by omega)]
    exact ih () trivial) 0 () (Nat.zero_le _) trivial
  simpa using this
theorem FormulaS_sz (l : List S98) (left : Int) (A : Option Addr) (c : Nat) (w : World) (h0 : 0 ≤ left) (h1 : left ≤ 1000000000000) (hl : (l.length : Int) ≤ 9223372036854775807) (hw : ∀ x ∈ l, (x.f0.length : Int) ≤ 9223372036854775807) (hr : Kd.C k98 w A l.length l) (hc : l.length ≤ c) :
    Calls Try.prog 19 #[.slice A l.length c, .int .i64 left] w fun e w' => ∃ r, e = .returned (.int .i64 r) ∧ (r = if left - FormulaSz (l.map convFormula) < 0 then -1 else left - FormulaSz (l.map convFormula)) ∧ Below w.heap.size w w' := by
  obtain ⟨k, h⟩ := Ev.rounds (szFormulaS_ev l left h0 h1 hl hw)
  refine (laws_szFormulaS.calls k A c l left _ w hr hc h).mono ?_
  rintro e w' ⟨rfl, hd⟩
  exact ⟨_, rfl, rfl, hd⟩
theorem FormulaS_to (l : List S98) (A : Option Addr) (c : Nat) (w : World) (hl : FormulaSz (l.map convFormula) ≤ 1000000000000) (hr : Kd.C k98 w A l.length l) (hc : l.length ≤ c) :
    Calls Try.prog 21 #[.slice A l.length c] w fun e w' => ∃ v, e = .returned v ∧ Kd.S k55 55 w' w.heap.size (fun _ => True) v (l.map convFormula) ∧ Below w.heap.size w w' := by
  obtain ⟨k, h⟩ := Ev.rounds (toFormulaS_ev l hl)
  exact (laws_toFormulaS.calls k A c l _ w hr hc h).mono (fun e w' h => h)
theorem FormulaS_eq (l : List S55) (A0 A1 : Option Addr) (c0 c1 : Nat) (w : World) (hl : FormulaSz l ≤ 1000000000000) (hr0 : Kd.C k55 w A0 l.length l) (hc0 : l.length ≤ c0) (hr1 : Kd.C k55 w A1 l.length l) (hc1 : l.length ≤ c1) :
    Calls Try.prog 23 #[.slice A0 l.length c0, .slice A1 l.length c1] w fun e w' => e = .returned (.bool true) ∧ Below w.heap.size w w' := by
  obtain ⟨k, h⟩ := Ev.rounds (eqFormulaS_ev l hl)
  exact (laws_eqFormulaS.calls k A0 c0 l A1 c1 l true w hr0 hc0 hr1 hc1 h).mono (fun e w' h => h)

/-! mark and held over slices of int -/
def markInt : Nat → Int → List Int
  | 0, _ => []
  | n + 1, a => a :: markInt n (a + 1)
theorem markInt_len : ∀ n a, (markInt n a).length = n
  | 0, _ => rfl
  | n + 1, a => by simp [markInt, markInt_len n]
theorem markInt_get : ∀ (n : Nat) (a : Int) (i : Nat), i < n → (markInt n a).getD i 0 = a + i
  | 0, _, _, h => by omega
  | n + 1, a, 0, _ => by simp [markInt]
  | n + 1, a, i + 1, h => by
    have := markInt_get n (a + 1) i (by omega)
    simp only [markInt, List.getD_cons_succ]
    rw [this]; omega
theorem markIntS_ev (l : List Int) (a : Int) (ha : 0 ≤ a) (ha' : a ≤ 1000000000000000) (hl : l.length ≤ 1000000000000000) : Ev (fun k => laws_markIntS.f k l a) (a + l.length, markInt l.length a) := by
  unfold laws_markIntS.f
  have := Ev.over (0 : Int) l (fun k (s : List Int × Int) i => laws_markIntS.l0 k s.1 s.2 i) (fun s rest => (s.2 + (rest.length : Int), s.1.take (l.length - rest.length) ++ markInt rest.length s.2)) (fun i s => s.1.length = l.length ∧ s.2 = a + i) (by
    intro s hs
    refine Ev.succ ?_
    simp only [laws_markIntS.l0]
    refine Ev.eqr (Ev.neg (by omega) (Ev.now _)) ?_
    simp [← hs.1, markInt]) (by
    intro s i rest hs hi hdr ih
    have hrl : rest.length + 1 + i = l.length := by
      have := congrArg List.length hdr
      simp at this; omega
    refine Ev.succ ?_
    simp only [laws_markIntS.l0]
    refine Ev.pos (by omega) (Ev.pos (by omega) ?_)
    have h2 := hs.2
    rw [w64 (x := s.2 + 1) (by omega) (by omega), w64 (by omega) (by omega)]
    refine Ev.eqr (ih (_, s.2 + 1) ⟨by simpa using hs.1, by simp only []; omega⟩) ?_
    have e1 : l.length - rest.length = i + 1 := by omega
    have e2 : l.length - (l.getD i 0 :: rest).length = i := by simp; omega
    rw [e1, e2]
    simp only [Int.toNat_natCast, List.length_cons, markInt]
    refine Prod.ext (by simp only []; omega) ?_
    simp only []
    rw [List.take_set, List.take_succ_eq_append_getElem (by omega), List.set_append_right _ _ (by simp; omega)]
    have e3 : i - (s.1.take i).length = 0 := by simp; omega
    rw [e3]
    simp) 0 (l, a) (Nat.zero_le _) ⟨rfl, by simp⟩
  simpa using this

theorem markInt_eqlen (l : List Int) (n : Nat) (a : Int) (h : l = markInt n a) : l.length = n := by rw [h, markInt_len]
theorem IntS_mark (l : List Int) (a : Int) (s t : Nat) (v : Value) (w0 w : World) (ha : 0 ≤ a) (ha' : a ≤ 1000000000000) (hl : l.length ≤ 1000000000000) (hB : Below w0.heap.size w0 w) (ho : Own (Kd.int .i64) 3 w w0.heap.size s t v l) :
    Calls Try.prog 38 #[v, .int .i64 a] w fun e w' => ∃ r, e = .returned (.int .i64 r) ∧ r = a + (l.length : Int) ∧ Own (Kd.int .i64) 3 w' w0.heap.size s t v (markInt l.length a) ∧ Below w0.heap.size w0 w' ∧ Kept w w' (fun k => s ≤ k ∧ k < t) := by
  obtain ⟨k, h⟩ := Ev.rounds (markIntS_ev l a ha (by omega) (by omega))
  refine (laws_markIntS.calls k (fun k => s ≤ k ∧ k < t) v l a _ _ w0 w hB ho h).mono ?_
  rintro e w' ⟨rfl, hr, hb, hk⟩
  exact ⟨_, rfl, rfl, Own.back rfl ho hr, hb, hk⟩

/-! mark over slices of formulas -/
def markFormula : List S55 → Int → List S55
  | [], _ => []
  | x :: xs, a => ⟨markInt x.f0.length a, a + x.f0.length⟩ :: markFormula xs (a + x.f0.length + 1)
theorem markFormula_len : ∀ l a, (markFormula l a).length = l.length
  | [], _ => rfl
  | x :: xs, a => by simp [markFormula, markFormula_len xs]
theorem FormulaSz_cons (x : S55) (xs : List S55) : FormulaSz (x :: xs) = 1 + (x.f0.length : Int) + FormulaSz xs := by
  unfold FormulaSz; simp only [isz, List.length_cons]; omega
theorem FormulaSz_app : ∀ a b, FormulaSz (a ++ b) = FormulaSz a + FormulaSz b
  | [], b => by simp [FormulaSz, isz]
  | x :: xs, b => by
    rw [List.cons_append, FormulaSz_cons, FormulaSz_cons, FormulaSz_app xs b]; omega
theorem markFormula_app : ∀ (A : List S55) (B : List S55) a, markFormula (A ++ B) a = markFormula A a ++ markFormula B (a + FormulaSz A)
  | [], B, a => by simp [markFormula, FormulaSz, isz]
  | x :: xs, B, a => by
    simp only [List.cons_append, markFormula]
    rw [markFormula_app xs B, FormulaSz_cons]
    congr 3; omega
theorem markFormula_sz : ∀ l a, FormulaSz (markFormula l a) = FormulaSz l
  | [], _ => rfl
  | x :: xs, a => by simp only [markFormula]; rw [FormulaSz_cons, FormulaSz_cons, markFormula_sz xs, markInt_len]
theorem form_split {l : List S55} {i : Nat} (hi : i < l.length) : ∃ A x B, l = A ++ x :: B ∧ A.length = i :=
  ⟨l.take i, l[i], l.drop (i + 1), by rw [← List.drop_eq_getElem_cons hi, List.take_append_drop], by rw [List.length_take]; omega⟩
set_option maxHeartbeats 4000000 in
set_option maxRecDepth 100000 in
theorem FormulaS_mark (l : List S55) (a : Int) (s t : Nat) (v : Value) (w0 w : World) (ha : 0 ≤ a) (ha' : a ≤ 1000000000000) (hl : FormulaSz l ≤ 1000000000000) (hB : Below w0.heap.size w0 w) (ho : OwnS k55 55 w w0.heap.size s t v l) :
    Calls Try.prog 37 #[v, .int .i64 a] w fun e w' => ∃ r, e = .returned (.int .i64 r) ∧ r = a + FormulaSz l ∧ OwnS k55 55 w' w0.heap.size s t v (markFormula l a) ∧ Below w0.heap.size w0 w' ∧ Kept w w' (fun k => s ≤ k ∧ k < t) := by
  unfold OwnS at ho ⊢
  have HB := Aside0.mk hB
  have HO := Aside0.mk ho
  obtain ⟨A, c, rfl⟩ := Kd.S_slice ho
  clear hB ho
  have hll := FormulaSz_len l
  go_enter Try.func37, Try.ntmps37
  go_wp2
  go_loopg [1, 5] l.length (fun kq v1 v5 w' => ∃ (i : Nat) (K : Int) (J : List S55), v5 = .int .i64 (i : Int) ∧ v1 = .int .i64 K ∧ Aside0 (kq = l.length - i ∧ i ≤ l.length ∧ K = a + FormulaSz (l.take i) ∧ J = markFormula (l.take i) a ++ l.drop i) ∧ Aside0 (Kd.S k55 55 w' w0.heap.size (fun k => s ≤ k ∧ k < t) (.slice A l.length c) J) ∧ Aside0 (Kept w w' (fun k => s ≤ k ∧ k < t)) ∧ Aside0 (Below w0.heap.size w0 w'))
  case atStart => exact ⟨0, a, l, rfl, rfl, ⟨by simp [FormulaSz, isz, markFormula]⟩, ⟨by (with_reducible repeat (first | apply Kd.S_alloc | apply Kd.S_drewN | apply Kd.S_drew)); exact HO.out⟩, ⟨by repeat (first | exact Kept.refl _ _ | apply Kept.drewN | apply Kept.drew)⟩, ⟨by repeat (first | (with_reducible first | exact HB.out | apply below_alloc | apply pw_below_drewN | apply below_drew1) | exact HB.out)⟩⟩
  case round =>
    obtain ⟨i, K, J, rfl, rfl, HX, HO1, HK, HB1⟩ := hrel
    obtain ⟨hkq, hil, hK, hJ⟩ := HX.out
    by_cases hi : (i : Int) < (l.length : Int)
    · have d1 : decide ((i : Int) < (l.length : Int)) = true := decide_eq_true hi
      obtain ⟨P, x, B, hsp, hPl⟩ := form_split (show i < l.length by omega)
      have hPt : l.take i = P := by rw [hsp, ← hPl]; simp
      have hPd : l.drop i = x :: B := by rw [hsp, ← hPl]; simp
      have hPt1 : l.take (i + 1) = P ++ [x] := by rw [hsp, ← hPl, List.take_append]; simp [List.take_of_length_le]
      have hPd1 : l.drop (i + 1) = B := by rw [hsp, ← hPl, List.drop_append]; simp
      rw [hPt] at hK
      rw [hPt, hPd] at hJ
      have hsz : FormulaSz l = FormulaSz P + (1 + (x.f0.length : Int)) + FormulaSz B := by rw [hsp, FormulaSz_app, FormulaSz_cons]; omega
      have hPn := FormulaSz_nn P
      have hBn := FormulaSz_nn B
      have hJl : J.length = l.length := by rw [hJ, hsp]; simp [markFormula_len]
      have hJx : J.getD (i : Int).toNat z55 = x := by
        rw [hJ, Int.toNat_natCast, List.getD_eq_getElem?_getD, List.getElem?_append_right (by rw [markFormula_len]; omega), markFormula_len, hPl]; simp
      obtain ⟨kk, hmk⟩ := Ev.rounds (markIntS_ev x.f0 K (by omega) (by omega) (by omega))
      obtain ⟨L, hL⟩ : ∃ L : Int, L = K + (x.f0.length : Int) := ⟨_, rfl⟩
      obtain ⟨M, hM⟩ : ∃ M, M = markInt x.f0.length K := ⟨_, rfl⟩
      rw [← hL, ← hM] at hmk
      have HMK := Aside0.mk hmk
      obtain ⟨J2, hJ2⟩ : ∃ J2, J2 = (J.set (i : Int).toNat ⟨M, x.f1⟩).set (i : Int).toNat ⟨M, L⟩ := ⟨_, rfl⟩
      have NX : Aside0 (l.length - (i + 1) < gk ∧ i + 1 ≤ l.length ∧ L + 1 = a + FormulaSz (l.take (i + 1)) ∧ J2 = markFormula (l.take (i + 1)) a ++ l.drop (i + 1)) := by
        refine ⟨by omega, by omega, ?_, ?_⟩
        · rw [hPt1, FormulaSz_app, FormulaSz_cons]
          have : FormulaSz ([] : List S55) = 0 := by simp [FormulaSz, isz]
          omega
        · rw [hJ2, hPt1, hPd1, markFormula_app, List.set_set, hJ, Int.toNat_natCast, List.set_append_right _ _ (by rw [markFormula_len]; omega), markFormula_len, hPl, Nat.sub_self]
          simp only [List.set_cons_zero, markFormula, List.append_assoc, List.singleton_append]
          rw [hM, hL, hK]
      have HJ2 := Aside0.mk hJ2
      have bL : 0 ≤ L ∧ L ≤ 2000000000000 := by omega
      have bi : i ≤ 1000000000000 := by omega
      obtain ⟨g, cap, e0, _, _, _⟩ := Kd.S_form HO1.out (by omega)
      injection e0 with e1 e2 e3
      subst e1
      clear e2 e3
      have p0 : (0 : Int) ≤ (i : Int) := by omega
      have p1 : (i : Int) < ((l.length : Nat) : Int) := hi
      obtain ⟨oki, ce, _, hM0, hcc0, _, hoki, hH0⟩ := Kd.S_elem HO1.out z55 (i : Int) p0 p1
      rw [hJx] at hM0
      obtain ⟨v0, rfl, hR0⟩ := k55_openM hM0
      obtain ⟨A2, c2, rfl⟩ := Kd.R_slice hR0
      have HR := Aside0.mk hR0
      have HH := Aside0.mk hH0
      have HOK := Aside0.mk hoki
      have hx0 := hcc0 0 _ rfl
      simp only [show (k55).sz = 2 from rfl, Nat.add_zero, Int.toNat_natCast] at hx0
      have HJl := Aside0.mk hJl
      clear hL hcc0 hM0 hR0 hH0 hoki hmk hJ2 hJx hJl hJ hsz hsp hPt hPd hPt1 hPd1 hPl hK hM hPn hBn
      have q0 := eq_true p0
      have q1 := eq_true p1
      go_wp2_with (first
        | (go_at_call 38; go_loud (refine (laws_markIntS.calls kk oki _ x.f0 K _ _ w0 _ HB1.out HR.out HMK.out).mono ?_; rintro e w1 ⟨rfl, hr1, hb1, hk1⟩; have hS1 := Kd.H_back (Kd.H_kept HH.out hk1 (fun k _ hn => hn)) (x' := (⟨M, x.f1⟩ : S55)) (k55_mkM _ _ _ (⟨M, x.f1⟩ : S55) (Kd.R_reok rfl hr1 (fun k hk => HR.out.1 k hk))) (fun _ hk => hk); obtain ⟨oki2, ce2, _, hM2, hcc2, hfr2, hoki2, hH2⟩ := Kd.S_elem hS1 z55 (i : Int) p0 p1; have e9 : (J.set (i : Int).toNat (⟨M, x.f1⟩ : S55)).getD (i : Int).toNat z55 = ⟨M, x.f1⟩ := (by rw [List.getD_eq_getElem?_getD, List.getElem?_set_self (by have := HJl.out; omega)]; rfl); rw [e9] at hM2; obtain ⟨v2, rfl, hR2⟩ := k55_openM hM2; have hseg := Kd.S_seg0 hH2 p0 p1 (seg := [.int .i64 L]) (j := 1) (show 2 ≤ 2 from by decide) (x' := (⟨M, L⟩ : S55)) (k55_mkM _ _ _ (⟨M, L⟩ : S55) hR2) (fun _ h => h); have hx1 := hcc2 1 _ rfl; have hf1 := hfr2 1; simp only [show (k55).sz = 2 from rfl, Int.toNat_natCast] at hx1 hf1; have HS := Aside0.mk hseg; have HK1 := Aside0.mk (HK.out.then_ hk1 (fun k hk => .inl (HOK.out k hk).1)); have HB2 := Aside0.mk hb1; clear hseg hH2 hoki2 hcc2 hfr2 hM2 e9 hS1 hk1 hr1 hb1 hR2))
        | ((with_reducible refine gate_store (t := 3) (p := 23) rfl ?_); go_loud (refine store_event (t := 3) (p := 23) (v := ?vo_w) (w1 := (w1.setCell ⟨g, i * 2 + 1, none⟩ (.int .i64 L))) ?hg ?ho ?hn ?hr ?_; (case ho => rfl); (case hg => rfl); (case hn => rfl); (case hr => first | (go_simp; done) | (go_simp; rfl)); intro w2 hw; have HO2 := Aside0.mk (show Kd.S k55 55 w2 w0.heap.size (fun k => s ≤ k ∧ k < t) (.slice (some ⟨g, 0, none⟩) l.length c) J2 from (by rw [hw, HJ2.out]; exact HS.out.1)); have HB3 := Aside0.mk (show Below w0.heap.size w0 w2 from (by rw [hw]; exact below_set HB2.out (by assumption))); have HK2 := Aside0.mk (show Kept w w2 (fun k => s ≤ k ∧ k < t) from (by rw [hw]; exact Kept.of_grown HS.out.2 HK1.out (by rintro k rfl'; injection rfl' with e; subst e; exact .inl ((Kd.S_R HO1.out).1 _ rfl)))); clear hw)))
      go_roundg (l.length - (i + 1))
      case measure => exact NX.out.1
      case rel => exact ⟨i + 1, L + 1, J2, by simp, rfl, ⟨rfl, NX.out.2⟩, HO2, HK2, HB3⟩
    · have d1 : decide ((i : Int) < (l.length : Int)) = false := decide_eq_false hi
      obtain rfl : i = l.length := by omega
      rw [List.take_length] at hK
      rw [List.take_length, List.drop_length, List.append_nil] at hJ
      subst hK; subst hJ
      go_wp2
      go_ret
      exact ⟨_, rfl, rfl, HO1.out, HB1.out, HK.out⟩

/-! the laws' helpers over own slices of Tone: equal, mark -/
theorem eqToneS_ev (l : List S64) (hl : l.length ≤ 1000000000000000) : Ev (fun k => laws_eqToneS.f k l l) true := by
  unfold laws_eqToneS.f
  refine Ev.pos rfl ?_
  have := Ev.over z64 l (fun k (_ : Unit) i => laws_eqToneS.l0 k l l i) (fun _ _ => true) (fun _ _ => True) (by
    intro s _
    refine Ev.succ ?_
    simp only [laws_eqToneS.l0]
    exact Ev.neg (by omega) (Ev.now _)) (by
    intro s i rest _ hi _ ih
    refine Ev.succ ?_
    simp only [laws_eqToneS.l0]
    refine Ev.pos (by omega) (Ev.pos (by omega) (Ev.pos (by omega) (Ev.conb (a := true) (by simp [laws_eqTone.f]) (Ev.pos rfl ?_))))
    rw [w64 (by omega) (by omega)]
    exact ih () trivial) 0 () (Nat.zero_le _) trivial
  simpa using this
def markTone : Nat → Int → List S64
  | 0, _ => []
  | n + 1, a => ⟨a, Int.tmod (a + 1) 3 == 0⟩ :: markTone n (a + 2)
theorem markTone_len : ∀ n a, (markTone n a).length = n
  | 0, _ => rfl
  | n + 1, a => by simp [markTone, markTone_len n]
theorem markTone_get : ∀ (n : Nat) (a : Int) (i : Nat), i < n → (markTone n a).getD i z64 = ⟨a + 2 * i, Int.tmod (a + 2 * i + 1) 3 == 0⟩
  | 0, _, _, h => by omega
  | n + 1, a, 0, _ => by simp [markTone]
  | n + 1, a, i + 1, h => by
    have := markTone_get n (a + 2) i (by omega)
    simp only [markTone, List.getD_cons_succ]
    rw [this]
    have e : a + 2 + 2 * (i : Int) = a + 2 * ((i + 1 : Nat) : Int) := by omega
    rw [e]
theorem markToneS_ev (l : List S64) (a : Int) (ha : 0 ≤ a) (ha' : a ≤ 1000000000000000) (hl : l.length ≤ 1000000000000000) : Ev (fun k => laws_markToneS.f k l a) (a + 2 * l.length, markTone l.length a) := by
  unfold laws_markToneS.f
  have := Ev.over z64 l (fun k (s : List S64 × Int) i => laws_markToneS.l0 k s.1 s.2 i) (fun s rest => (s.2 + 2 * (rest.length : Int), s.1.take (l.length - rest.length) ++ markTone rest.length s.2)) (fun i s => s.1.length = l.length ∧ s.2 = a + 2 * i) (by
    intro s hs
    refine Ev.succ ?_
    simp only [laws_markToneS.l0]
    refine Ev.eqr (Ev.neg (by omega) (Ev.now _)) ?_
    simp [← hs.1, markTone]) (by
    intro s i rest hs hi hdr ih
    have hrl : rest.length + 1 + i = l.length := by
      have := congrArg List.length hdr
      simp at this; omega
    refine Ev.succ ?_
    simp only [laws_markToneS.l0]
    refine Ev.pos (by omega) (Ev.pos (by omega) (Ev.someb ?_))
    have h2 := hs.2
    rw [w64 (x := s.2 + 1) (by omega) (by omega), w64 (x := s.2 + 1 + 1) (by omega) (by omega), w64 (by omega) (by omega)]
    refine Ev.eqr (ih (_, s.2 + 1 + 1) ⟨by simpa using hs.1, by simp only []; omega⟩) ?_
    have e1 : l.length - rest.length = i + 1 := by omega
    have e2 : l.length - (l.getD i z64 :: rest).length = i := by simp; omega
    rw [e1, e2]
    simp only [Int.toNat_natCast, List.length_cons, markTone, List.set_set]
    refine Prod.ext (by simp only []; omega) ?_
    simp only []
    rw [List.take_set, List.take_succ_eq_append_getElem (by omega), List.set_append_right _ _ (by simp; omega)]
    have e3 : i - (s.1.take i).length = 0 := by simp; omega
    have e4 : s.2 + 1 + 1 = s.2 + 2 := by omega
    have e5 : (rd_T64 (s.1.set i ⟨s.2, (rd_T64 s.1 i).f1⟩) i).f0 = s.2 := by
      simp [rd_T64, List.getD_eq_getElem?_getD, List.getElem?_set_self (show i < s.1.length by omega)]
    rw [e3, e4, e5]
    simp) 0 (l, a) (Nat.zero_le _) ⟨rfl, by simp⟩
  simpa using this
theorem ToneS_eq (l : List S64) (A0 A1 : Option Addr) (c0 c1 : Nat) (w : World) (hl : l.length ≤ 1000000000000) (hr0 : Kd.C k64 w A0 l.length l) (hc0 : l.length ≤ c0) (hr1 : Kd.C k64 w A1 l.length l) (hc1 : l.length ≤ c1) :
    Calls Try.prog 43 #[.slice A0 l.length c0, .slice A1 l.length c1] w fun e w' => e = .returned (.bool true) ∧ Below w.heap.size w w' := by
  obtain ⟨k, h⟩ := Ev.rounds (eqToneS_ev l (by omega))
  exact (laws_eqToneS.calls k A0 c0 l A1 c1 l true w hr0 hc0 hr1 hc1 h).mono (fun e w' h => h)
theorem ToneS_mark (l : List S64) (a : Int) (s t : Nat) (v : Value) (w0 w : World) (ha : 0 ≤ a) (ha' : a ≤ 1000000000000) (hl : l.length ≤ 1000000000000) (hB : Below w0.heap.size w0 w) (ho : Own k64 64 w w0.heap.size s t v l) :
    Calls Try.prog 44 #[v, .int .i64 a] w fun e w' => ∃ r, e = .returned (.int .i64 r) ∧ r = a + 2 * (l.length : Int) ∧ Own k64 64 w' w0.heap.size s t v (markTone l.length a) ∧ Below w0.heap.size w0 w' ∧ Kept w w' (fun k => s ≤ k ∧ k < t) := by
  obtain ⟨k, h⟩ := Ev.rounds (markToneS_ev l a ha (by omega) (by omega))
  refine (laws_markToneS.calls k (fun k => s ≤ k ∧ k < t) v l a _ _ w0 w hB ho h).mono ?_
  rintro e w' ⟨rfl, hr, hb, hk⟩
  exact ⟨_, rfl, rfl, Own.back rfl ho hr, hb, hk⟩

theorem heldToneS_ev (n : Nat) (a : Int) (ha : 0 ≤ a) (ha' : a ≤ 1000000000000000) (hl : n ≤ 1000000000000000) : Ev (fun k => laws_heldToneS.f k (markTone n a) a) (a + 2 * n) := by
  unfold laws_heldToneS.f
  have := Ev.over z64 (markTone n a) (fun k (s : Int) i => laws_heldToneS.l0 k (markTone n a) s i) (fun s rest => s + 2 * (rest.length : Int)) (fun i s => s = a + 2 * i) (by
    intro s hs
    refine Ev.succ ?_
    simp only [laws_heldToneS.l0]
    refine Ev.eqr (Ev.neg (by omega) (Ev.now _)) ?_
    simp) (by
    intro s i rest hs hi hdr ih
    rw [markTone_len] at hi
    have hg : rd_T64 (markTone n a) i = ⟨a + 2 * i, Int.tmod (a + 2 * i + 1) 3 == 0⟩ := markTone_get n a i hi
    refine Ev.succ ?_
    simp only [laws_heldToneS.l0]
    rw [hg, markTone_len]
    subst hs
    rw [w64 (x := a + 2 * i + 1) (by omega) (by omega), w64 (x := a + 2 * i + 1 + 1) (by omega) (by omega), w64 (by omega) (by omega)]
    refine Ev.pos (by omega) (Ev.pos (by omega) (Ev.pos rfl (Ev.neg (by simp) ?_)))
    refine Ev.eqr (ih _ (by omega)) ?_
    simp only [List.length_cons]; omega) 0 a (Nat.zero_le _) (by simp)
  simpa [markTone_len] using this
theorem ToneS_held (n : Nat) (a : Int) (A : Option Addr) (c : Nat) (w : World) (ha : 0 ≤ a) (ha' : a ≤ 1000000000000) (hl : n ≤ 1000000000000) (hr : Kd.C k64 w A n (markTone n a)) (hc : n ≤ c) :
    Calls Try.prog 45 #[.slice A n c, .int .i64 a] w fun e w' => ∃ r, e = .returned (.int .i64 r) ∧ r = a + 2 * (n : Int) ∧ Below w.heap.size w w' := by
  obtain ⟨k, h⟩ := Ev.rounds (heldToneS_ev n a ha (by omega) (by omega))
  have hm := markTone_len n a
  have hr' : Kd.C k64 w A (markTone n a).length (markTone n a) := by rw [hm]; exact hr
  have := laws_heldToneS.calls k A c (markTone n a) a _ w hr' (by omega) h
  rw [hm] at this
  refine this.mono ?_
  rintro e w' ⟨rfl, hd⟩
  exact ⟨_, rfl, rfl, hd.below⟩

/-! the reference's tones and melodies: valid -/
theorem spec_l6In_eq (a b c : Int) : spec_l6In.f a b c = some (decide (b ≤ a ∧ a ≤ c)) := by
  unfold spec_l6In.f
  by_cases h : a ≥ b
  · rw [if_pos h]; simp [show b ≤ a from h]
  · rw [if_neg h]; simp [show ¬ b ≤ a from h]

/-! formulas -/
def inR (a b n : Int) : Bool := decide (a ≤ n ∧ n ≤ b)
def fOk (x : S55) : Bool := decide (1 ≤ (x.f0.length : Int) ∧ (x.f0.length : Int) ≤ 5) && (x.f0.all (inR (-7) 7) && decide (1 ≤ x.f1 ∧ x.f1 ≤ 9))
def goF : List S55 → List S55 → Bool
  | _, [] => true
  | acc, x :: xs => fOk x && (!(acc.any (fun y => y.f0 == x.f0)) && goF (acc ++ [x]) xs)
def fsOk (l : List S55) : Bool := decide ((l.length : Int) ≤ 8) && goF [] l
theorem goF_all : ∀ {l acc : List S55}, goF acc l = true → ∀ x ∈ l, fOk x = true
  | [], _, _, x, h => by simp at h
  | y :: ys, acc, h, x, hx => by
    simp only [goF, Bool.and_eq_true] at h
    rcases List.mem_cons.1 hx with rfl | hx
    · exact h.1
    · exact goF_all h.2.2 x hx
theorem fsOk_len {l : List S55} (h : fsOk l = true) : l.length ≤ 8 := by
  unfold fsOk at h; simp at h; have := h.1; omega
theorem fsOk_all {l : List S55} (h : fsOk l = true) : ∀ x ∈ l, fOk x = true := by
  unfold fsOk at h; simp at h; exact goF_all h.2
theorem fOk_len {x : S55} (h : fOk x = true) : 1 ≤ x.f0.length ∧ x.f0.length ≤ 5 := by
  unfold fOk at h; simp at h; omega
theorem fOk_weight {x : S55} (h : fOk x = true) : 1 ≤ x.f1 ∧ x.f1 ≤ 9 := by
  unfold fOk at h; simp at h; omega
theorem rd_mem {l : List S55} {k : Int} (h0 : 0 ≤ k) (h1 : k < l.length) : rd_T55 l k ∈ l := by
  have hlt : k.toNat < l.length := by omega
  unfold rd_T55
  rw [List.getD_eq_getElem?_getD, List.getElem?_eq_getElem hlt]
  exact List.getElem_mem hlt
theorem take_rd (l : List S55) (i : Nat) (hi : i < l.length) : l.take (i + 1) = l.take i ++ [l.getD i z55] := by
  rw [List.take_succ_eq_append_getElem hi, List.getD_eq_getElem?_getD, List.getElem?_eq_getElem hi]; rfl

theorem impl_allWithin_ev (l : List Int) (hl : l.length ≤ 1000000000000) (b : Int) (hb : 0 ≤ b) (hb' : b ≤ 1000) : Ev (fun k => impl_allWithin.f k l b) (l.all (inR (-b) b)) := by
  unfold impl_allWithin.f
  have := Ev.over (0 : Int) l (fun k (_ : Unit) i => impl_allWithin.l0 k b l l.length i) (fun _ rest => rest.all (inR (-b) b)) (fun _ _ => True) (by
    intro s _
    refine Ev.succ ?_
    simp only [impl_allWithin.l0]
    exact Ev.neg (by omega) (Ev.now _)) (by
    intro s i rest _ hi _ ih
    refine Ev.succ ?_
    simp only [impl_allWithin.l0]
    rw [w64 (x := -b) (by omega) (by omega), w64 (by omega) (by omega)]
    refine Ev.pos (by omega) (Ev.pos (by omega) (Ev.pos (by omega) ?_))
    have hrd : rd l (i : Int) = l.getD i 0 := rfl
    rw [hrd]
    generalize l.getD i 0 = n
    simp only [List.all_cons]
    by_cases h1 : n < -b
    · have e : inR (-b) b n = false := decide_eq_false (by omega)
      rw [e]; exact Ev.pos h1 (Ev.now _)
    · refine Ev.neg h1 ?_
      by_cases h2 : n > b
      · have e : inR (-b) b n = false := decide_eq_false (by omega)
        rw [e]; exact Ev.pos h2 (Ev.now _)
      · have e : inR (-b) b n = true := decide_eq_true (by omega)
        rw [e]
        exact Ev.neg h2 (ih () trivial)) 0 () (Nat.zero_le _) trivial
  simpa using this
theorem impl_equalNumbers_ev (a b : List Int) (hl : a.length ≤ 1000000000000) : Ev (fun k => impl_equalNumbers.f k a b) (a == b) := by
  unfold impl_equalNumbers.f
  by_cases hlen : (a.length : Int) = (b.length : Int)
  · refine Ev.pos hlen ?_
    have := Ev.over (0 : Int) a (fun k (_ : Unit) i => impl_equalNumbers.l0 k b a a.length i) (fun _ rest => rest == b.drop (a.length - rest.length)) (fun _ _ => True) (by
      intro s _
      refine Ev.succ ?_
      simp only [impl_equalNumbers.l0]
      refine Ev.eqr (Ev.neg (by omega) (Ev.now _)) ?_
      have : b.drop a.length = [] := List.drop_eq_nil_of_le (by omega)
      simp [this]) (by
      intro s i rest _ hi hdr ih
      have hrl : rest.length + 1 + i = a.length := by
        have := congrArg List.length hdr
        simp at this; omega
      refine Ev.succ ?_
      simp only [impl_equalNumbers.l0]
      rw [w64 (by omega) (by omega)]
      refine Ev.pos (by omega) (Ev.pos (by omega) (Ev.pos (by omega) (Ev.pos (by omega) ?_)))
      have hra : rd a (i : Int) = a.getD i 0 := rfl
      have hrb : rd b (i : Int) = b.getD i 0 := rfl
      rw [hra, hrb]
      have e2 : a.length - (a.getD i 0 :: rest).length = i := by simp; omega
      have e1 : a.length - rest.length = i + 1 := by omega
      have e3 : b.drop i = b.getD i 0 :: b.drop (i + 1) := by
        rw [List.drop_eq_getElem_cons (by omega), List.getD_eq_getElem?_getD, List.getElem?_eq_getElem (by omega)]; rfl
      rw [e2, e3]
      have ih := ih () trivial
      rw [e1] at ih
      by_cases h : a.getD i 0 = b.getD i 0
      · refine Ev.pos h (Ev.eqr ih ?_)
        rw [h, Bool.eq_iff_iff]; simp
      · refine Ev.neg h (Ev.eqr (Ev.now _) ?_)
        symm; rw [beq_eq_false_iff_ne]; intro hc; exact h (List.cons.inj hc).1) 0 () (Nat.zero_le _) trivial
    simpa using this
  · refine Ev.neg hlen (Ev.eqr (Ev.now _) ?_)
    symm; rw [beq_eq_false_iff_ne]; rintro rfl; exact hlen rfl
theorem impl_Formula_valid_ev (x : S55) (hl : x.f0.length ≤ 1000000000000) : Ev (fun k => impl_Formula_valid.f k x.f0 x.f1) (fOk x) := by
  unfold impl_Formula_valid.f fOk
  by_cases h1 : (x.f0.length : Int) ≥ 1
  · refine Ev.pos h1 ?_
    by_cases h2 : (x.f0.length : Int) ≤ 5
    · refine Ev.pos h2 ?_
      rw [decide_eq_true (⟨h1, h2⟩ : 1 ≤ (x.f0.length : Int) ∧ (x.f0.length : Int) ≤ 5), Bool.true_and]
      refine Ev.bind (impl_allWithin_ev x.f0 hl 7 (by omega) (by omega)) ?_
      cases x.f0.all (inR (-7) 7)
      · exact Ev.neg (by simp) (Ev.now _)
      · refine Ev.pos rfl ?_
        by_cases h3 : x.f1 ≥ 1
        · refine Ev.pos h3 (Ev.eqr (Ev.now _) ?_)
          rw [Bool.true_and, Bool.eq_iff_iff]; simp; omega
        · refine Ev.neg h3 (Ev.eqr (Ev.now _) ?_)
          rw [Bool.true_and]; symm; exact decide_eq_false (by omega)
    · refine Ev.neg h2 (Ev.eqr (Ev.now _) ?_)
      rw [decide_eq_false (by omega : ¬ (1 ≤ (x.f0.length : Int) ∧ (x.f0.length : Int) ≤ 5))]; rfl
  · refine Ev.neg h1 (Ev.eqr (Ev.now _) ?_)
    rw [decide_eq_false (by omega : ¬ (1 ≤ (x.f0.length : Int) ∧ (x.f0.length : Int) ≤ 5))]; rfl
theorem impl_FormulasValid_ev (l : List S55) (hl : ∀ x ∈ l, x.f0.length ≤ 1000000000000) : Ev (fun k => impl_FormulasValid.f k l) (fsOk l) := by
  unfold impl_FormulasValid.f fsOk
  by_cases h8 : (l.length : Int) > 8
  · refine Ev.pos h8 (Ev.eqr (Ev.now _) ?_)
    rw [decide_eq_false (by omega : ¬ (l.length : Int) ≤ 8)]; rfl
  refine Ev.neg h8 ?_
  rw [decide_eq_true (by omega : (l.length : Int) ≤ 8), Bool.true_and]
  have := Ev.over z55 l (fun k (_ : Unit) i => impl_FormulasValid.l0 k l l l.length i) (fun _ rest => goF (l.take (l.length - rest.length)) rest) (fun _ _ => True) (by
    intro s _
    refine Ev.succ ?_
    simp only [impl_FormulasValid.l0]
    exact Ev.neg (by omega) (Ev.now _)) (by
    intro s i rest _ hi hdr ih
    have hrl : rest.length + 1 + i = l.length := by
      have := congrArg List.length hdr
      simp at this; omega
    have hm : l.getD i z55 ∈ l := by
      rw [List.getD_eq_getElem?_getD, List.getElem?_eq_getElem hi]; exact List.getElem_mem hi
    have hx := hl _ hm
    refine Ev.succ ?_
    simp only [impl_FormulasValid.l0]
    refine Ev.pos (by omega) (Ev.pos (by omega) (Ev.pos (by omega) ?_))
    have hrd : rd_T55 l (i : Int) = l.getD i z55 := rfl
    have e2 : l.length - (l.getD i z55 :: rest).length = i := by simp; omega
    have e1 : l.length - rest.length = i + 1 := by omega
    have ih := ih () trivial
    rw [e1, take_rd l i hi] at ih
    rw [hrd, e2]
    generalize l.getD i z55 = x at hx ih
    simp only [goF]
    refine Ev.bind (impl_Formula_valid_ev x hx) ?_
    cases hf : fOk x
    · exact Ev.neg (by simp) (Ev.now _)
    refine Ev.pos rfl (Ev.pos (by omega) (Ev.someb ?_))
    simp only [Int.toNat_natCast, Bool.true_and]
    have htl : (l.take i).length = i := by simp; omega
    have inner := Ev.over z55 (l.take i) (fun k (_ : Unit) j => impl_FormulasValid.l1 k l l l.length i (l.take i) ((l.take i).length : Int) j x.f0 x.f1) (fun _ rest' => !(rest'.any (fun y => y.f0 == x.f0)) && goF (l.take i ++ [x]) rest) (fun _ _ => True) (by
      intro s _
      refine Ev.succ ?_
      simp only [impl_FormulasValid.l1]
      refine Ev.neg (by omega) ?_
      rw [w64 (by omega) (by omega)]
      exact ih) (by
      intro s j rest' _ hj _ ih'
      have hjm : (l.take i).getD j z55 ∈ l := by
        rw [List.getD_eq_getElem?_getD, List.getElem?_eq_getElem hj]; exact List.mem_of_mem_take (List.getElem_mem hj)
      have hxj := hl _ hjm
      refine Ev.succ ?_
      simp only [impl_FormulasValid.l1]
      refine Ev.pos (by omega) (Ev.pos (by omega) (Ev.pos (by omega) ?_))
      have hrd' : rd_T55 (l.take i) (j : Int) = (l.take i).getD j z55 := rfl
      rw [hrd']
      generalize (l.take i).getD j z55 = y at hxj
      refine Ev.bind (impl_equalNumbers_ev _ _ hxj) ?_
      simp only [List.any_cons]
      cases y.f0 == x.f0
      · refine Ev.neg (by simp) ?_
        rw [w64 (by omega) (by omega)]
        simpa using ih' () trivial
      · exact Ev.pos rfl (Ev.now _)) 0 () (Nat.zero_le _) trivial
    simpa using inner) 0 () (Nat.zero_le _) trivial
  simpa using this

theorem spec_l2Same_ev (a b : List Int) (hl : a.length ≤ 1000000000000) : Ev (fun k => spec_l2Same.f k a b) (a == b) := by
  unfold spec_l2Same.f
  by_cases hlen : (a.length : Int) = (b.length : Int)
  · refine Ev.pos hlen ?_
    have := Ev.over (0 : Int) a (fun k (_ : Unit) i => spec_l2Same.l0 k a b i) (fun _ rest => rest == b.drop (a.length - rest.length)) (fun _ _ => True) (by
      intro s _
      refine Ev.succ ?_
      simp only [spec_l2Same.l0]
      refine Ev.eqr (Ev.neg (by omega) (Ev.now _)) ?_
      have : b.drop a.length = [] := List.drop_eq_nil_of_le (by omega)
      simp [this]) (by
      intro s i rest _ hi hdr ih
      have hrl : rest.length + 1 + i = a.length := by
        have := congrArg List.length hdr
        simp at this; omega
      refine Ev.succ ?_
      simp only [spec_l2Same.l0]
      rw [w64 (by omega) (by omega)]
      refine Ev.pos (by omega) (Ev.pos (by omega) (Ev.pos (by omega) ?_))
      have hra : rd a (i : Int) = a.getD i 0 := rfl
      have hrb : rd b (i : Int) = b.getD i 0 := rfl
      rw [hra, hrb]
      have e2 : a.length - (a.getD i 0 :: rest).length = i := by simp; omega
      have e1 : a.length - rest.length = i + 1 := by omega
      have e3 : b.drop i = b.getD i 0 :: b.drop (i + 1) := by
        rw [List.drop_eq_getElem_cons (by omega), List.getD_eq_getElem?_getD, List.getElem?_eq_getElem (by omega)]; rfl
      rw [e2, e3]
      have ih := ih () trivial
      rw [e1] at ih
      by_cases h : a.getD i 0 = b.getD i 0
      · refine Ev.pos h (Ev.eqr ih ?_)
        rw [h, Bool.eq_iff_iff]; simp
      · refine Ev.neg h (Ev.eqr (Ev.now _) ?_)
        symm; rw [beq_eq_false_iff_ne]; intro hc; exact h (List.cons.inj hc).1) 0 () (Nat.zero_le _) trivial
    simpa using this
  · refine Ev.neg hlen (Ev.eqr (Ev.now _) ?_)
    symm; rw [beq_eq_false_iff_ne]; rintro rfl; exact hlen rfl
theorem spec_l6fOne_ev (x : S55) (hl : x.f0.length ≤ 1000000000000) : Ev (fun k => spec_l6fOne.f k x.f0 x.f1) (fOk x) := by
  unfold spec_l6fOne.f
  have := Ev.over (0 : Int) x.f0 (fun k (_ : Unit) i => spec_l6fOne.l0 k i x.f0 x.f1) (fun _ rest => rest.all (inR (-7) 7) && (decide (1 ≤ (x.f0.length : Int) ∧ (x.f0.length : Int) ≤ 5) && decide (1 ≤ x.f1 ∧ x.f1 ≤ 9))) (fun _ _ => True) (by
    intro s _
    refine Ev.succ ?_
    simp only [spec_l6fOne.l0, List.all_nil, Bool.true_and]
    refine Ev.neg (by omega) (Ev.conb (spec_l6In_eq _ _ _) ?_)
    by_cases h : 1 ≤ (x.f0.length : Int) ∧ (x.f0.length : Int) ≤ 5
    · rw [decide_eq_true h]
      exact Ev.pos rfl (Ev.conb (spec_l6In_eq _ _ _) (Ev.now _))
    · rw [decide_eq_false h]
      exact Ev.neg (by simp) (Ev.now _)) (by
    intro s i rest _ hi _ ih
    refine Ev.succ ?_
    simp only [spec_l6fOne.l0, List.all_cons]
    rw [w64 (by omega) (by omega)]
    refine Ev.pos (by omega) (Ev.pos (by omega) (Ev.conb (spec_l6In_eq _ _ _) ?_))
    have hrd : rd x.f0 (i : Int) = x.f0.getD i 0 := rfl
    rw [hrd]
    show Ev _ ((decide (-7 ≤ x.f0.getD i 0 ∧ x.f0.getD i 0 ≤ 7) && _) && _)
    by_cases h : -7 ≤ x.f0.getD i 0 ∧ x.f0.getD i 0 ≤ 7
    · rw [decide_eq_true h]
      exact Ev.pos rfl (ih () trivial)
    · rw [decide_eq_false h]
      exact Ev.neg (by simp) (Ev.now _)) 0 () (Nat.zero_le _) trivial
  refine Ev.eqr (by simpa using this) ?_
  unfold fOk
  cases x.f0.all (inR (-7) 7) <;> simp
theorem spec_FormulasValid_ev (l : List S55) (hll : l.length ≤ 1000000000000) (hl : ∀ x ∈ l, x.f0.length ≤ 1000000000000) : Ev (fun k => spec_FormulasValid.f k l) (fsOk l) := by
  unfold spec_FormulasValid.f
  have := Ev.over z55 l (fun k (_ : Unit) i => spec_FormulasValid.l0 k l i) (fun _ rest => goF (l.take (l.length - rest.length)) rest && decide ((l.length : Int) ≤ 8)) (fun _ _ => True) (by
    intro s _
    refine Ev.succ ?_
    simp only [spec_FormulasValid.l0, goF, Bool.true_and]
    exact Ev.neg (by omega) (Ev.now _)) (by
    intro s i rest _ hi hdr ih
    have hrl : rest.length + 1 + i = l.length := by
      have := congrArg List.length hdr
      simp at this; omega
    have hm : l.getD i z55 ∈ l := by
      rw [List.getD_eq_getElem?_getD, List.getElem?_eq_getElem hi]; exact List.getElem_mem hi
    have hx := hl _ hm
    refine Ev.succ ?_
    simp only [spec_FormulasValid.l0]
    refine Ev.pos (by omega) (Ev.pos (by omega) ?_)
    have hrd : rd_T55 l (i : Int) = l.getD i z55 := rfl
    have e2 : l.length - (l.getD i z55 :: rest).length = i := by simp; omega
    have e1 : l.length - rest.length = i + 1 := by omega
    have ih := ih () trivial
    rw [e1, take_rd l i hi] at ih
    rw [e2]
    rw [← hrd] at hx ih ⊢
    simp only [goF]
    refine Ev.bind (spec_l6fOne_ev _ hx) ?_
    cases hf : fOk (rd_T55 l (i : Int))
    · exact Ev.neg (by simp) (Ev.now _)
    refine Ev.pos rfl ?_
    simp only [Bool.true_and]
    have htl : (l.take i).length = i := by simp; omega
    have inner := Ev.over z55 (l.take i) (fun k (_ : Unit) j => spec_FormulasValid.l1 k l i j) (fun _ rest' => (!(rest'.any (fun y => y.f0 == (rd_T55 l (i : Int)).f0)) && goF (l.take i ++ [rd_T55 l (i : Int)]) rest) && decide ((l.length : Int) ≤ 8)) (fun _ _ => True) (by
      intro s _
      refine Ev.succ ?_
      simp only [spec_FormulasValid.l1]
      refine Ev.neg (by omega) ?_
      rw [w64 (by omega) (by omega)]
      simpa using ih) (by
      intro s j rest' _ hj _ ih'
      have hjm : (l.take i).getD j z55 ∈ l := by
        rw [List.getD_eq_getElem?_getD, List.getElem?_eq_getElem hj]; exact List.mem_of_mem_take (List.getElem_mem hj)
      have hxj := hl _ hjm
      refine Ev.succ ?_
      simp only [spec_FormulasValid.l1]
      refine Ev.pos (by omega) (Ev.pos (by omega) (Ev.pos (by omega) (Ev.pos (by omega) (Ev.pos (by omega) ?_))))
      have hrd' : rd_T55 l (j : Int) = (l.take i).getD j z55 := by
        rw [List.getD_eq_getElem?_getD, List.getElem?_take, if_pos (by omega)]
        simp [rd_T55]
      rw [hrd']
      generalize (l.take i).getD j z55 = y at hxj
      refine Ev.bind (spec_l2Same_ev _ _ hx) ?_
      simp only [List.any_cons]
      have hcm : (y.f0 == (rd_T55 l (i : Int)).f0) = ((rd_T55 l (i : Int)).f0 == y.f0) := by rw [Bool.eq_iff_iff, beq_iff_eq, beq_iff_eq]; exact eq_comm
      rw [hcm]
      cases (rd_T55 l (i : Int)).f0 == y.f0
      · refine Ev.neg (by simp) ?_
        rw [w64 (by omega) (by omega)]
        simpa using ih' () trivial
      · exact Ev.pos rfl (Ev.now _)) 0 () (Nat.zero_le _) trivial
    simpa using inner) 0 () (Nat.zero_le _) trivial
  refine Ev.eqr (by simpa using this) ?_
  unfold fsOk
  rw [Bool.and_comm]

/-! what a reading builds -/
def goB (l : List S55) : List Int → List Int → List Int × Bool
  | acc, [] => (acc, true)
  | acc, i :: is => if i < 0 ∨ (l.length : Int) ≤ i ∨ acc.length + (rd_T55 l i).f0.length > 23 then ([], false) else goB l (acc ++ (rd_T55 l i).f0) is
def fbuild (l : List S55) (r : List Int) : List Int × Bool := if fsOk l = true then goB l [] r else ([], false)
theorem goB_len (l : List S55) : ∀ r acc, acc.length ≤ 23 → (goB l acc r).1.length ≤ 23
  | [], acc, h => h
  | i :: is, acc, h => by
    simp only [goB]
    split
    · simp
    · exact goB_len l is _ (by rw [List.length_append]; omega)
theorem fbuild_len (l : List S55) (r : List Int) : (fbuild l r).1.length ≤ 23 := by
  unfold fbuild
  split
  · exact goB_len l r [] (by simp)
  · simp
theorem impl_FormulasBuild_ev (l : List S55) (r : List Int) (hl : ∀ x ∈ l, x.f0.length ≤ 1000000000000) (hr : r.length ≤ 1000000000000) : Ev (fun k => impl_FormulasBuild.f k l r) (fbuild l r) := by
  unfold impl_FormulasBuild.f fbuild
  refine Ev.bind (impl_FormulasValid_ev l hl) ?_
  cases hok : fsOk l
  · exact Ev.neg (by simp) (Ev.eqr (Ev.now _) (by simp))
  refine Ev.pos rfl ?_
  rw [if_pos rfl]
  have h8 := fsOk_len hok
  have := Ev.over (0 : Int) r (fun k (s : List Int) i => impl_FormulasBuild.l0 k l s r r.length i) (fun s rest => goB l s rest) (fun i s => s.length ≤ 23) (by
    intro s _
    refine Ev.succ ?_
    simp only [impl_FormulasBuild.l0, goB]
    exact Ev.neg (by omega) (Ev.now _)) (by
    intro s i rest hs hi _ ih
    refine Ev.succ ?_
    simp only [impl_FormulasBuild.l0, goB]
    refine Ev.pos (by omega) (Ev.pos (by omega) (Ev.pos (by omega) ?_))
    have hrd : rd r (i : Int) = r.getD i 0 := rfl
    rw [hrd]
    generalize r.getD i 0 = n
    by_cases h1 : n < 0
    · rw [if_pos (Or.inl h1)]
      exact Ev.pos h1 (Ev.now _)
    · refine Ev.neg h1 ?_
      by_cases h2 : n ≥ (l.length : Int)
      · rw [if_pos (Or.inr (Or.inl h2))]
        exact Ev.pos h2 (Ev.now _)
      · refine Ev.neg h2 (Ev.pos (by omega) (Ev.pos (by omega) ?_))
        have hw := fOk_len (fsOk_all hok _ (rd_mem (k := n) (by omega) (by omega)))
        rw [w64 (by omega) (by omega)]
        by_cases h3 : (s.length : Int) + ((rd_T55 l n).f0.length : Int) > 23
        · rw [if_pos (Or.inr (Or.inr (by omega)))]
          exact Ev.pos h3 (Ev.now _)
        · rw [if_neg (by omega)]
          refine Ev.neg h3 (Ev.pos (by omega) ?_)
          rw [w64 (by omega) (by omega)]
          exact ih _ (by rw [List.length_append]; omega)) 0 [] (Nat.zero_le _) (by simp)
  simpa using this
theorem spec_FormulasBuild_ev (l : List S55) (r : List Int) (hll : l.length ≤ 1000000000000) (hl : ∀ x ∈ l, x.f0.length ≤ 1000000000000) (hr : r.length ≤ 1000000000000) : Ev (fun k => spec_FormulasBuild.f k l r) (fbuild l r) := by
  unfold spec_FormulasBuild.f fbuild
  refine Ev.someb (Ev.bind (spec_FormulasValid_ev l hll hl) ?_)
  cases hok : fsOk l
  · exact Ev.neg (by simp) (Ev.eqr (Ev.now _) (by simp))
  refine Ev.pos rfl ?_
  rw [if_pos rfl]
  have h8 := fsOk_len hok
  have := Ev.over (0 : Int) r (fun k (s : List Int) i => spec_FormulasBuild.l0 k l r s i) (fun s rest => goB l s rest) (fun i s => s.length ≤ 23) (by
    intro s _
    refine Ev.succ ?_
    simp only [spec_FormulasBuild.l0, goB]
    exact Ev.neg (by omega) (Ev.now _)) (by
    intro s i rest hs hi _ ih
    refine Ev.succ ?_
    simp only [spec_FormulasBuild.l0, goB]
    rw [w64 (x := (l.length : Int) - 1) (by omega) (by omega)]
    refine Ev.pos (by omega) (Ev.pos (by omega) (Ev.conb (spec_l6In_eq _ _ _) ?_))
    have hrd : rd r (i : Int) = r.getD i 0 := rfl
    rw [hrd]
    generalize r.getD i 0 = n
    by_cases h1 : 0 ≤ n ∧ n ≤ (l.length : Int) - 1
    · rw [decide_eq_true h1]
      have hw := fOk_len (fsOk_all hok _ (rd_mem (k := n) (by omega) (by omega)))
      refine Ev.pos rfl (Ev.pos h1.1 (Ev.pos (by omega) (Ev.pos (by omega) (Ev.someb ?_))))
      by_cases h3 : ((s ++ (rd_T55 l n).f0).length : Int) ≥ 24
      · rw [if_pos (by rw [List.length_append] at h3; omega)]
        exact Ev.pos h3 (Ev.now _)
      · have h3' := h3
        rw [List.length_append] at h3'
        rw [if_neg (by omega), w64 (by omega) (by omega)]
        exact Ev.neg h3 (ih _ (by rw [List.length_append]; omega))
    · rw [decide_eq_false h1, if_pos (by omega)]
      exact Ev.neg (by simp) (Ev.now _)) 0 [] (Nat.zero_le _) (by simp)
  simpa using this

/-! tones and melodies: valid -/
def toneOk (t : S64) : Bool := decide (0 ≤ t.f0 ∧ t.f0 ≤ 20) && (!t.f1 || Int.tmod t.f0 7 == 2)
def melOk (m : List S64) : Bool := decide (m.length ≤ 24) && m.all toneOk
theorem melOk_len {m : List S64} (h : melOk m = true) : m.length ≤ 24 := by
  unfold melOk at h; simp at h; exact h.1
theorem impl_Tone_valid_eq (a : Int) (b : Bool) : impl_Tone_valid.f a b = some (toneOk ⟨a, b⟩) := by
  unfold impl_Tone_valid.f toneOk
  by_cases h : a ≥ 0
  · by_cases h' : a ≤ 20
    · cases b
      · simp [h, h']
      · simp [h, h']
    · simp [h, h']
  · have : ¬ (0 ≤ a) := h
    simp [this]

/-! the reference's tones and melodies: valid -/
theorem spec_ToneValid_eq (a : Int) (b : Bool) : spec_ToneValid.f a b = some (toneOk ⟨a, b⟩) := by
  unfold spec_ToneValid.f toneOk
  rw [spec_l6In_eq]
  by_cases h : 0 ≤ a ∧ a ≤ 20
  · cases b <;> simp [h, spec_l1Letter.f]
  · simp [h]
theorem spec_MelodyValid_ev (m : List S64) (hm : m.length ≤ 1000000000000) : Ev (fun k => spec_MelodyValid.f k m) (melOk m) := by
  unfold spec_MelodyValid.f
  have := Ev.over z64 m (fun k (_ : Unit) i => spec_MelodyValid.l0 k m i) (fun _ l => l.all toneOk && decide (m.length ≤ 24)) (fun _ _ => True) (by
      intro s _
      refine Ev.succ ?_
      simp only [spec_MelodyValid.l0]
      refine Ev.eqr (Ev.neg (by omega) (Ev.now _)) ?_
      simp; omega) (by
      intro s i rest _ hi _ ih
      refine Ev.succ ?_
      simp only [spec_MelodyValid.l0]
      refine Ev.pos (by omega) (Ev.pos (by omega) (Ev.conb (spec_ToneValid_eq _ _) ?_))
      show Ev _ (toneOk (rd_T64 m i) && _ && _)
      cases ht : toneOk (rd_T64 m i)
      · exact Ev.neg (by simp [ht]) (Ev.now _)
      · refine Ev.pos (by simp [ht]) ?_
        rw [w64 (by omega) (by omega)]
        simpa using ih () trivial) 0 () (Nat.zero_le _) trivial
  refine Ev.eqr (by simpa using this) ?_
  unfold melOk
  rw [Bool.and_comm]

/-! what a reading sings -/
theorem goB_all {l : List S55} (hv : fsOk l = true) : ∀ (r acc : List Int), acc.all (inR (-20) 20) = true → (goB l acc r).1.all (inR (-20) 20) = true
  | [], acc, h => h
  | i :: is, acc, h => by
    simp only [goB]
    split
    · rfl
    · rename_i hc
      refine goB_all hv is _ ?_
      rw [List.all_append, h, Bool.true_and]
      have hf := fsOk_all hv _ (rd_mem (l := l) (k := i) (by omega) (by omega))
      unfold fOk at hf
      simp only [Bool.and_eq_true] at hf
      rw [List.all_eq_true]
      intro x hx
      have := List.all_eq_true.1 hf.2.1 x hx
      unfold inR at this ⊢
      simp at this ⊢
      omega
theorem fbuild_all (l : List S55) (r : List Int) : (fbuild l r).1.all (inR (-20) 20) = true := by
  unfold fbuild
  split
  · rename_i h; exact goB_all h r [] rfl
  · rfl
theorem fbuild_no {l : List S55} {r : List Int} (h : (fbuild l r).2 = false) : (fbuild l r).1 = [] := by
  have key : ∀ (r acc : List Int), (goB l acc r).2 = false → (goB l acc r).1 = [] := by
    intro r
    induction r with
    | nil => intro acc h; cases h
    | cons i is ih =>
      intro acc h
      simp only [goB] at h ⊢
      split at h
      · rename_i hc; rw [if_pos hc]
      · rename_i hc; rw [if_neg hc]; exact ih _ h
  unfold fbuild at h ⊢
  split at h
  · rename_i hc; rw [if_pos hc]; exact key r [] h
  · rename_i hc; rw [if_neg hc]
def tAbove (a : Int) (b : Bool) (d : Int) (s : Bool) : Int × Bool × Bool := if toneOk ⟨a, b⟩ = true ∧ (-20 ≤ d ∧ d ≤ 20) ∧ toneOk ⟨wrap64 (a + d), s⟩ = true then (wrap64 (a + d), s, true) else (0, false, false)
theorem impl_ToneAbove_ev (a : Int) (b : Bool) (d : Int) (s : Bool) : Ev (fun k => impl_ToneAbove.f k a b d s) (tAbove a b d s) := by
  unfold impl_ToneAbove.f
  refine Ev.conb (impl_Tone_valid_eq a b) ?_
  have no : (¬ toneOk ⟨a, b⟩ = true ∨ ¬ (-20 ≤ d ∧ d ≤ 20)) → Ev (fun k => impl_ToneAbove.j0 k d s true a b) (tAbove a b d s) := by
    intro h
    refine Ev.succ ?_
    simp only [impl_ToneAbove.j0]
    refine Ev.pos trivial (Ev.eqr (Ev.now _) ?_)
    unfold tAbove
    rw [if_neg (fun hh => by rcases h with h | h; exact h hh.1; exact h hh.2.1)]
  by_cases h1 : toneOk ⟨a, b⟩ = true
  · refine Ev.pos h1 ?_
    by_cases h2 : d < (-20)
    · exact Ev.pos h2 (no (.inr (by omega)))
    refine Ev.neg h2 ?_
    by_cases h3 : d > 20
    · rw [decide_eq_true h3]; exact no (.inr (by omega))
    rw [decide_eq_false h3]
    refine Ev.succ ?_
    simp only [impl_ToneAbove.j0]
    refine Ev.neg (by simp) (Ev.conb (impl_Tone_valid_eq _ s) ?_)
    by_cases h4 : toneOk ⟨wrap64 (a + d), s⟩ = true
    · refine Ev.pos h4 (Ev.eqr (Ev.now _) ?_)
      unfold tAbove
      rw [if_pos ⟨h1, by omega, h4⟩]
    · refine Ev.neg h4 (Ev.eqr (Ev.now _) ?_)
      unfold tAbove
      rw [if_neg (fun hh => h4 hh.2.2)]
  · exact Ev.neg h1 (no (.inl h1))
/-- The tones behind a step, by differences. -/
def ext (x : Int) : List Int → List S64
  | [] => []
  | d :: ds => ⟨wrap64 (x + d), false⟩ :: ext (wrap64 (x + d)) ds
theorem ext_len : ∀ (ds : List Int) (x : Int), (ext x ds).length = ds.length
  | [], _ => rfl
  | d :: ds, x => by simp [ext, ext_len ds]
def fmelT (l : List S55) (r : List Int) (a : Int) (b : Bool) : List S64 := ⟨a, b⟩ :: ext a (fbuild l r).1
def fmel (l : List S55) (r : List Int) (a : Int) (b : Bool) : List S64 × Bool := if (fbuild l r).2 = true ∧ melOk (fmelT l r a b) = true then (fmelT l r a b, true) else ([], false)
def lastF (s : List S64) : Int := (rd_T64 s ((s.length : Int) - 1)).f0
theorem lastF_snoc (s : List S64) (t : S64) : lastF (s ++ [t]) = t.f0 := by
  unfold lastF rd_T64
  have e : (((s ++ [t]).length : Int) - 1).toNat = s.length := by rw [List.length_append, List.length_singleton]; omega
  rw [e, List.getD_eq_getElem?_getD, List.getElem?_append_right (Nat.le_refl _)]; simp
theorem fmel_len (l : List S55) (r : List Int) (a : Int) (b : Bool) : (fmel l r a b).1.length ≤ 24 := by
  unfold fmel
  split
  · have := fbuild_len l r
    show (fmelT l r a b).length ≤ 24
    unfold fmelT
    rw [List.length_cons, ext_len]; omega
  · exact Nat.zero_le _
theorem melOk_cons {t : S64} {m : List S64} : melOk (t :: m) = (decide ((t :: m).length ≤ 24) && (toneOk t && m.all toneOk)) := rfl
theorem impl_FormulasMelody_ev (l : List S55) (r : List Int) (a : Int) (b : Bool) (hl : ∀ x ∈ l, x.f0.length ≤ 1000000000000) (hr : r.length ≤ 1000000000000) : Ev (fun k => impl_FormulasMelody.f k l r a b) (fmel l r a b) := by
  unfold impl_FormulasMelody.f
  refine Ev.bind (impl_FormulasBuild_ev l r hl hr) ?_
  have hall := fbuild_all l r
  have hlen := fbuild_len l r
  obtain ⟨⟨D, ok⟩, hD⟩ : ∃ D, D = fbuild l r := ⟨_, rfl⟩
  unfold fmel fmelT
  rw [← hD] at hall hlen ⊢
  simp only [] at hall hlen ⊢
  have no : Ev (fun k => impl_FormulasMelody.j0 k D true a b) (([] : List S64), false) := by
    refine Ev.succ ?_
    simp only [impl_FormulasMelody.j0]
    exact Ev.pos trivial (Ev.now _)
  cases ok
  · refine Ev.neg (by simp) (Ev.eqr no ?_)
    rw [if_neg (fun h => by cases h.1)]
  refine Ev.pos rfl (Ev.conb (impl_Tone_valid_eq a b) ?_)
  by_cases h1 : toneOk ⟨a, b⟩ = true
  · rw [h1]
    refine Ev.succ ?_
    simp only [impl_FormulasMelody.j0]
    refine Ev.neg (by simp) ?_
    have := Ev.over (0 : Int) D (fun k (s : List S64) i => impl_FormulasMelody.l0 k s D (D.length : Int) i) (fun s rest => if (ext (lastF s) rest).all toneOk = true then (s ++ ext (lastF s) rest, true) else (([] : List S64), false)) (fun i s => s.length = i + 1 ∧ toneOk (rd_T64 s ((s.length : Int) - 1)) = true) (by
      intro s hs
      refine Ev.succ ?_
      simp only [impl_FormulasMelody.l0]
      refine Ev.neg (by omega) (Ev.eqr (Ev.now _) ?_)
      simp [ext]) (by
      intro s i rest hs hi hdr ih
      obtain ⟨hs1, hs2⟩ := hs
      have hrd : rd D (i : Int) = D.getD i 0 := rfl
      have hd : inR (-20) 20 (D.getD i 0) = true := by
        refine List.all_eq_true.1 hall _ ?_
        rw [List.getD_eq_getElem?_getD, List.getElem?_eq_getElem hi]; exact List.getElem_mem hi
      refine Ev.succ ?_
      simp only [impl_FormulasMelody.l0]
      rw [hrd, w64 (x := (s.length : Int) - 1) (by omega) (by omega), w64 (x := (i : Int) + 1) (by omega) (by omega)]
      generalize D.getD i 0 = d at hd
      unfold inR at hd
      simp at hd
      refine Ev.pos (by omega) (Ev.pos (by omega) (Ev.pos (by omega) (Ev.pos (by omega) (Ev.pos (by omega) (Ev.bind (impl_ToneAbove_ev _ _ d false) ?_)))))
      have hlast : (rd_T64 s ((s.length : Int) - 1)).f0 = lastF s := rfl
      unfold tAbove
      simp only [ext, List.all_cons]
      rw [hlast]
      have hs3 : toneOk ⟨lastF s, (rd_T64 s ((s.length : Int) - 1)).f1⟩ = true := hs2
      by_cases h4 : toneOk ⟨wrap64 (lastF s + d), false⟩ = true
      · rw [if_pos ⟨hs3, by omega, h4⟩]
        refine Ev.pos rfl (Ev.pos (by omega) ?_)
        have := ih (s ++ [⟨wrap64 (lastF s + d), false⟩]) ⟨by rw [List.length_append, List.length_singleton]; omega, by
          unfold rd_T64
          have e : (((s ++ [(⟨wrap64 (lastF s + d), false⟩ : S64)]).length : Int) - 1).toNat = s.length := by rw [List.length_append, List.length_singleton]; omega
          rw [e, List.getD_eq_getElem?_getD, List.getElem?_append_right (Nat.le_refl _)]
          simpa using h4⟩
        rw [lastF_snoc] at this
        refine Ev.eqr this ?_
        simp only [h4, Bool.true_and]
        rw [List.append_assoc]; rfl
      · rw [if_neg (fun hh => h4 hh.2.2)]
        refine Ev.neg (by simp) (Ev.eqr (Ev.now _) ?_)
        rw [Bool.not_eq_true] at h4
        simp [h4]) 0 [⟨a, b⟩] (Nat.zero_le _) ⟨rfl, h1⟩
    refine Ev.eqr (by simpa using this) ?_
    have e : lastF [(⟨a, b⟩ : S64)] = a := rfl
    rw [e, melOk_cons, h1, List.length_cons, ext_len, decide_eq_true (by omega)]
    simp
  · rw [Bool.not_eq_true] at h1
    rw [h1]
    refine Ev.eqr no ?_
    rw [melOk_cons, h1]; simp
theorem spec_FormulasMelody_ev (l : List S55) (r : List Int) (a : Int) (b : Bool) (hll : l.length ≤ 1000000000000) (hl : ∀ x ∈ l, x.f0.length ≤ 1000000000000) (hr : r.length ≤ 1000000000000) : Ev (fun k => spec_FormulasMelody.f k l r a b) (fmel l r a b) := by
  unfold spec_FormulasMelody.f
  refine Ev.bind (spec_FormulasBuild_ev l r hll hl hr) ?_
  have hlen := fbuild_len l r
  obtain ⟨⟨D, ok⟩, hD⟩ : ∃ D, D = fbuild l r := ⟨_, rfl⟩
  unfold fmel fmelT
  rw [← hD] at hlen ⊢
  simp only [] at hlen ⊢
  have := Ev.over (0 : Int) D (fun k (s : List S64) i => spec_FormulasMelody.l0 k D ok s i) (fun s rest => if ok = true ∧ melOk (s ++ ext (lastF s) rest) = true then (s ++ ext (lastF s) rest, true) else (([] : List S64), false)) (fun i s => s.length = i + 1) (by
    intro s hs
    refine Ev.succ ?_
    simp only [spec_FormulasMelody.l0, ext, List.append_nil]
    refine Ev.neg (by omega) ?_
    cases ok
    · refine Ev.neg (by simp) (Ev.eqr (Ev.now _) ?_)
      rw [if_neg (fun h => by cases h.1)]
    · refine Ev.pos rfl (Ev.bind (spec_MelodyValid_ev s (by omega)) ?_)
      cases melOk s
      · exact Ev.neg (by simp) (Ev.eqr (Ev.now _) (by simp))
      · exact Ev.pos rfl (Ev.eqr (Ev.now _) (by simp))) (by
    intro s i rest hs hi hdr ih
    have hrd : rd D (i : Int) = D.getD i 0 := rfl
    refine Ev.succ ?_
    simp only [spec_FormulasMelody.l0]
    have hlast : (rd_T64 s (i : Int)).f0 = lastF s := by
      unfold lastF
      have e : (s.length : Int) - 1 = (i : Int) := by omega
      rw [e]
    rw [hrd, hlast, w64 (x := (i : Int) + 1) (by omega) (by omega)]
    generalize D.getD i 0 = d
    refine Ev.pos (by omega) (Ev.pos (by omega) (Ev.pos (by omega) (Ev.pos (by omega) ?_)))
    have := ih (s ++ [⟨wrap64 (lastF s + d), false⟩]) (by rw [List.length_append, List.length_singleton]; omega)
    rw [lastF_snoc] at this
    refine Ev.eqr this ?_
    simp only [ext]
    rw [List.append_assoc]; rfl) 0 [⟨a, b⟩] (Nat.zero_le _) rfl
  refine Ev.eqr (by simpa using this) ?_
  have e : lastF [(⟨a, b⟩ : S64)] = a := rfl
  rw [e]

theorem impl_FormulasMelody_x (l : List S55) (r : List Int) (a : Int) (b : Bool) (A0 : Option Addr) (c0 : Nat) (A1 : Option Addr) (c1 : Nat) (w : World) (hr0 : Kd.C k55 w A0 l.length l) (hc0 : l.length ≤ c0) (hr1 : Kd.C (Kd.int .i64) w A1 r.length r) (hc1 : r.length ≤ c1) (hl : FormulaSz l ≤ 1000000000000) (hr : r.length ≤ 1000000000000) :
    Calls Try.prog 42 #[.slice A0 l.length c0, .slice A1 r.length c1, .agg #[.int .i64 a, .bool b]] w fun e w' => ∃ v, e = .returned (.tuple #[v, .bool (fmel l r a b).2]) ∧ Kd.R k64 64 w' w.heap.size (fun _ => True) v (fmel l r a b).1 ∧ Below w.heap.size w w' := by
  obtain ⟨kk, h⟩ := Ev.rounds (impl_FormulasMelody_ev l r a b (fun x hx => by have := FormulaSz_get hx; omega) hr)
  exact impl_FormulasMelody.calls kk _ _ l _ _ r _ _ _ _ w hr0 hc0 hr1 hc1 h
theorem spec_FormulasMelody_x (l : List S55) (r : List Int) (a : Int) (b : Bool) (A0 : Option Addr) (c0 : Nat) (A1 : Option Addr) (c1 : Nat) (w : World) (hr0 : Kd.C k55 w A0 l.length l) (hc0 : l.length ≤ c0) (hr1 : Kd.C (Kd.int .i64) w A1 r.length r) (hc1 : r.length ≤ c1) (hl : FormulaSz l ≤ 1000000000000) (hr : r.length ≤ 1000000000000) :
    Calls Try.prog 40 #[.slice A0 l.length c0, .slice A1 r.length c1, .agg #[.int .i64 a, .bool b]] w fun e w' => ∃ v, e = .returned (.tuple #[v, .bool (fmel l r a b).2]) ∧ Kd.R k64 64 w' w.heap.size (fun _ => True) v (fmel l r a b).1 ∧ Below w.heap.size w w' := by
  obtain ⟨kk, h⟩ := Ev.rounds (spec_FormulasMelody_ev l r a b (by have := FormulaSz_len l; omega) (fun x hx => by have := FormulaSz_get hx; omega) hr)
  exact spec_FormulasMelody.calls kk _ _ l _ _ r _ _ _ _ w hr0 hc0 hr1 hc1 h

/-! arguments that are read as data, as kinds -/
def Opn {α : Type} (P : Program) (t : TypeId) (d : Kd α) (ok : α → Prop) : Prop :=
  P.cellsOf t = d.sz ∧ ∀ {H : Type} (enc : TypeId × Value → H) (w : World) (base : Nat) (held : Bool) (fuel : Nat) (cs : List Value) (x : DataW H × List MemPlace), DataW.trod enc P w base (fun _ => true) held fuel t cs = some x → ∃ p, d.K w p cs ∧ ok p
theorem opn_int {P : Program} {t : TypeId} (k : IntKind) (ht : P.underlying t = some (.int k)) (hc : P.cellsOf t = 1) : Opn P t (Kd.int k) (fun n => (Lit.int k n).wf = true) :=
  ⟨hc, fun enc w base held fuel cs x h => by obtain ⟨n, rfl, _, hw⟩ := DataW.trod_int ht h; exact ⟨n, rfl, hw⟩⟩
theorem opn_bool {P : Program} {t : TypeId} (ht : P.underlying t = some .bool) (hc : P.cellsOf t = 1) : Opn P t Kd.bool (fun _ => True) :=
  ⟨hc, fun enc w base held fuel cs x h => by obtain ⟨n, rfl, _⟩ := DataW.trod_bool ht h; exact ⟨n, rfl, trivial⟩⟩
theorem opn_string {P : Program} {t : TypeId} (ht : P.underlying t = some .string) (hc : P.cellsOf t = 1) : Opn P t Kd.string (fun s => s.size ≤ maxLen) :=
  ⟨hc, fun enc w base held fuel cs x h => by obtain ⟨n, rfl, _, hs⟩ := DataW.trod_string ht h; exact ⟨n, rfl, hs⟩⟩
theorem opn_slice {α : Type} {P : Program} {t e : TypeId} {d : Kd α} {ok : α → Prop} (ht : P.underlying t = some (.slice e)) (hc : P.cellsOf t = 1) (he : Opn P e d ok) : Opn P t (Kd.slice e d) (fun l => (∀ x ∈ l, ok x) ∧ l.length ≤ maxLen) := by
  refine ⟨hc, fun enc w base held fuel cs x h => ?_⟩
  rcases Go.Deep.open_slice ht h with ⟨rfl, _⟩ | ⟨a, len, cap, m, n, D, Pl, rfl, _, hl, hm, hmm, _, hi⟩
  · exact ⟨[], ⟨none, 0, rfl, Nat.le_refl _, rfl, by simp, fun h => by simp at h⟩, by simp, by simp⟩
  · have hmc : m = cap := by simpa using hmm
    clear hmm
    have key : ∀ k, k ≤ len → ∃ l : List α, l.length = k ∧ (∀ x ∈ l, ok x) ∧ ∀ j p, l[j]? = some p → ∃ c, c.length = d.sz ∧ d.K w p c ∧ ∀ i u, c[i]? = some u → w.cell? (a.add (j * d.sz + i)) = some u := by
      intro k
      induction k with
      | zero => intro _; exact ⟨[], rfl, by simp, by simp⟩
      | succ k ih =>
        intro hk
        obtain ⟨l, hll, hlo, hlc⟩ := ih (by omega)
        obtain ⟨cs', hcs, ht'⟩ := hi k (by omega)
        rw [he.1] at hcs
        obtain ⟨p, hp, hop⟩ := he.2 enc w base held n cs' _ ht'
        obtain ⟨_, hcl, hat⟩ := World.cells?_some hcs
        refine ⟨l ++ [p], by simp [hll], ?_, ?_⟩
        · intro x hx
          rcases List.mem_append.1 hx with hx | hx
          · exact hlo x hx
          · rw [List.mem_singleton.1 hx]; exact hop
        · intro j q hq
          by_cases hj : j < l.length
          · rw [List.getElem?_append_left hj] at hq
            exact hlc j q hq
          · have hj2 : j = l.length := by
              have := (List.getElem?_eq_some_iff.1 hq).1
              simp at this; omega
            subst hj2
            rw [List.getElem?_append_right (Nat.le_refl _)] at hq
            simp at hq
            subst hq
            refine ⟨cs', hcl, hp, fun i u hu => ?_⟩
            have hil : i < d.sz := by rw [← hcl]; exact (List.getElem?_eq_some_iff.1 hu).1
            rw [hll, ← Go.Deep.add_add, hat i hil, hu]
    obtain ⟨l, hll, hlo, hlc⟩ := key len (Nat.le_refl _)
    subst hll
    exact ⟨l, ⟨some a, cap, rfl, hl, rfl, by unfold maxLen at hm; omega, fun _ => ⟨a, rfl, hlc⟩⟩, hlo, by omega⟩
theorem opn_iso {α β : Type} {P : Program} {t : TypeId} {d : Kd α} {ok : α → Prop} (h : Opn P t d ok) (f : β → α) (g : α → β) (hfg : ∀ x, f (g x) = x) : Opn P t (Kd.iso d f) (fun y => ok (f y)) :=
  ⟨h.1, fun enc w base held fuel cs x hx => by
    obtain ⟨p, hp, ho⟩ := h.2 enc w base held fuel cs x hx
    exact ⟨g p, by show d.K w (f (g p)) cs; rw [hfg]; exact hp, by show ok (f (g p)); rw [hfg]; exact ho⟩⟩
theorem opn_struct2 {α β : Type} {P : Program} {t : TypeId} {f0 f1 : Field} {a : Kd α} {b : Kd β} {oka : α → Prop} {okb : β → Prop} (ht : P.underlying t = some (.struct #[f0, f1])) (h0 : Opn P f0.type a oka) (h1 : Opn P f1.type b okb)
    (o0 : f0.offset = 0) (o1 : f1.offset = a.sz) (hc : P.cellsOf t = a.sz + b.sz) : Opn P t (Kd.pair a b) (fun p => oka p.1 ∧ okb p.2) := by
  refine ⟨hc, fun enc w base held fuel cs x h => ?_⟩
  obtain ⟨xs, n, _, _, hl, hxl, hg⟩ := DataW.trod_struct ht h
  have g0 := hg 0 f0 rfl
  have g1 := hg 1 f1 rfl
  rw [o0, h0.1, List.drop_zero] at g0
  rw [o1, h1.1] at g1
  rw [List.getElem?_eq_getElem (by rw [hxl]; simp)] at g0 g1
  obtain ⟨p, hp, hop⟩ := h0.2 enc w base held n _ _ g0
  obtain ⟨q, hq, hoq⟩ := h1.2 enc w base held n _ _ g1
  refine ⟨(p, q), ⟨cs.take a.sz, (cs.drop a.sz).take b.sz, ?_, hp, hq⟩, hop, hoq⟩
  rw [List.take_of_length_le (l := cs.drop a.sz) (by rw [List.length_drop, hl, hc]; omega), List.take_append_drop]
theorem opn_struct3 {α β γ : Type} {P : Program} {t : TypeId} {f0 f1 f2 : Field} {a : Kd α} {b : Kd β} {c : Kd γ} {oka : α → Prop} {okb : β → Prop} {okc : γ → Prop} (ht : P.underlying t = some (.struct #[f0, f1, f2])) (h0 : Opn P f0.type a oka) (h1 : Opn P f1.type b okb) (h2 : Opn P f2.type c okc)
    (o0 : f0.offset = 0) (o1 : f1.offset = a.sz) (o2 : f2.offset = a.sz + b.sz) (hc : P.cellsOf t = a.sz + (b.sz + c.sz)) : Opn P t (Kd.pair a (Kd.pair b c)) (fun p => oka p.1 ∧ okb p.2.1 ∧ okc p.2.2) := by
  refine ⟨hc, fun enc w base held fuel cs x h => ?_⟩
  obtain ⟨xs, n, _, _, hl, hxl, hg⟩ := DataW.trod_struct ht h
  have g0 := hg 0 f0 rfl
  have g1 := hg 1 f1 rfl
  have g2 := hg 2 f2 rfl
  rw [o0, h0.1, List.drop_zero] at g0
  rw [o1, h1.1] at g1
  rw [o2, h2.1] at g2
  rw [List.getElem?_eq_getElem (by rw [hxl]; simp)] at g0 g1 g2
  obtain ⟨p, hp, hop⟩ := h0.2 enc w base held n _ _ g0
  obtain ⟨q, hq, hoq⟩ := h1.2 enc w base held n _ _ g1
  obtain ⟨r, hr, hor⟩ := h2.2 enc w base held n _ _ g2
  refine ⟨(p, q, r), ⟨cs.take a.sz, cs.drop a.sz, by rw [List.take_append_drop], hp, (cs.drop a.sz).take b.sz, (cs.drop (a.sz + b.sz)).take c.sz, ?_, hq, hr⟩, hop, hoq, hor⟩
  rw [List.take_of_length_le (l := cs.drop (a.sz + b.sz)) (by rw [List.length_drop, hl, hc]; omega), ← List.drop_drop, List.take_append_drop]
theorem opn_struct4 {α β γ δ : Type} {P : Program} {t : TypeId} {f0 f1 f2 f3 : Field} {a : Kd α} {b : Kd β} {c : Kd γ} {d : Kd δ} {oka : α → Prop} {okb : β → Prop} {okc : γ → Prop} {okd : δ → Prop} (ht : P.underlying t = some (.struct #[f0, f1, f2, f3])) (h0 : Opn P f0.type a oka) (h1 : Opn P f1.type b okb) (h2 : Opn P f2.type c okc) (h3 : Opn P f3.type d okd)
    (o0 : f0.offset = 0) (o1 : f1.offset = a.sz) (o2 : f2.offset = a.sz + b.sz) (o3 : f3.offset = a.sz + b.sz + c.sz) (hc : P.cellsOf t = a.sz + (b.sz + (c.sz + d.sz))) : Opn P t (Kd.pair a (Kd.pair b (Kd.pair c d))) (fun p => oka p.1 ∧ okb p.2.1 ∧ okc p.2.2.1 ∧ okd p.2.2.2) := by
  refine ⟨hc, fun enc w base held fuel cs x h => ?_⟩
  obtain ⟨xs, n, _, _, hl, hxl, hg⟩ := DataW.trod_struct ht h
  have g0 := hg 0 f0 rfl
  have g1 := hg 1 f1 rfl
  have g2 := hg 2 f2 rfl
  have g3 := hg 3 f3 rfl
  rw [o0, h0.1, List.drop_zero] at g0
  rw [o1, h1.1] at g1
  rw [o2, h2.1] at g2
  rw [o3, h3.1] at g3
  rw [List.getElem?_eq_getElem (by rw [hxl]; simp)] at g0 g1 g2 g3
  obtain ⟨p, hp, hop⟩ := h0.2 enc w base held n _ _ g0
  obtain ⟨q, hq, hoq⟩ := h1.2 enc w base held n _ _ g1
  obtain ⟨r, hr, hor⟩ := h2.2 enc w base held n _ _ g2
  obtain ⟨s, hs, hos⟩ := h3.2 enc w base held n _ _ g3
  refine ⟨(p, q, r, s), ⟨cs.take a.sz, cs.drop a.sz, by rw [List.take_append_drop], hp, (cs.drop a.sz).take b.sz, cs.drop (a.sz + b.sz), by rw [← List.drop_drop, List.take_append_drop], hq, (cs.drop (a.sz + b.sz)).take c.sz, (cs.drop (a.sz + b.sz + c.sz)).take d.sz, ?_, hr, hs⟩, hop, hoq, hor, hos⟩
  rw [List.take_of_length_le (l := cs.drop (a.sz + b.sz + c.sz)) (by rw [List.length_drop, hl, hc]; omega)]
  exact (List.take_append_drop c.sz (cs.drop (a.sz + b.sz))).symm.trans (by rw [List.drop_drop])
/-- A slice argument. -/
theorem opn_arg {α : Type} {P : Program} {t e : TypeId} {d : Kd α} {ok : List α → Prop} (h : Opn P t (Kd.slice e d) ok) {H : Type} {enc : TypeId × Value → H} {w : World} {base : Nat} {held : Bool} {a : Option Addr} {len cap : Nat} {x : DataW H} {p : List MemPlace} (hr : DataW.Trod enc P w base (fun _ => true) held t (.slice a len cap) x p) :
    ∃ l : List α, len = l.length ∧ l.length ≤ cap ∧ d.C w a l.length l ∧ ok l := by
  obtain ⟨fuel, hf⟩ := hr
  obtain ⟨l, ⟨A, c, he, hc, hC⟩, ho⟩ := h.2 enc w base held fuel _ _ hf
  simp [Value.cells] at he
  obtain ⟨rfl, rfl, rfl⟩ := he
  exact ⟨l, rfl, hc, hC, ho⟩

theorem opn_aggTone {P : Program} {t : TypeId} {ok : Int × Bool → Prop} (h : Opn P t (Kd.pair (Kd.int .i64) Kd.bool) ok) {H : Type} {enc : TypeId × Value → H} {w : World} {base : Nat} {held : Bool} {cs : Array Value} {x : DataW H} {p : List MemPlace} (hr : DataW.Trod enc P w base (fun _ => true) held t (.agg cs) x p) :
    ∃ y : Int × Bool, cs = #[.int .i64 y.1, .bool y.2] ∧ ok y := by
  obtain ⟨fuel, hf⟩ := hr
  obtain ⟨y, ⟨l, r, e, h1, h2⟩, ho⟩ := h.2 enc w base held fuel _ _ hf
  have h1 : l = [.int .i64 y.1] := h1
  have h2 : r = [.bool y.2] := h2
  subst h1 h2
  exact ⟨y, Array.ext' e, ho⟩

set_option maxHeartbeats 8000000 in
set_option maxRecDepth 100000 in
theorem FnExactFormulasMelody_walk (l : List S98) (r : List Int) (ta : Int) (tb : Bool) (Al : Option Addr) (cl : Nat) (Ar : Option Addr) (cr : Nat) (w : World) (hrl : Kd.C k98 w Al l.length l) (hcl : l.length ≤ cl) (hwl : ∀ x ∈ l, ((∀ y ∈ x.f0, (Lit.int .i64 y).wf = true) ∧ x.f0.length ≤ maxLen) ∧ (Lit.int .i64 x.f1).wf = true) (hml : l.length ≤ maxLen) (hrr : Kd.C (Kd.int .i64) w Ar r.length r) (hcr : r.length ≤ cr) (hwr : ∀ x ∈ r, (Lit.int .i64 x).wf = true) (hmr : r.length ≤ maxLen) :
    Calls Try.prog 8 #[.slice Al l.length cl, .slice Ar r.length cr, .agg #[.int .i64 ta, .bool tb]] w fun e w' => e = .returned (.bool true) ∧ Below w.heap.size w w' := by
  have HRl := Aside0.mk hrl
  have HCl := Aside0.mk hcl
  unfold maxLen at hml
  clear hrl hcl
  have HWl := Aside0.mk hwl
  clear hwl
  have HRr := Aside0.mk hrr
  have HCr := Aside0.mk hcr
  unfold maxLen at hmr
  clear hrr hcr
  have HWr := Aside0.mk hwr
  clear hwr
  by_cases gr : (r.length : Int) > 1048576
  · have d0 : decide (1048576 < (r.length : Int)) = true := decide_eq_true gr
    have d0' : decide (1048576 < r.length) = true := decide_eq_true (by omega)
    clear gr
    go_enter Try.func8, Try.ntmps8
    go_upto_region 1 with (first
      | ((with_reducible refine gate_dst (N := 5) rfl ?_); refine box_event ?hg (N := 5) ?hd (cs := #[.int .i64 ta, .bool tb]) (t := 62) ?hr ?_; (case hd => rfl); (case hg => rfl); (case hr => first | (go_simp; done) | (go_simp; rfl)); intro gb hg wb hbox hbb; have HBX := Aside0.mk hbox; have HB := Aside0.mk hbb; clear hg hbox hbb)
      | fail)
    (try simp only [Act.put, List.setIfInBounds_toArray, List.set_cons_zero, List.set_cons_succ])
    go_wp2
    go_ret
    exact ⟨rfl, HB.out⟩
  have dr : decide (1048576 < (r.length : Int)) = false := decide_eq_false gr
  have dr' : decide (1048576 < r.length) = false := decide_eq_false (by omega)
  have ylr : r.length ≤ 1048576 := by omega
  clear gr
  by_cases z0 : (1048576 : Int) - FormulaSz (l.map convFormula) < 0
  · go_enter Try.func8, Try.ntmps8
    go_upto_region 1 with (first
      | ((with_reducible refine gate_dst (N := 5) rfl ?_); refine box_event ?hg (N := 5) ?hd (cs := #[.int .i64 ta, .bool tb]) (t := 62) ?hr ?_; (case hd => rfl); (case hg => rfl); (case hr => first | (go_simp; done) | (go_simp; rfl)); intro gb hg wb hbox hbb; have HBX := Aside0.mk hbox; have HB := Aside0.mk hbb; clear hg hbox hbb)
      | fail)
    (try simp only [Act.put, List.setIfInBounds_toArray, List.set_cons_zero, List.set_cons_succ])
    go_wp2_with fail
    refine (FormulaS_sz l _ _ _ _ (by omega) (by omega) (by omega) (fun x hx => by have := (HWl.out x hx).1.2; unfold maxLen at this; omega) (Kd.C_below HRl.out HB.out) HCl.out).mono ?_
    rintro _ ws0 ⟨e0', rfl, he0', hb⟩
    have hb0 := below_step HB.out hb
    have u0 : decide (e0' < 0) = true := by rw [he0', if_pos z0]; rfl
    clear he0' z0
    go_wp2
    go_ret
    exact ⟨rfl, hb0⟩
  obtain ⟨e0, he0⟩ : ∃ e : Int, e = (1048576 : Int) - FormulaSz (l.map convFormula) := ⟨_, rfl⟩
  have n0 := FormulaSz_len (l.map convFormula)
  rw [List.length_map] at n0
  have t0 : decide (e0 < 0) = false := decide_eq_false (by omega)
  have y0 : l.length ≤ 1048576 := by omega
  have y0' : 0 ≤ e0 ∧ e0 ≤ 1048576 := by omega
  have q0 : FormulaSz (l.map convFormula) ≤ 1048576 := by omega
  clear n0
  replace he0 := Aside0.mk he0
  obtain ⟨xl, hxl⟩ : ∃ x, x = l.map convFormula := ⟨_, rfl⟩
  have lxl : xl.length ≤ 1048576 := by rw [hxl, List.length_map]; omega
  have lzl : FormulaSz xl ≤ 1048576 := by rw [hxl]; omega
  have lyl : 0 ≤ FormulaSz xl := FormulaSz_nn xl
  have Xl := Aside0.mk hxl
  clear hxl
  obtain ⟨xr, hxr⟩ : ∃ x, x = r.map convInt := ⟨_, rfl⟩
  have lxr : xr.length ≤ 1048576 := by rw [hxr, List.length_map]; omega
  have Xr := Aside0.mk hxr
  clear hxr
  skip
  obtain ⟨r0, r1, hres⟩ : ∃ r0 r1, fmel xl xr ta tb = (r0, r1) := ⟨_, _, rfl⟩
  have lr : r0.length ≤ 2000000 := by have := fmel_len xl xr ta tb; rw [hres] at this; simp only [] at this; omega
  have RES := Aside0.mk hres
  clear hres
  go_enter Try.func8, Try.ntmps8
  go_upto_region 1 with (first
    | ((with_reducible refine gate_dst (N := 5) rfl ?_); refine box_event ?hg (N := 5) ?hd (cs := #[.int .i64 ta, .bool tb]) (t := 62) ?hr ?_; (case hd => rfl); (case hg => rfl); (case hr => first | (go_simp; done) | (go_simp; rfl)); intro gb hg wb hbox hbb; have HBX := Aside0.mk hbox; have HB := Aside0.mk hbb; clear hg hbox hbb)
    | fail)
  (try simp only [Act.put, List.setIfInBounds_toArray, List.set_cons_zero, List.set_cons_succ])
  go_wp2_with fail
  refine (FormulaS_sz l _ _ _ _ (by omega) (by omega) (by omega) (fun x hx => by have := (HWl.out x hx).1.2; unfold maxLen at this; omega) (Kd.C_below HRl.out HB.out) HCl.out).mono ?_
  rintro _ w1 ⟨e', rfl, he', hb⟩
  obtain rfl : e' = e0 := by have := he0.out; rw [he', if_neg (by omega), this]
  clear he'
  replace HBX := Aside0.mk (blk_below HBX.out hb)
  replace HB := Aside0.mk (below_step HB.out hb)
  have GL := Aside0.mk (blk_lt HBX.out)
  have S1 := Aside0.mk hb.size
  go_wp2
  have z0 : w1.cell? ⟨gb, 0, none⟩ = some (.int .i64 ta) := (blk_cell HBX.out 0).trans rfl
  have z1 : w1.cell? ⟨gb, 1, none⟩ = some (.bool tb) := (blk_cell HBX.out 1).trans rfl
  have zd0 : w1.drew.cell? ⟨gb, 0, none⟩ = some (.int .i64 ta) := z0
  have zd1 : w1.drew.cell? ⟨gb, 1, none⟩ = some (.bool tb) := z1
  replace HB := Aside0.mk (below_drew1 HB.out)
  go_region_held3 (fun w' => w'.cell? ⟨gb, 0, none⟩ = some (.int .i64 ta) ∧ w'.cell? ⟨gb, 1, none⟩ = some (.bool tb))
    (first
      | exact ⟨zd0, zd1⟩
      | go_keep
      | exact ⟨pw_cell_below (below_step (below_step (below_step hb2 hb3) hb3t) hb4) zd0, pw_cell_below (below_step (below_step (below_step hb2 hb3) hb3t) hb4) zd1⟩
      | exact ⟨pw_cell_below (below_step (below_step hb2 hb3) hb3t) zd0, pw_cell_below (below_step (below_step hb2 hb3) hb3t) zd1⟩
      | exact ⟨pw_cell_below (below_step hb2 hb3) zd0, pw_cell_below (below_step hb2 hb3) zd1⟩
      | exact ⟨pw_cell_below hb2 zd0, pw_cell_below hb2 zd1⟩
      | fail)
    (first
      | (go_at_call 21; refine (FormulaS_to l _ _ w1.drew (by omega) (Kd.C_below HRl.out HB.out) HCl.out).mono ?_; rintro _ w2 ⟨vl_, rfl, ho2, hb2⟩; rw [← Xl.out] at ho2; obtain ⟨Asl, csl, rfl, _, _⟩ := Kd.S_reads ho2)
      | (go_at_call 34; refine (IntS_to r _ _ w2 (by omega) (Kd.C_below HRr.out (below_step HB.out hb2)) HCr.out).mono ?_; rintro _ w3 ⟨vr_, rfl, ho3, hb3⟩; rw [← Xr.out] at ho3; obtain ⟨Asr, csr, rfl, _, _⟩ := Kd.R_reads ho3)
      | (go_at_call 41; refine (laws_toTone.calls ta tb ta tb w3 rfl).mono ?_; rintro _ w3t ⟨rfl, hb3t⟩)
      | (go_at_call 40; refine (spec_FormulasMelody_x xl xr ta tb Asl csl Asr csr w3t (Kd.S_reads' (Kd.S_below (Kd.S_below ho2 hb3) hb3t)).2.2 (Kd.S_reads' ho2).2.1 (Kd.R_reads' (Kd.R_below ho3 hb3t)).2.2 (Kd.R_reads' ho3).2.1 (by omega) (by omega)).mono ?_; rintro _ w4 ⟨v, rfl, ho, hb4⟩; rw [RES.out] at ho ⊢; obtain ⟨AW, cW, rfl, _, _⟩ := Kd.R_reads ho)
      | fail)
  have hb : Below w1.heap.size w1.drew w4 := (below_step (below_step (below_step hb2 hb3) hb3t) hb4)
  have hbq : Below w1.heap.size w1 w4 := below_step (below_drew1 (Below.refl _ _)) hb
  have OW := Aside0.mk (Own.make ho (below_step (below_step (below_step HB.out hb2) hb3) hb3t).size)
  replace HBX := Aside0.mk (blk_below (show w1.drew.heap[gb]? = _ from HBX.out) hb)
  replace HB := Aside0.mk (below_step HB.out hb)
  have S4a := Aside0.mk (show w1.heap.size ≤ w3t.heap.size from (below_step (below_step hb2 hb3) hb3t).size)
  have S4 := Aside0.mk hb4.size
  clear ho ho2 ho3 hb2 hb3 hb3t hb4 hb hbq z0 z1 zd0 zd1
  go_wp2_with fail
  refine (FormulaS_to l _ _ _ (by omega) (Kd.C_below HRl.out HB.out) HCl.out).mono ?_
  rintro _ w5 ⟨vpl, rfl, ho, hb⟩
  rw [← Xl.out] at ho
  obtain ⟨Apl, cpl, rfl, _, _⟩ := Kd.S_reads ho
  replace OW := Aside0.mk (OW.out.below hb)
  have Opl := Aside0.mk (OwnS.make ho HB.out.size)
  clear ho
  replace HBX := Aside0.mk (blk_below HBX.out hb)
  replace HB := Aside0.mk (below_step HB.out hb)
  have S5 := Aside0.mk hb.size
  go_wp2_with fail
  refine (IntS_to r _ _ _ (by omega) (Kd.C_below HRr.out HB.out) HCr.out).mono ?_
  rintro _ w6 ⟨vpr, rfl, ho, hb⟩
  rw [← Xr.out] at ho
  obtain ⟨Apr, cpr, rfl, _, _⟩ := Kd.R_reads ho
  replace OW := Aside0.mk (OW.out.below hb)
  replace Opl := Aside0.mk (Opl.out.below hb)
  have Opr := Aside0.mk (Own.make ho HB.out.size)
  clear ho
  replace HBX := Aside0.mk (blk_below HBX.out hb)
  replace HB := Aside0.mk (below_step HB.out hb)
  have S6 := Aside0.mk hb.size
  have z0 : w6.cell? ⟨gb, 0, none⟩ = some (.int .i64 ta) := (blk_cell HBX.out 0).trans rfl
  have z1 : w6.cell? ⟨gb, 1, none⟩ = some (.bool tb) := (blk_cell HBX.out 1).trans rfl
  go_wp2_with fail
  refine (laws_toTone.calls ta tb ta tb w6 rfl).mono ?_
  rintro _ w6t ⟨rfl, hb6t⟩
  go_wp2_with fail
  refine (impl_FormulasMelody_x xl xr ta tb Apl cpl Apr cpr w6t (Opl.out.below hb6t).C Opl.out.cap (Opr.out.below hb6t).C Opr.out.cap (by omega) (by omega)).mono ?_
  rintro _ w7 ⟨v, rfl, ho, hb7⟩
  simp only [RES.out] at ho ⊢
  obtain ⟨AG, cG, rfl, _, _⟩ := Kd.R_reads ho
  have hb : Below w6.heap.size w6 w7 := below_step hb6t hb7
  replace OW := Aside0.mk (OW.out.below hb)
  replace Opl := Aside0.mk (Opl.out.below hb)
  replace Opr := Aside0.mk (Opr.out.below hb)
  have OG := Aside0.mk (Own.make ho (below_step HB.out hb6t).size)
  replace HBX := Aside0.mk (blk_below HBX.out hb)
  replace HB := Aside0.mk (below_step HB.out hb)
  have S7a := Aside0.mk hb6t.size
  have S7 := Aside0.mk hb7.size
  clear ho hb6t hb7 hb z0 z1
  go_wp2_with fail
  refine (ToneS_eq r0 _ _ _ _ _ (by omega) OG.out.C OG.out.cap OW.out.C OW.out.cap).mono ?_
  rintro _ w8 ⟨rfl, hb⟩
  replace OW := Aside0.mk (OW.out.below hb)
  replace Opl := Aside0.mk (Opl.out.below hb)
  replace Opr := Aside0.mk (Opr.out.below hb)
  replace OG := Aside0.mk (OG.out.below hb)
  replace HBX := Aside0.mk (blk_below HBX.out hb)
  replace HB := Aside0.mk (below_step HB.out hb)
  have S8 := Aside0.mk hb.size
  go_wp2_with fail
  refine (FormulaS_to l _ _ _ (by omega) (Kd.C_below HRl.out HB.out) HCl.out).mono ?_
  rintro _ w9 ⟨vtl, rfl, ho, hb⟩
  rw [← Xl.out] at ho
  obtain ⟨Atl, ctl, rfl, _, _⟩ := Kd.S_reads ho
  replace OW := Aside0.mk (OW.out.below hb)
  replace Opl := Aside0.mk (Opl.out.below hb)
  replace Opr := Aside0.mk (Opr.out.below hb)
  replace OG := Aside0.mk (OG.out.below hb)
  have Otl := Aside0.mk (OwnS.make ho HB.out.size)
  clear ho
  replace HBX := Aside0.mk (blk_below HBX.out hb)
  replace HB := Aside0.mk (below_step HB.out hb)
  have S9 := Aside0.mk hb.size
  go_wp2_with fail
  refine (FormulaS_eq xl _ _ _ _ _ (by omega) Opl.out.C Opl.out.cap Otl.out.C Otl.out.cap).mono ?_
  rintro _ w10 ⟨rfl, hb⟩
  replace OW := Aside0.mk (OW.out.below hb)
  replace Opl := Aside0.mk (Opl.out.below hb)
  replace Opr := Aside0.mk (Opr.out.below hb)
  replace OG := Aside0.mk (OG.out.below hb)
  replace Otl := Aside0.mk (Otl.out.below hb)
  replace HBX := Aside0.mk (blk_below HBX.out hb)
  replace HB := Aside0.mk (below_step HB.out hb)
  have S10 := Aside0.mk hb.size
  clear Otl
  go_wp2_with fail
  refine (IntS_to r _ _ _ (by omega) (Kd.C_below HRr.out HB.out) HCr.out).mono ?_
  rintro _ w11 ⟨vtr, rfl, ho, hb⟩
  rw [← Xr.out] at ho
  obtain ⟨Atr, ctr, rfl, _, _⟩ := Kd.R_reads ho
  replace OW := Aside0.mk (OW.out.below hb)
  replace Opl := Aside0.mk (Opl.out.below hb)
  replace Opr := Aside0.mk (Opr.out.below hb)
  replace OG := Aside0.mk (OG.out.below hb)
  have Otr := Aside0.mk (Own.make ho HB.out.size)
  clear ho
  replace HBX := Aside0.mk (blk_below HBX.out hb)
  replace HB := Aside0.mk (below_step HB.out hb)
  have S11 := Aside0.mk hb.size
  go_wp2_with fail
  refine (IntS_eq xr _ _ _ _ _ (by omega) Opr.out.C Opr.out.cap Otr.out.C Otr.out.cap).mono ?_
  rintro _ w12 ⟨rfl, hb⟩
  replace OW := Aside0.mk (OW.out.below hb)
  replace Opl := Aside0.mk (Opl.out.below hb)
  replace Opr := Aside0.mk (Opr.out.below hb)
  replace OG := Aside0.mk (OG.out.below hb)
  replace Otr := Aside0.mk (Otr.out.below hb)
  replace HBX := Aside0.mk (blk_below HBX.out hb)
  replace HB := Aside0.mk (below_step HB.out hb)
  have S12 := Aside0.mk hb.size
  clear Otr
  go_wp2_with fail
  refine (FormulaS_mark xl _ _ _ _ w _ (by omega) (by omega) (by omega) HB.out Opl.out).mono ?_
  rintro _ w13 ⟨k0, rfl, hk0, ho, hb, hkept⟩
  clear Opl
  replace OW := Aside0.mk (OW.out.kept hkept (by intro k h1 h2 h3; have := S1.out; have := S4a.out; have := S4.out; have := S5.out; have := S6.out; have := S7a.out; have := S7.out; have := S8.out; have := S9.out; have := S10.out; have := S11.out; have := S12.out; omega))
  replace Opr := Aside0.mk (Opr.out.kept hkept (by intro k h1 h2 h3; have := S1.out; have := S4a.out; have := S4.out; have := S5.out; have := S6.out; have := S7a.out; have := S7.out; have := S8.out; have := S9.out; have := S10.out; have := S11.out; have := S12.out; omega))
  replace OG := Aside0.mk (OG.out.kept hkept (by intro k h1 h2 h3; have := S1.out; have := S4a.out; have := S4.out; have := S5.out; have := S6.out; have := S7a.out; have := S7.out; have := S8.out; have := S9.out; have := S10.out; have := S11.out; have := S12.out; omega))
  replace HBX := Aside0.mk (blk_kept HBX.out hkept (by rintro ⟨h1, h2⟩; have := GL.out; have := S1.out; have := S4a.out; have := S4.out; have := S5.out; have := S6.out; have := S7a.out; have := S7.out; have := S8.out; have := S9.out; have := S10.out; have := S11.out; have := S12.out; omega))
  replace HB := Aside0.mk hb
  have S13 := Aside0.mk hkept.1
  have b0 : 0 ≤ k0 ∧ k0 ≤ 2097153 := by omega
  clear hk0 ho hkept
  go_wp2_with fail
  refine (IntS_mark xr _ _ _ _ w _ (by omega) (by omega) (by omega) HB.out Opr.out).mono ?_
  rintro _ w14 ⟨k1, rfl, hk1, ho, hb, hkept⟩
  clear Opr
  replace OW := Aside0.mk (OW.out.kept hkept (by intro k h1 h2 h3; have := S1.out; have := S4a.out; have := S4.out; have := S5.out; have := S6.out; have := S7a.out; have := S7.out; have := S8.out; have := S9.out; have := S10.out; have := S11.out; have := S12.out; have := S13.out; omega))
  replace OG := Aside0.mk (OG.out.kept hkept (by intro k h1 h2 h3; have := S1.out; have := S4a.out; have := S4.out; have := S5.out; have := S6.out; have := S7a.out; have := S7.out; have := S8.out; have := S9.out; have := S10.out; have := S11.out; have := S12.out; have := S13.out; omega))
  replace HBX := Aside0.mk (blk_kept HBX.out hkept (by rintro ⟨h1, h2⟩; have := GL.out; have := S1.out; have := S4a.out; have := S4.out; have := S5.out; have := S6.out; have := S7a.out; have := S7.out; have := S8.out; have := S9.out; have := S10.out; have := S11.out; have := S12.out; have := S13.out; omega))
  replace HB := Aside0.mk hb
  have S14 := Aside0.mk hkept.1
  have b1 : 0 ≤ k1 ∧ k1 ≤ 4194305 := by omega
  clear hk1 ho hkept
  have u : decide (k1 < 0) = false := decide_eq_false (by omega)
  go_wp2_with fail
  refine (ToneS_eq r0 _ _ _ _ _ (by omega) OG.out.C OG.out.cap OW.out.C OW.out.cap).mono ?_
  rintro _ w15 ⟨rfl, hb⟩
  replace OW := Aside0.mk (OW.out.below hb)
  replace OG := Aside0.mk (OG.out.below hb)
  replace HBX := Aside0.mk (blk_below HBX.out hb)
  replace HB := Aside0.mk (below_step HB.out hb)
  have S15 := Aside0.mk hb.size
  go_wp2_with fail
  refine (ToneS_mark r0 _ _ _ _ w _ (by omega) (by omega) (by omega) HB.out OG.out).mono ?_
  rintro _ w16 ⟨mk_, rfl, hm_, ho, hb, hkept⟩
  replace OW := Aside0.mk (OW.out.kept hkept (by intro k h1 h2 h3; have := S1.out; have := S4a.out; have := S4.out; have := S5.out; have := S6.out; have := S7a.out; have := S7.out; have := S8.out; have := S9.out; have := S10.out; have := S11.out; have := S12.out; have := S13.out; have := S14.out; have := S15.out; omega))
  replace OG := Aside0.mk ho
  replace HBX := Aside0.mk (blk_kept HBX.out hkept (by rintro ⟨h1, h2⟩; have := GL.out; have := S1.out; have := S4a.out; have := S4.out; have := S5.out; have := S6.out; have := S7a.out; have := S7.out; have := S8.out; have := S9.out; have := S10.out; have := S11.out; have := S12.out; have := S13.out; have := S14.out; have := S15.out; omega))
  replace HB := Aside0.mk hb
  have S16 := Aside0.mk hkept.1
  clear ho hkept
  have um : decide (mk_ < 0) = false := decide_eq_false (by omega)
  have HM_ := Aside0.mk hm_
  clear hm_
  go_wp2_with fail
  refine (ToneS_held r0.length 1 _ _ _ (by omega) (by omega) (by omega) (by have h := (Kd.R_reads' OG.out).2.2; rw [markTone_len] at h; exact h) OG.out.cap).mono ?_
  rintro _ w17 ⟨q, rfl, hq, hb⟩
  obtain rfl : mk_ = q := by rw [hq, HM_.out]
  clear hq
  replace OW := Aside0.mk (OW.out.below hb)
  replace OG := Aside0.mk (OG.out.below hb)
  replace HBX := Aside0.mk (blk_below HBX.out hb)
  replace HB := Aside0.mk (below_step HB.out hb)
  have S17 := Aside0.mk hb.size
  go_wp2
  have z0 : w17.cell? ⟨gb, 0, none⟩ = some (.int .i64 ta) := (blk_cell HBX.out 0).trans rfl
  have z1 : w17.cell? ⟨gb, 1, none⟩ = some (.bool tb) := (blk_cell HBX.out 1).trans rfl
  have zd0 : w17.drew.cell? ⟨gb, 0, none⟩ = some (.int .i64 ta) := z0
  have zd1 : w17.drew.cell? ⟨gb, 1, none⟩ = some (.bool tb) := z1
  replace HB := Aside0.mk (below_drew1 HB.out)
  go_region_held3 (fun w' => w'.cell? ⟨gb, 0, none⟩ = some (.int .i64 ta) ∧ w'.cell? ⟨gb, 1, none⟩ = some (.bool tb))
    (first
      | exact ⟨zd0, zd1⟩
      | go_keep
      | exact ⟨pw_cell_below (below_step (below_step (below_step hb18 hb19) hb19t) hb20) zd0, pw_cell_below (below_step (below_step (below_step hb18 hb19) hb19t) hb20) zd1⟩
      | exact ⟨pw_cell_below (below_step (below_step hb18 hb19) hb19t) zd0, pw_cell_below (below_step (below_step hb18 hb19) hb19t) zd1⟩
      | exact ⟨pw_cell_below (below_step hb18 hb19) zd0, pw_cell_below (below_step hb18 hb19) zd1⟩
      | exact ⟨pw_cell_below hb18 zd0, pw_cell_below hb18 zd1⟩
      | fail)
    (first
      | (go_at_call 21; refine (FormulaS_to l _ _ w17.drew (by omega) (Kd.C_below HRl.out HB.out) HCl.out).mono ?_; rintro _ w18 ⟨vl_, rfl, ho18, hb18⟩; rw [← Xl.out] at ho18; obtain ⟨Ahl, chl, rfl, _, _⟩ := Kd.S_reads ho18)
      | (go_at_call 34; refine (IntS_to r _ _ w18 (by omega) (Kd.C_below HRr.out (below_step HB.out hb18)) HCr.out).mono ?_; rintro _ w19 ⟨vr_, rfl, ho19, hb19⟩; rw [← Xr.out] at ho19; obtain ⟨Ahr, chr, rfl, _, _⟩ := Kd.R_reads ho19)
      | (go_at_call 41; refine (laws_toTone.calls ta tb ta tb w19 rfl).mono ?_; rintro _ w19t ⟨rfl, hb19t⟩)
      | (go_at_call 42; refine (impl_FormulasMelody_x xl xr ta tb Ahl chl Ahr chr w19t (Kd.S_reads' (Kd.S_below (Kd.S_below ho18 hb19) hb19t)).2.2 (Kd.S_reads' ho18).2.1 (Kd.R_reads' (Kd.R_below ho19 hb19t)).2.2 (Kd.R_reads' ho19).2.1 (by omega) (by omega)).mono ?_; rintro _ w20 ⟨v, rfl, ho, hb20⟩; rw [RES.out] at ho ⊢; obtain ⟨AH, cH, rfl, _, _⟩ := Kd.R_reads ho)
      | fail)
  have hb : Below w17.heap.size w17.drew w20 := (below_step (below_step (below_step hb18 hb19) hb19t) hb20)
  have hbq : Below w17.heap.size w17 w20 := below_step (below_drew1 (Below.refl _ _)) hb
  replace OW := Aside0.mk (OW.out.below hbq)
  replace OG := Aside0.mk (OG.out.below hbq)
  have OH := Aside0.mk (Own.make ho (below_step (below_step (below_step HB.out hb18) hb19) hb19t).size)
  replace HBX := Aside0.mk (blk_below (show w17.drew.heap[gb]? = _ from HBX.out) hb)
  replace HB := Aside0.mk (below_step HB.out hb)
  have S20a := Aside0.mk (show w17.heap.size ≤ w19t.heap.size from (below_step (below_step hb18 hb19) hb19t).size)
  have S20 := Aside0.mk hb20.size
  clear ho ho18 ho19 hb18 hb19 hb19t hb20 hb hbq z0 z1 zd0 zd1
  go_wp2_with fail
  refine (ToneS_eq r0 _ _ _ _ _ (by omega) OH.out.C OH.out.cap OW.out.C OW.out.cap).mono ?_
  rintro _ w21 ⟨rfl, hb⟩
  replace OW := Aside0.mk (OW.out.below hb)
  replace OG := Aside0.mk (OG.out.below hb)
  replace OH := Aside0.mk (OH.out.below hb)
  replace HBX := Aside0.mk (blk_below HBX.out hb)
  replace HB := Aside0.mk (below_step HB.out hb)
  have S21 := Aside0.mk hb.size
  go_wp2_with fail
  refine (ToneS_held r0.length 1 _ _ _ (by omega) (by omega) (by omega) (by have h := (Kd.R_reads' OG.out).2.2; rw [markTone_len] at h; exact h) OG.out.cap).mono ?_
  rintro _ w22 ⟨q, rfl, hq, hb⟩
  obtain rfl : mk_ = q := by rw [hq, HM_.out]
  clear hq
  replace OW := Aside0.mk (OW.out.below hb)
  replace OG := Aside0.mk (OG.out.below hb)
  replace OH := Aside0.mk (OH.out.below hb)
  replace HBX := Aside0.mk (blk_below HBX.out hb)
  replace HB := Aside0.mk (below_step HB.out hb)
  have S22 := Aside0.mk hb.size
  go_wp2
  go_ret
  exact ⟨rfl, HB.out⟩

end Go.Proofs.Ytnemcppllfmioaa.Pure
