/- Lemmas for the law FnTonaryJoin. -/
import Derived.Lib.Slices
import Derived.Lib.Walk
import Derived.Lib.Bytealg
import Derived.Outline
import Derived.Lib.Overlaps
import Derived.Lib.AppendZeros
import Derived.Test.YtmacedbpdhkagaaDoorSFnTonaryJoins2
namespace Go.Proofs.YtmacedbpdhkagaaDoor.Pure
set_option linter.unusedVariables false
set_option linter.unusedSimpArgs false
open Go Go.RowKit Go.Proofs.YtmacedbpdhkagaaDoor.PFnTonaryJoin Go.Proofs.YtmacedbpdhkagaaDoorW.PrintWords Go.Proofs.YtmacedbpdhkagaaDoorW.PrintLast Go.Proofs.YtmacedbpdhkagaaDoorW.PrintMore

set_option maxHeartbeats 1000000 in
set_option maxRecDepth 100000 in
theorem cmpString_calls (a b : ByteArray) (w : World) :
 Calls Tryd.prog 106 #[.string a, .string b] w fun e w' => e = .returned (.int .i64 (Lib.compareBytes a.data.toList b.data.toList)) ∧ w' = w := by
 go_enter Tryd.func106, Tryd.ntmps106
 go_wp2
 rw [run_callFunc_extern Tryd.func108 (by kernel_rfl) (by kernel_rfl) (by kernel_rfl) (e := Extern.BytealgCompare.compare) (by kernel_rfl), Lib.run_compareString]
 simp only [Result.andThen]
 rw [Oper.upon_value]
 go_wp2
 go_ret
 exact ⟨rfl, rfl⟩
set_option maxHeartbeats 1000000 in
theorem compare_calls (a b : ByteArray) (w : World) :
 Calls Tryd.prog 85 #[.string a, .string b] w fun e w' => e = .returned (.int .i64 (Lib.compareBytes a.data.toList b.data.toList)) ∧ w' = w := by
 go_enter Tryd.func85, Tryd.ntmps85
 go_wp2_with (go_at_call 106; refine (cmpString_calls _ _ _).mono ?_; rintro e w' ⟨rfl, rfl⟩)
 go_ret
 exact ⟨rfl, rfl⟩
set_option maxHeartbeats 1000000 in
set_option maxRecDepth 100000 in
theorem findCmp_calls (a : ByteArray) (m : Int) (v : Value) (nm : ByteArray) (w : World) :
 Calls Tryd.prog 84 #[.agg #[.string a, .int .i64 m, v], .string nm] w fun r w' => r = .returned (.int .i64 (Lib.compareBytes a.data.toList nm.data.toList)) ∧ Below w.heap.size w w' := by
 have hu1 := Tryd.underlying38
 go_enter Tryd.func84, Tryd.ntmps84
 go_wp2_with (first
  | ((with_reducible refine gate_dst (N := 2) rfl ?_); refine box_event ?hg (N := 2) ?hd (cs := #[.string a, .int .i64 m, v]) (t := 38) ?hr ?_; (case hd => rfl); (case hg => rfl); (case hr => first | (go_simp; done) | (go_simp; rfl)); intro gb hg w3 hbox hb; have hx0 : w3.cell? ⟨gb, 0, none⟩ = some (.string a) := (blk_cell hbox 0).trans rfl; have HB := Aside0.mk hb; clear hb hg)
  | (go_at_call 85; refine (compare_calls _ _ _).mono ?_; rintro e w' ⟨rfl, rfl⟩))
 go_ret
 exact ⟨rfl, HB.out⟩

def nmAt (X : List S38) (nm : ByteArray) : Nat := (X.takeWhile (fun e => nmLt e.f0 nm)).length
theorem cmp_lt : ∀ (a b : List UInt8), decide (Lib.compareBytes a b < 0) = decide (a < b)
 | [], [] => by simp [Lib.compareBytes]
 | [], y :: ys => by simp [Lib.compareBytes]
 | x :: xs, [] => by simp [Lib.compareBytes]
 | x :: xs, y :: ys => by
  have ih := cmp_lt xs ys
  unfold Lib.compareBytes
  by_cases h1 : x < y
  ·
   rw [if_pos h1]
   simp [List.cons_lt_cons_iff, h1]
  ·
   rw [if_neg h1]
   by_cases h2 : y < x
   ·
    rw [if_pos h2]
    have h3 : ¬ x = y := fun e => by subst e; exact absurd h2 (UInt8.lt_irrefl x)
    simp [List.cons_lt_cons_iff, h1, h3]
   ·
    rw [if_neg h2, ih]
    have h3 : x = y := by
     have a1 : ¬ x.toNat < y.toNat := fun h => h1 (UInt8.lt_iff_toNat_lt.2 h)
     have a2 : ¬ y.toNat < x.toNat := fun h => h2 (UInt8.lt_iff_toNat_lt.2 h)
     exact UInt8.toNat_inj.1 (by omega)
    subst h3
    simp [List.cons_lt_cons_iff]
theorem cmp_eq0 : ∀ (a b : List UInt8), (Lib.compareBytes a b = 0) ↔ a = b
 | [], [] => by simp [Lib.compareBytes]
 | [], y :: ys => by simp [Lib.compareBytes]
 | x :: xs, [] => by simp [Lib.compareBytes]
 | x :: xs, y :: ys => by
  have ih := cmp_eq0 xs ys
  unfold Lib.compareBytes
  by_cases h1 : x < y
  ·
   rw [if_pos h1]
   have h3 : ¬ x = y := fun e => by subst e; exact absurd h1 (UInt8.lt_irrefl x)
   simp [h3]
  ·
   rw [if_neg h1]
   by_cases h2 : y < x
   ·
    rw [if_pos h2]
    have h3 : ¬ x = y := fun e => by subst e; exact absurd h2 (UInt8.lt_irrefl x)
    simp [h3]
   ·
    rw [if_neg h2, ih]
    have h3 : x = y := by
     have a1 : ¬ x.toNat < y.toNat := fun h => h1 (UInt8.lt_iff_toNat_lt.2 h)
     have a2 : ¬ y.toNat < x.toNat := fun h => h2 (UInt8.lt_iff_toNat_lt.2 h)
     exact UInt8.toNat_inj.1 (by omega)
    simp [h3]

theorem nmLt_iff (a b : ByteArray) : nmLt a b = true ↔ a.toList < b.toList := by
 unfold nmLt
 rw [bytesLess_eq]
 exact decide_eq_true_iff
theorem nmLt_irrefl (a : ByteArray) : nmLt a a = false := by
 cases h : nmLt a a
 ·
  rfl
 ·
  exact absurd ((nmLt_iff a a).1 h) (List.lt_irrefl _)
theorem nmLt_trans {a b c : ByteArray} (h1 : nmLt a b = true) (h2 : nmLt b c = true) : nmLt a c = true :=
 (nmLt_iff a c).2 (List.lt_trans ((nmLt_iff a b).1 h1) ((nmLt_iff b c).1 h2))
theorem nm_eq_of {a b : ByteArray} (h1 : nmLt a b = false) (h2 : nmLt b a = false) : a = b := by
 refine Go.WideShapes.bytes_inj ?_
 rw [← Lib.toList_data, ← Lib.toList_data]
 have n1 : ¬ a.toList < b.toList := fun h => by rw [(nmLt_iff a b).2 h] at h1; cases h1
 have n2 : ¬ b.toList < a.toList := fun h => by rw [(nmLt_iff b a).2 h] at h2; cases h2
 exact List.le_antisymm (List.not_lt.1 n2) (List.not_lt.1 n1)
theorem befE_iff (p e : S38) : befE p e = true ↔ p.f1 < e.f1 ∨ (p.f1 = e.f1 ∧ nmLt p.f0 e.f0 = true) := by
 unfold befE
 by_cases h1 : p.f1 < e.f1
 ·
  simp [h1]
 ·
  by_cases h2 : p.f1 = e.f1
  ·
   simp [h2]
  ·
   simp [h1, h2]
theorem befE_trans {a b c : S38} (h1 : befE a b = true) (h2 : befE b c = true) : befE a c = true := by
 rw [befE_iff] at *
 rcases h1 with h1 | ⟨e1, h1⟩ <;> rcases h2 with h2 | ⟨e2, h2⟩
 ·
  exact .inl (by omega)
 ·
  exact .inl (by omega)
 ·
  exact .inl (by omega)
 ·
  exact .inr ⟨by omega, nmLt_trans h1 h2⟩
theorem befE_irrefl (a : S38) : befE a a = false := by
 cases h : befE a a
 ·
  rfl
 ·
  rw [befE_iff] at h
  rcases h with h | ⟨_, h⟩
  ·
   omega
  ·
   rw [nmLt_irrefl] at h; cases h
theorem befE_asymm {a b : S38} (h : befE a b = true) : befE b a = false := by
 cases h2 : befE b a
 ·
  rfl
 ·
  have := befE_trans h h2
  rw [befE_irrefl] at this; cases this
abbrev Srt (L : List S38) : Prop := L.Pairwise (fun a b => befE a b = true)
theorem tOk_iff : ∀ (L : List S38) (p : Option S38), tOkFrom p L = true ↔ ((∀ e ∈ L, entOk e = true) ∧ Srt L ∧ ∀ q, p = some q → ∀ e ∈ L, befE q e = true)
 | [], p => by
  have : tOkFrom p [] = true := by cases p <;> rfl
  rw [this]
  simp
 | e :: es, none => by
  simp only [tOkFrom]
  rw [Bool.and_eq_true, tOk_iff es (some e)]
  constructor
  ·
   rintro ⟨h1, h2, h3, h4⟩
   exact ⟨fun x hx => by rcases List.mem_cons.1 hx with rfl | hx; exact h1; exact h2 x hx, List.pairwise_cons.2 ⟨fun x hx => h4 e rfl x hx, h3⟩, fun q hq => by cases hq⟩
  ·
   rintro ⟨h1, h2, _⟩
   obtain ⟨h3, h4⟩ := List.pairwise_cons.1 h2
   exact ⟨h1 e List.mem_cons_self, fun x hx => h1 x (List.mem_cons_of_mem _ hx), h4, fun q hq x hx => by cases hq; exact h3 x hx⟩
 | e :: es, some p => by
  simp only [tOkFrom]
  rw [Bool.and_eq_true, Bool.and_eq_true, tOk_iff es (some e)]
  constructor
  ·
   rintro ⟨h1, h0, h2, h3, h4⟩
   exact ⟨fun x hx => by rcases List.mem_cons.1 hx with rfl | hx; exact h1; exact h2 x hx, List.pairwise_cons.2 ⟨fun x hx => h4 e rfl x hx, h3⟩, fun q hq x hx => by cases hq; rcases List.mem_cons.1 hx with rfl | hx; exact h0; exact befE_trans h0 (h4 e rfl x hx)⟩
  ·
   rintro ⟨h1, h2, h5⟩
   obtain ⟨h3, h4⟩ := List.pairwise_cons.1 h2
   exact ⟨h1 e List.mem_cons_self, h5 p rfl e List.mem_cons_self, fun x hx => h1 x (List.mem_cons_of_mem _ hx), h4, fun q hq x hx => by cases hq; exact h3 x hx⟩
theorem tonOk_iff (L : List S38) : tonOk L = true ↔ L.length ≤ 20 ∧ (∀ e ∈ L, entOk e = true) ∧ Srt L := by
 unfold tonOk
 rw [Bool.and_eq_true, tOk_iff, decide_eq_true_iff]
 constructor
 ·
  rintro ⟨h1, h2, h3, _⟩; exact ⟨h1, h2, h3⟩
 ·
  rintro ⟨h1, h2, h3⟩; exact ⟨h1, h2, h3, fun q hq => by cases hq⟩
theorem entOk_mode {e : S38} (h : entOk e = true) : 1 ≤ e.f1 ∧ e.f1 ≤ 8 := by
 unfold entOk at h
 rw [Bool.and_eq_true] at h
 unfold mOk at h
 exact of_decide_eq_true h.1
theorem entOk_len {e : S38} (h : entOk e = true) : e.f2.length ≤ 8 := by
 unfold entOk at h
 rw [Bool.and_eq_true, Bool.and_eq_true, Bool.and_eq_true, Bool.and_eq_true] at h
 exact (of_decide_eq_true h.2.2.2.1).2
/-- a list that is sorted by modes is its modes' parts, one behind the other -/
theorem catM_filter (X : List S38) (hm : X.Pairwise (fun a b => a.f1 ≤ b.f1)) : ∀ n : Nat, (∀ e ∈ X, 1 ≤ e.f1) → catM (fun k => X.filter (fun e => e.f1 == k)) n = X.filter (fun e => decide (e.f1 ≤ (n : Int)))
 | 0, h => by
  symm
  rw [show catM (fun k => X.filter (fun e => e.f1 == k)) 0 = [] from rfl, List.filter_eq_nil_iff]
  intro e he
  have := h e he
  simp; omega
 | n + 1, h => by
  have ih := catM_filter X hm n h
  show catM _ n ++ X.filter (fun e => e.f1 == ((n : Int) + 1)) = _
  rw [ih]
  clear ih
  induction X with
  | nil => rfl
  | cons e X ih =>
   obtain ⟨h1, h2⟩ := List.pairwise_cons.1 hm
   have ih := ih h2 (fun x hx => h x (List.mem_cons_of_mem _ hx))
   by_cases c1 : e.f1 ≤ (n : Int)
   ·
    rw [List.filter_cons_of_pos (by simpa using c1), List.filter_cons_of_neg (by simp; omega), List.filter_cons_of_pos (by simp; omega), List.cons_append, ih]
   ·
    have hz : X.filter (fun e => decide (e.f1 ≤ (n : Int))) = [] := by
     rw [List.filter_eq_nil_iff]
     intro x hx
     have := h1 x hx
     simp; omega
    rw [List.filter_cons_of_neg (by simpa using c1), hz, List.nil_append]
    rw [hz, List.nil_append] at ih
    by_cases c2 : e.f1 = (n : Int) + 1
    ·
     rw [List.filter_cons_of_pos (by simp [c2]), List.filter_cons_of_pos (by simp; omega), ih]
    ·
     rw [List.filter_cons_of_neg (by simpa using c2), List.filter_cons_of_neg (by simp; omega), ih]
theorem srt_modes {L : List S38} (h : Srt L) : L.Pairwise (fun a b => a.f1 ≤ b.f1) :=
 List.Pairwise.imp (fun {a b} hab => by rw [befE_iff] at hab; omega) h
theorem catM_eq {X : List S38} (hs : Srt X) (hm : ∀ e ∈ X, 1 ≤ e.f1 ∧ e.f1 ≤ 8) : catM (fun k => X.filter (fun e => e.f1 == k)) 8 = X := by
 rw [catM_filter X (srt_modes hs) 8 (fun e he => (hm e he).1)]
 exact List.filter_eq_self.2 (fun e he => decide_eq_true (hm e he).2)
theorem catM_cong {G G' : Int → List S38} : ∀ n : Nat, (∀ k : Int, 1 ≤ k → k ≤ (n : Int) → G k = G' k) → catM G n = catM G' n
 | 0, _ => rfl
 | n + 1, h => by
  show catM G n ++ G ((n : Int) + 1) = catM G' n ++ G' ((n : Int) + 1)
  rw [catM_cong n (fun k h1 h2 => h k h1 (by omega)), h _ (by omega) (by omega)]
theorem srt_names {L : List S38} (h : Srt L) (mode : Int) : (L.filter (fun e => e.f1 == mode)).Pairwise (fun a b => nmLt a.f0 b.f0 = true) := by
 rw [List.pairwise_filter]
 refine List.Pairwise.imp (fun {a b} hab ha hb => ?_) h
 rw [befE_iff] at hab
 simp at ha hb
 rcases hab with h | h
 ·
  omega
 ·
  exact h.2
theorem rd_cons_succ (e : S38) (X : List S38) (i : Nat) : rd_T38 (e :: X) ((i + 1 : Nat) : Int) = rd_T38 X (i : Int) := by
 unfold rd_T38
 rw [Int.toNat_natCast, Int.toNat_natCast, List.getD_cons_succ]
theorem rd_cons_zero (e : S38) (X : List S38) : rd_T38 (e :: X) ((0 : Nat) : Int) = e := rfl
theorem nmAt_mono : ∀ (X : List S38), X.Pairwise (fun a b => nmLt a.f0 b.f0 = true) → ∀ (nm : ByteArray) (i : Nat), i < X.length → nmLt (rd_T38 X (i : Int)).f0 nm = decide (i < nmAt X nm)
 | [], _, nm, i, hi => absurd hi (Nat.not_lt_zero i)
 | e :: X, hp, nm, i, hi => by
  obtain ⟨h1, h2⟩ := List.pairwise_cons.1 hp
  cases he : nmLt e.f0 nm
  ·
   have h0 : nmAt (e :: X) nm = 0 := by unfold nmAt; rw [List.takeWhile_cons, he]; rfl
   rw [h0, decide_eq_false (Nat.not_lt_zero i)]
   cases i with
   | zero => exact he
   | succ i =>
    have hl : i < X.length := by simp at hi; omega
    rw [rd_cons_succ]
    cases hx : nmLt (rd_T38 X (i : Int)).f0 nm
    ·
     rfl
    ·
     have := nmLt_trans (h1 _ (rd_ent X i hl)) hx
     rw [this] at he; cases he
  ·
   have h0 : nmAt (e :: X) nm = nmAt X nm + 1 := by unfold nmAt; rw [List.takeWhile_cons, he]; rfl
   rw [h0]
   cases i with
   | zero => rw [rd_cons_zero, he, decide_eq_true (Nat.succ_pos _)]
   | succ i =>
    rw [rd_cons_succ, nmAt_mono X h2 nm i (by simp at hi; omega)]
    exact decide_eq_decide.2 (by omega)

theorem nmLt_dec (a b : ByteArray) : decide (Lib.compareBytes a.data.toList b.data.toList < 0) = nmLt a b := by
 rw [cmp_lt]
 unfold nmLt
 rw [bytesLess_eq, Lib.toList_data, Lib.toList_data]
theorem nmEq_dec (a b : ByteArray) : decide (Lib.compareBytes a.data.toList b.data.toList = 0) = decide (a = b) := by
 refine decide_eq_decide.2 ((cmp_eq0 _ _).trans ⟨fun h => ?_, fun h => by rw [h]⟩)
 exact Go.WideShapes.bytes_inj h
set_option maxHeartbeats 2000000 in
set_option maxRecDepth 100000 in
theorem bsearch_calls (X : List S38) (nm : ByteArray) (A0 : Option Addr) (c0 : Nat) (w : World) (hr0 : Kd.C k38 w A0 X.length X) (hc0 : X.length ≤ c0) (hl : X.length ≤ 1000) (hm : ∀ i : Nat, i < X.length → nmLt (rd_T38 X (i : Int)).f0 nm = decide (i < nmAt X nm)) :
 Calls Tryd.prog 83 #[.slice A0 X.length c0, .string nm, .func (.func 84) #[] #[]] w fun e w' => e = .returned (.tuple #[.int .i64 (nmAt X nm : Int), .bool (decide (nmAt X nm < X.length) && decide ((rd_T38 X (nmAt X nm : Int)).f0 = nm))]) ∧ Below w.heap.size w w' := by
 have hu1 := Tryd.underlying38
 have HR0 := Aside0.mk hr0
 have HC0 := Aside0.mk hc0
 have HM := Aside0.mk hm
 have hs : nmAt X nm ≤ X.length := (List.takeWhile_prefix _).length_le
 obtain ⟨s, hs0⟩ : ∃ s, s = nmAt X nm := ⟨_, rfl⟩
 rw [← hs0] at hs ⊢
 have HS := Aside0.mk hs0
 clear hr0 hc0 hm hs0
 go_enter Tryd.func83, Tryd.ntmps83
 go_wp2
 go_loopg [9, 10, 11] X.length (fun kq v9 v10 v11 w' => ∃ (i j : Nat), v9 = .int .i64 (i : Int) ∧ v10 = .int .i64 (j : Int) ∧ Aside0 (kq = j - i ∧ i ≤ s ∧ s ≤ j ∧ j ≤ X.length) ∧ Aside0 (Below w.heap.size w w'))
 case atStart => exact ⟨0, X.length, rfl, rfl, ⟨by omega⟩, ⟨by repeat (first | exact Below.refl _ _ | apply below_alloc | apply pw_below_drewN | apply below_drew1)⟩⟩
 case round =>
  obtain ⟨i, j, rfl, rfl, HX, HB1⟩ := hrel
  obtain ⟨hkq, hi, hj, hjX⟩ := HX.out
  by_cases hij : (i : Int) < (j : Int)
  ·
   have d1 : decide ((i : Int) < (j : Int)) = true := decide_eq_true hij
   obtain ⟨h, hh⟩ : ∃ h : Nat, ((i : Int) + (j : Int)) / 2 = (h : Int) := ⟨(i + j) / 2, by omega⟩
   have hih : i ≤ h ∧ h < j := by omega
   have hlt : (h : Int) < (X.length : Int) := by omega
   have p0 : (0 : Int) ≤ (h : Int) := by omega
   obtain ⟨ad, A2, c2, e0, ux0, ux1, ux2, hl2, hg2⟩ := at_T38 (Kd.C_below HR0.out HB1.out) (h : Int) p0 hlt
   subst e0
   have hcmp := (nmLt_dec (rd_T38 X (h : Int)).f0 nm).trans (HM.out h (by omega))
   rw [← HS.out] at hcmp
   generalize rd_T38 X (h : Int) = e at ux0 ux1 ux2 hl2 hg2 hcmp
   simp only [Int.toNat_natCast] at ux0 ux1 ux2
   have HCMP := Aside0.mk hcmp
   clear hl2 hg2 hcmp
   have NX : Aside0 (gk = j - i ∧ i ≤ h ∧ h < j ∧ j ≤ X.length ∧ i ≤ s ∧ s ≤ j) := ⟨hkq, hih.1, hih.2, hjX, hi, hj⟩
   by_cases hsl : h < s
   ·
    have dc : decide (Lib.compareBytes e.f0.data.toList nm.data.toList < 0) = true := by rw [HCMP.out]; exact decide_eq_true hsl
    have HSL := Aside0.mk hsl
    clear hsl hkq hi hj hih
    go_wp2_with (go_at_call 84; refine (findCmp_calls _ _ _ nm _).mono ?_; rintro e_ w5 ⟨rfl, hb5⟩; have HB5 := Aside0.mk (below_step HB1.out hb5); clear hb5)
    go_roundg (j - (h + 1))
    case measure => have := NX.out; omega
    case rel => exact ⟨h + 1, j, by first | rfl | simp, rfl, ⟨by have h1 := NX.out; have h2 := HSL.out; omega⟩, HB5⟩
   ·
    have dc : decide (Lib.compareBytes e.f0.data.toList nm.data.toList < 0) = false := by rw [HCMP.out]; exact decide_eq_false hsl
    have HSL := Aside0.mk hsl
    clear hsl hkq hi hj hih
    go_wp2_with (go_at_call 84; refine (findCmp_calls _ _ _ nm _).mono ?_; rintro e_ w5 ⟨rfl, hb5⟩; have HB5 := Aside0.mk (below_step HB1.out hb5); clear hb5)
    go_roundg (h - i)
    case measure => have := NX.out; omega
    case rel => exact ⟨i, h, rfl, by first | rfl | simp, ⟨by have h1 := NX.out; have h2 := HSL.out; omega⟩, HB5⟩
  ·
   have d1 : decide ((i : Int) < (j : Int)) = false := decide_eq_false hij
   obtain rfl : i = j := by omega
   obtain rfl : i = s := by omega
   go_upto_region 8 with fail
   by_cases hlt : i < X.length
   ·
    have d2 : decide ((i : Int) < (X.length : Int)) = true := decide_eq_true (by omega)
    have d2' : decide (i < X.length) = true := decide_eq_true hlt
    have p0 : (0 : Int) ≤ (i : Int) := by omega
    have q0 : (i : Int) < (X.length : Int) := by omega
    obtain ⟨ad, A2, c2, e0, ux0, ux1, ux2, hl2, hg2⟩ := at_T38 (Kd.C_below HR0.out HB1.out) (i : Int) p0 q0
    subst e0
    have HQ : Aside0 ((Lib.compareBytes (rd_T38 X (i : Int)).f0.data.toList nm.data.toList == 0) = (decide (i < X.length) && decide ((rd_T38 X (i : Int)).f0 = nm))) := ⟨by rw [d2', Bool.true_and, ← nmEq_dec]; rfl⟩
    obtain ⟨e, he⟩ : ∃ e, e = rd_T38 X (i : Int) := ⟨_, rfl⟩
    rw [← he] at ux0 ux1 ux2
    simp only [Int.toNat_natCast] at ux0 ux1 ux2
    have HE := Aside0.mk he
    clear hl2 hg2 hkq hi hj hij he
    go_wp2_with (go_at_call 84; refine (findCmp_calls _ _ _ nm _).mono ?_; rintro e_ w5 ⟨rfl, hb5⟩; have HB5 := Aside0.mk (below_step HB1.out hb5); clear hb5)
    go_ret2
    exact ⟨by have h := HQ.out; rw [← HE.out] at h; rw [← HE.out]; exact congrArg (fun b => Ending.returned (.tuple #[.int .i64 (i : Int), .bool b])) h, HB5.out⟩
   ·
    have d2 : decide ((i : Int) < (X.length : Int)) = false := decide_eq_false (by omega)
    have d2' : decide (i < X.length) = false := decide_eq_false hlt
    have HQ : Aside0 (false = (decide (i < X.length) && decide ((rd_T38 X (i : Int)).f0 = nm))) := ⟨by rw [d2']; rfl⟩
    clear hkq hi hj hij
    go_wp2
    go_ret2
    exact ⟨congrArg (fun b => Ending.returned (.tuple #[.int .i64 (i : Int), .bool b])) HQ.out, HB1.out⟩

end Go.Proofs.YtmacedbpdhkagaaDoor.Pure
namespace Go.Proofs.YtmacedbpdhkagaaDoor.Pure
set_option linter.unusedVariables false
set_option linter.unusedSimpArgs false
open Go Go.RowKit Go.Proofs.YtmacedbpdhkagaaDoor.PFnTonaryJoin Go.Proofs.YtmacedbpdhkagaaDoorW.PrintWords Go.Proofs.YtmacedbpdhkagaaDoorW.PrintLast Go.Proofs.YtmacedbpdhkagaaDoorW.PrintMore

theorem drewN_grown (w : World) (n : Nat) (row : Option Nat) : w.grownBy (w.drewN n) row := ⟨rfl, rfl, rfl, Nat.le_refl _, fun _ _ _ => rfl⟩
theorem setRow_far {W : World} {g k : Nat} (cs : Array Value) (h : k ≠ g) : (W.setRow g cs).heap[k]? = W.heap[k]? := by
 simp [World.setRow, Array.getElem?_modify, show ¬ g = k from fun e => h e.symm]
theorem setRow_grown (W : World) (g : Nat) (cs : Array Value) : W.grownBy (W.setRow g cs) (some g) :=
 ⟨rfl, rfl, rfl, by simp [World.setRow], fun k _ hk => setRow_far cs (fun e => hk (by rw [e]))⟩
def nmHas (X : List S38) (nm : ByteArray) : Bool := decide (nmAt X nm < X.length) && decide ((rd_T38 X (nmAt X nm : Int)).f0 = nm)
theorem nmAt_le (X : List S38) (nm : ByteArray) : nmAt X nm ≤ X.length := (List.takeWhile_prefix _).length_le
set_option maxHeartbeats 1000000 in
set_option maxRecDepth 100000 in
theorem find_calls (w : World) (base M : Nat) (own : Nat → Int) (F : Int → Option Value) (G : Int → List S38) (mode : Int) (nm : ByteArray) (hta : TonAt w base M own F G) (hl : (G mode).length ≤ 1000) (hm : (G mode).Pairwise (fun a b => nmLt a.f0 b.f0 = true)) :
 Calls Tryd.prog 53 #[.map (some M), .int .i64 mode, .string nm] w fun e w' => e = .returned (.tuple #[.int .i64 (nmAt (G mode) nm : Int), .bool (nmHas (G mode) nm)]) ∧ Below w.heap.size w w' := by
 have lk := hta.look mode
 obtain ⟨A, c, hv, hc, hC⟩ := Kd.S_reads (hta.row mode)
 rw [hv] at lk
 have HB := Aside0.mk (bsearch_calls (G mode) nm A c w hC hc hl (nmAt_mono _ hm nm))
 clear hta hv hc hC hm
 go_enter Tryd.func53, Tryd.ntmps53
 go_wp2_with (go_at_call 83; refine HB.out.mono ?_; rintro e_ w5 ⟨rfl, hb5⟩; have HB5 := Aside0.mk hb5; clear hb5)
 go_ret2
 exact ⟨rfl, HB5.out⟩

def entSz (L : List S38) : Bool := L.all fun e => decide (e.f0.size ≤ 9000000000000000 ∧ e.f2.length ≤ 1000000000000)
theorem entSz_all {L : List S38} (h : entSz L = true) : ∀ e ∈ L, e.f0.size ≤ 9000000000000000 ∧ e.f2.length ≤ 1000000000000 := fun e he => of_decide_eq_true (List.all_eq_true.1 h e he)

theorem run_zeros_grow {P : Program} (w : World) (t ti ty e : TypeId) (i0 : TypeInfo) (z : Value) (ht : P.underlying t = some (.slice e)) {k : IntKind} (hti : P.underlying ti = some (.int k)) (hi : P.info? e = some i0) (hz : i0.zero = some z) (hsz : 0 < i0.size)
 (g n m cap : Nat) (xs : List Value) (hx : xs.length = n * i0.size) (hcells : ∀ j u, xs[j]? = some u → w.cell? ((⟨g, 0, none⟩ : Addr).add j) = some u) (kx : IntKind) (hm : 0 < m) (hcap : cap < n + m) (h63 : n + m ≤ 1000000) (hbytes : (n + m) * i0.bytes ≤ 140737488355328) :
 (Builtin.append_ #[t, ti] ty #[.slice (some ⟨g, 0, none⟩) n cap, .int kx (m : Int)]).run P w =
  .ok (.slice (some ⟨w.heap.size, 0, none⟩) (n + m) (grownCap w (n + m) cap e)) (w.drew.alloc (.cells (xs.toArray ++ Builtin.zeroCells z.cells m ++ Builtin.zeroCells z.cells (grownCap w (n + m) cap e - (n + m))) e)) := by
 have hfo := run_firstCells_some (P := P) w.drew i0.size n ⟨g, 0, none⟩ n cap xs hx (by simpa using hcells)
 have hw : IntKind.i64.wrap (m : Int) = m := by rw [IntKind.wrap_i64]; omega
 have hneg : ¬ ((m : Int) < 0) := by omega
 have hmb : m * i0.bytes ≤ 140737488355328 := Nat.le_trans (Nat.mul_le_mul_right _ (Nat.le_add_left m n)) hbytes
 have hbig : ¬ (281474976710656 < (m : Int) * (i0.bytes : Int)) := by
  rw [← Int.natCast_mul]
  omega
 have hn : ¬ (n + m ≤ cap) := by omega
 have h63' : ¬ (9223372036854775807 < ((n : Int) + (m : Int))) := by omega
 have hfit := growslice_fits hcap hbytes
 have h48' : ¬ (281474976710656 < Builtin.nextslicecap (n + m) cap * i0.bytes) := by omega
 have hmz : ¬ (m * i0.size = 0) := Nat.mul_ne_zero (by omega) (by omega)
 simp [Builtin.append_, run_underlying ht, run_underlying hti, sizeOf, typeInfo, zeroValue, hi, hz, asInt, asIntOf, hw, hneg, hbig, hn, h63', h48', Question.forced, hfo, newRow, grownCap, hmz]
theorem run_copy_row {P : Program} (W : World) (t ty e : TypeId) (g o dl dc sl sc k : Nat) (a : Addr) (cs : List Value) (cur : Array Value) (ht : P.underlying t = some (.slice e)) {sz : Nat} (hsz : (P.info? e).map (·.size) = some sz)
 (hk : Nat.min sl dl = k) (hcs : cs.length = k * sz) (hld : ∀ j u, cs[j]? = some u → W.cell? (a.add j) = some u) (hh : W.heap[g]? = some (.cells cur e (0, 0))) (hf : o + cs.length ≤ cur.size) (h1 : ∀ u ∈ cs, u.oneCell' = true) :
 (Builtin.copy_ #[t, t] ty #[.slice (some ⟨g, o, none⟩) dl dc, .slice (some a) sl sc]).run P W = .ok (goInt k) (W.setRow g (cur.toList.take o ++ cs ++ cur.toList.drop (o + cs.length)).toArray) := by
 obtain ⟨i0, hi, hisz⟩ := Option.map_eq_some_iff.1 hsz
 have hl := run_loadCells_list (P := P) W a cs hld
 have hst := run_storeCells_at P g o e cs 0 cur W hh (by omega) h1
 simp only [Nat.add_zero] at hst
 rw [hcs] at hl
 simp [Builtin.copy_, run_underlying ht, Builtin.lenOf, Builtin.firstCells, sizeOf, typeInfo, hi, hisz, hk, hl, hst]
theorem wpList_copy_run2 {P : Program} {W w' : World} {ops : Array Oper} {rest : List Oper} {o : Oper} {a : Act} {Q : Exit → Act → World → Prop} (hgd : o.guard = none) (d s : Operand) (t : TypeId)
 (ho : o.op = .call { callee := .builtin .copy, args := #[d, s], argTypes := #[t, t] }) (v u : Value) (hd : a.eval d = v) (hs : a.eval s = u) {v' : Value}
 (hr : (Builtin.copy_ #[t, t] o.type #[v, u]).run P W = .ok v' w') (h : wpList P ops Q rest (a.put o.dst v') w') : wpList P ops Q (o :: rest) a W := by
 refine wpList_plain hgd fun K hK => ?_
 unfold Oper.wp execOp
 simp only [ho, resolve, invoke, builtin, Sem.run_bind, Sem.run_pure, Result.andThen_ok, List.map_toArray, List.map_cons, List.map_nil, hd, hs, hr]
 exact hK _ _ h
theorem step_copy_run2 {P : Program} {ops : Array Oper} {o : Oper} {a : Act} {W w' : World} {Kc : Act → World → Prop} {Q : Exit → Act → World → Prop} (hw : Region.wanted o (yielded ops a.tmps) = true) (d s : Operand) (t : TypeId)
 (ho : o.op = .call { callee := .builtin .copy, args := #[d, s], argTypes := #[t, t] }) (v u : Value) (hd : a.eval d = v) (hs : a.eval s = u) {v' : Value}
 (hr : (Builtin.copy_ #[t, t] o.type #[v, u]).run P W = .ok v' w') (h : Kc (a.put o.dst v') w') : if Region.wanted o (yielded ops a.tmps) = true then Oper.wp P o a W Kc Q else Kc (a.put o.dst undef) W := by
 rw [if_pos hw]
 unfold Oper.wp execOp
 simp only [ho, resolve, invoke, builtin, Sem.run_bind, Sem.run_pure, Result.andThen_ok, List.map_toArray, List.map_cons, List.map_nil, hd, hs, hr]
 exact h
theorem row_cells {W : World} {g : Nat} {cur : Array Value} {e : TypeId} (hh : W.heap[g]? = some (.cells cur e (0, 0))) (o : Nat) (cs : List Value) (h : ∀ j u, cs[j]? = some u → cur.toList[o + j]? = some u) : ∀ j u, cs[j]? = some u → W.cell? ((⟨g, o, none⟩ : Addr).add j) = some u := by
 intro j u hj
 rw [Addr.add_lit, cell_of_row W g _ cur e (0, 0) hh, ← Array.getElem?_toList]
 exact h j u hj
/-- in place: what stands behind is moved on, then the new cells are laid -/
theorem ins_shift (L a r b : List Value) (n3 i3 : Nat) (ha : a = (L.take n3).take i3) (hb : b = (L.take n3).drop i3) (hi : i3 ≤ n3) (hr : r.length = 3) (hl : n3 + 3 ≤ L.length) :
 (((L.take (i3 + 3) ++ b ++ L.drop (i3 + 3 + b.length)).take i3 ++ r ++ (L.take (i3 + 3) ++ b ++ L.drop (i3 + 3 + b.length)).drop (i3 + r.length)).take (n3 + 3)) = a ++ r ++ b := by
 have hbl : b.length = n3 - i3 := by rw [hb, List.length_drop, List.length_take]; omega
 have h1 : (L.take (i3 + 3) ++ b ++ L.drop (i3 + 3 + b.length)).take i3 = a := by
  rw [List.append_assoc, List.take_append_of_le_length (by rw [List.length_take]; omega), List.take_take, ha, List.take_take, Nat.min_eq_left (by omega), Nat.min_eq_left (by omega)]
 have h2 : (L.take (i3 + 3) ++ b ++ L.drop (i3 + 3 + b.length)).drop (i3 + r.length) = b ++ L.drop (i3 + 3 + b.length) := by
  rw [List.append_assoc, hr]
  exact List.drop_left' (by rw [List.length_take]; omega)
 rw [h1, h2, ← List.append_assoc]
 exact List.take_left' (by rw [List.length_append, List.length_append, hr, hbl, ha, List.length_take, List.length_take]; omega)
/-- a new row: the new cells, then what stands behind -/
theorem ins_grow (a r b Z : List Value) (i3 : Nat) (ha : a.length = i3) (hr : r.length = 3) (hZ : 3 + b.length ≤ Z.length) :
 ((((a ++ Z).take i3 ++ r ++ (a ++ Z).drop (i3 + r.length)).take (i3 + 3) ++ b ++ ((a ++ Z).take i3 ++ r ++ (a ++ Z).drop (i3 + r.length)).drop (i3 + 3 + b.length)).take (i3 + 3 + b.length)) = a ++ r ++ b := by
 have h1 : (a ++ Z).take i3 = a := List.take_left' ha
 have h2 : (a ++ r ++ (a ++ Z).drop (i3 + r.length)).take (i3 + 3) = a ++ r := List.take_left' (by rw [List.length_append, ha, hr])
 rw [h1, h2]
 exact List.take_left' (by rw [List.length_append, List.length_append, ha, hr])

end Go.Proofs.YtmacedbpdhkagaaDoor.Pure
namespace Go.Proofs.YtmacedbpdhkagaaDoor.Pure
set_option linter.unusedVariables false
set_option linter.unusedSimpArgs false
open Go Go.RowKit Go.Proofs.YtmacedbpdhkagaaDoor.PFnTonaryJoin Go.Proofs.YtmacedbpdhkagaaDoorW.PrintWords Go.Proofs.YtmacedbpdhkagaaDoorW.PrintLast Go.Proofs.YtmacedbpdhkagaaDoorW.PrintMore

def InsOut (w : World) (base n i : Nat) (v : Value) (inner r : List Value) (e : Ending) (w' : World) : Prop :=
 ∃ v', e = .returned v' ∧ w'.ownsRow base 38 3 v' (n + 1) (inner.take (i * 3) ++ r ++ inner.drop (i * 3)) ∧ w.grownBy w' v.ownBlock ∧ (v'.ownBlock = v.ownBlock ∨ ∃ b, v'.ownBlock = some b ∧ w.heap.size ≤ b)
theorem ent_parts : ∃ i0 : TypeInfo, Tryd.prog.info? 38 = some i0 ∧ i0.zero = some (.agg #[.string ⟨#[]⟩, .int .i64 0, .slice none 0 0]) ∧ i0.size = 3 ∧ i0.bytes = 48 := by
 obtain ⟨i0, hi, hzz⟩ := Option.map_eq_some_iff.1 info38
 simp only [Prod.mk.injEq] at hzz
 exact ⟨i0, hi, hzz.1, hzz.2.1, hzz.2.2⟩
theorem ent_sz : (Tryd.prog.info? 38).map (·.size) = some 3 := by
 obtain ⟨i0, hi, _, h, _⟩ := ent_parts
 rw [hi, Option.map_some, h]
theorem news_at {w : World} {gb : Nat} {r : List Value} (hr : w.heap[gb]? = some (.cells r.toArray 38 (0, 0))) : ∀ j u, r[j]? = some u → w.cell? ((⟨gb, 0, none⟩ : Addr).add j) = some u :=
 row_cells hr 0 r (fun j u h => by rw [Nat.zero_add]; simpa using h)
set_option maxHeartbeats 2000000 in
set_option maxRecDepth 100000 in
/-- at the end: an append -/
theorem insert_end (A : Option Addr) (n c gb base : Nat) (inner r : List Value) (w : World) (hown : w.ownsRow base 38 3 (.slice A n c) n inner) (hr : w.heap[gb]? = some (.cells r.toArray 38 (0, 0))) (hrl : r.length = 3) (hr1 : ∀ u ∈ r, u.oneCell' = true) (hn : n ≤ 1000) (hnc : n ≤ c) (hbase : base ≤ w.heap.size) :
 Calls Tryd.prog 54 #[.slice A n c, .int .i64 (n : Int), .slice (some ⟨gb, 0, none⟩) 1 1] w (InsOut w base n n (.slice A n c) inner r) := by
 obtain ⟨i0, hi, hz0, hz1, hz2⟩ := ent_parts
 have HN := Aside0.mk (news_at hr)
 have HO := Aside0.mk hown
 have HR1 := Aside0.mk hr1
 have HB := Aside0.mk hbase
 have HI := Aside0.mk hi
 have HZ0 := Aside0.mk hz0
 have HZ1 := Aside0.mk hz1
 have HZ2 := Aside0.mk hz2
 have HL := Aside0.mk (show inner.length = n * 3 from hown.1)
 have b0 : (0 : Int) ≤ (n : Int) := by omega
 have b1 : (n : Int) ≤ (n : Int) := by omega
 have b2 : (n : Int) ≤ (c : Int) := by omega
 clear hown hr hr1 hbase hi hz0 hz1 hz2
 by_cases hcn : c = n
 all_goals
  go_enter Tryd.func54, Tryd.ntmps54
  go_wp2_with ((with_reducible refine gate_builtin (b := .append) (xs := #[.tmp 23, .tmp 24]) rfl ?_); at_builtin; refine wpList_append_own_at _ rfl (.tmp 23) (.tmp 24) 24 rfl base 38 i0 (.agg #[.string ⟨#[]⟩, .int .i64 0, .slice none 0 0]) 3 48 Tryd.underlying24 HI.out HZ0.out HZ1.out HZ2.out rfl (by decide) (.slice A n c) n inner rfl HO.out ⟨gb, 0, none⟩ 1 1 r rfl (by rw [hrl]) HN.out HR1.out (by unfold maxLen; omega) (by omega) HB.out ?_; intro v' w5 ho5 hg5 _ hat5; have HO5 := Aside0.mk ho5; have HG5 := Aside0.mk hg5; have HA5 := Aside0.mk hat5; clear ho5 hg5 hat5)
  go_ret
  refine ⟨v', rfl, ?_, HG5.out, ?_⟩
  ·
   rw [List.take_of_length_le (by rw [HL.out]; omega), List.drop_of_length_le (by rw [HL.out]; omega), List.append_nil]
   exact HO5.out
  ·
   rcases HA5.out with h | h
   ·
    exact .inl h
   ·
    exact .inr ⟨_, h, Nat.le_refl _⟩
set_option maxHeartbeats 4000000 in
set_option maxRecDepth 100000 in
/-- in the midst, and there is room: in place -/
theorem insert_room (g n c i gb base : Nat) (inner r : List Value) (cur : Array Value) (w : World) (hc : c ≤ maxLen) (hh : w.heap[g]? = some (.cells cur 38 (0, 0))) (hcs : cur.size = c * 3) (htk : cur.toList.take (n * 3) = inner) (hil : inner.length = n * 3) (h1 : ∀ u ∈ inner, u.oneCell' = true) (hr : w.heap[gb]? = some (.cells r.toArray 38 (0, 0))) (hrl : r.length = 3) (hr1 : ∀ u ∈ r, u.oneCell' = true) (hgb : gb ≠ g) (hi : i < n) (hn : n ≤ 1000) (hnc : n + 1 ≤ c) (hb : base ≤ g) :
 Calls Tryd.prog 54 #[.slice (some ⟨g, 0, none⟩) n c, .int .i64 (i : Int), .slice (some ⟨gb, 0, none⟩) 1 1] w (InsOut w base n i (.slice (some ⟨g, 0, none⟩) n c) inner r) := by
 obtain ⟨b, hbd⟩ : ∃ b, b = inner.drop (i * 3) := ⟨_, rfl⟩
 have hbl : b.length = (n - i) * 3 := by rw [hbd, List.length_drop, hil, Nat.sub_mul]
 have hnl : (n + 1) * 3 ≤ c * 3 := Nat.mul_le_mul_right _ hnc
 have hin : i * 3 + 3 ≤ n * 3 := by have := Nat.mul_le_mul_right 3 (show i + 1 ≤ n from hi); omega
 -- the first copy
 obtain ⟨cur1, hcur1⟩ : ∃ cur1 : Array Value, cur1 = (cur.toList.take (i * 3 + 3) ++ b ++ cur.toList.drop (i * 3 + 3 + b.length)).toArray := ⟨_, rfl⟩
 have hs1 : cur1.size = c * 3 := by
  rw [hcur1, List.size_toArray, List.length_append, List.length_append, List.length_take, List.length_drop, Array.length_toList, hcs, hbl, Nat.sub_mul]
  omega
 have hc1 : ∀ (dl sl dc sc : Nat), dl = n - i → sl = n + 1 - i → (Builtin.copy_ #[24, 24] 3 #[.slice (some ⟨g, (i + 1) * 3, none⟩) dl dc, .slice (some ⟨g, i * 3, none⟩) sl sc]).run Tryd.prog w.drew = .ok (goInt ((n - i : Nat) : Int)) (w.drew.setRow g cur1) := by
  intro dl sl dc sc hdl hsl
  subst hdl hsl
  rw [hcur1, Nat.succ_mul]
  refine run_copy_row (P := Tryd.prog) w.drew 24 3 38 g (i * 3 + 3) (n - i) dc (n + 1 - i) sc (n - i) ⟨g, i * 3, none⟩ b cur Tryd.underlying24 ent_sz (Nat.min_eq_right (by omega)) hbl ?_ hh ?_ ?_
  ·
   refine row_cells (W := w.drew) hh (i * 3) b (fun j u hj => ?_)
   rw [hbd, List.getElem?_drop] at hj
   rw [← htk, List.getElem?_take] at hj
   split at hj
   ·
    exact hj
   ·
    cases hj
  ·
   rw [hbl, hcs, Nat.sub_mul]; omega
  ·
   intro u hu
   rw [hbd] at hu
   exact h1 u (List.mem_of_mem_drop hu)
 -- the second
 obtain ⟨cur2, hcur2⟩ : ∃ cur2 : Array Value, cur2 = (cur1.toList.take (i * 3) ++ r ++ cur1.toList.drop (i * 3 + r.length)).toArray := ⟨_, rfl⟩
 have hs2 : cur2.size = c * 3 := by
  rw [hcur2, List.size_toArray, List.length_append, List.length_append, List.length_take, List.length_drop, Array.length_toList, hs1, hrl]
  omega
 obtain ⟨w1, hw1⟩ : ∃ w1, w1 = w.drew.setRow g cur1 := ⟨_, rfl⟩
 have hh1 : w1.heap[g]? = some (.cells cur1 38 (0, 0)) := by rw [hw1]; exact setRow_heap w.drew g cur _ 38 _ hh
 have hr1' : w1.heap[gb]? = some (.cells r.toArray 38 (0, 0)) := by rw [hw1]; exact (setRow_far (W := w.drew) cur1 hgb).trans hr
 have hc2 : ∀ (dl dc : Nat), dl = n + 1 - i → (Builtin.copy_ #[24, 24] 3 #[.slice (some ⟨g, i * 3, none⟩) dl dc, .slice (some ⟨gb, 0, none⟩) 1 1]).run Tryd.prog w1 = .ok (goInt 1) (w1.setRow g cur2) := by
  intro dl dc hdl
  subst hdl
  rw [hcur2]
  exact run_copy_row (P := Tryd.prog) w1 24 3 38 g (i * 3) (n + 1 - i) dc 1 1 1 ⟨gb, 0, none⟩ r cur1 Tryd.underlying24 ent_sz (Nat.min_eq_left (by omega)) (by rw [hrl]) (news_at hr1') hh1 (by rw [hrl, hs1]; omega) hr1
 -- what then stands there
 have hfin : cur2.toList.take ((n + 1) * 3) = inner.take (i * 3) ++ r ++ b := by
  rw [hcur2, hcur1, Nat.succ_mul]
  exact ins_shift cur.toList (inner.take (i * 3)) r b (n * 3) (i * 3) (by rw [htk]) (by rw [htk, hbd]) (by omega) hrl (by rw [Array.length_toList, hcs]; omega)
 have hov : ∀ lb cb, (callFunc 86 #[.slice (some ⟨gb, 0, none⟩) 1 1, .slice (some ⟨g, (i + 1) * 3, none⟩) lb cb]).run Tryd.prog w = .ok (.value (.bool false)) w := fun lb cb => by
  rw [run_callFunc_extern Tryd.func86 (by kernel_rfl) (by kernel_rfl) (by kernel_rfl) (e := Extern.SlicesOverlaps.overlaps #[24, 24] #[4]) (by kernel_rfl),
   Lib.run_overlaps_apart w 24 4 38 Tryd.underlying24 3 (fun w => by kernel_rfl) ⟨gb, 0, none⟩ ⟨g, (i + 1) * 3, none⟩ 1 1 lb cb hgb 38 38 r.toArray.size cur.size (by simp [World.shape?, hr]) (by simp [World.shape?, hh]) (by omega) (by simp [World.frozen?, hr]) (by simp [World.frozen?, hr])]
  rfl
 have HF := Aside0.mk hfin
 have HS2 := Aside0.mk hs2
 have HBD := Aside0.mk hbd
 have HC1 := Aside0.mk hc1
 have HC2 := Aside0.mk hc2
 have HW1 := Aside0.mk hw1
 have HH := Aside0.mk hh
 have HH1 := Aside0.mk hh1
 have HIL := Aside0.mk hil
 have HC := Aside0.mk hc
 have HBG := Aside0.mk hb
 have HRL := Aside0.mk hrl
 have HBL := Aside0.mk hbl
 unfold maxLen at hc
 have b0 : (0 : Int) ≤ (i : Int) := by omega
 have b1 : (i : Int) ≤ (n : Int) := by omega
 have b2 : (n : Int) ≤ (c : Int) := by omega
 have b3 : (n : Int) + 1 ≤ (c : Int) := by omega
 have b4 : ¬ ((i : Int) = (n : Int)) := by omega
 have b5 : ¬ ((c : Int) < (n : Int) + 1) := by omega
 have b6 : (0 : Int) ≤ (n : Int) + 1 := by omega
 have b7 : (0 : Int) ≤ (i : Int) + 1 := by omega
 have b8 : (i : Int) + 1 ≤ (n : Int) + 1 := by omega
 have b9 : (i : Int) ≤ (n : Int) + 1 := by omega
 have b10 : (i : Int) + 1 ≤ ((n + 1 : Nat) : Int) := by omega
 have b11 : ((n + 1 : Nat) : Int) ≤ (c : Int) := by omega
 have b12 : (i : Int) ≤ ((n + 1 : Nat) : Int) := by omega
 have n1 : ¬ (c = i) := by omega
 have n2 : ¬ (c = i + 1) := by omega
 have n3 : n + 1 - (i + 1) = n - i := by omega
 clear hfin hs2 hbd hc1 hc2 hw1 hh1 hil hb hcs htk h1 hr hr1 hr1' hs1 hcur1 hcur2 hh hrl hbl hgb hnl hin
 go_enter Tryd.func54, Tryd.ntmps54
 go_upto_region 15 with (simp only [hov])
 clear b3 b5 b6 b8 b9 b10 b11 b12 n3
 obtain ⟨N, hN⟩ : ∃ N, n + 1 = N := ⟨_, rfl⟩
 have e1 : (0 : Int) ≤ (i : Int) + 1 := by omega
 have e2 : (i : Int) + 1 ≤ (N : Int) := by omega
 have e3 : (N : Int) ≤ (c : Int) := by omega
 have e4 : (i : Int) + 1 ≤ (c : Int) := by omega
 have e5 : (i : Int) ≤ (N : Int) := by omega
 have hwr : IntKind.i64.wrap ((i : Int) + 1) = (i : Int) + 1 := by rw [IntKind.wrap_i64]; omega
 rw [hN]
 have HNN := Aside0.mk hN
 clear hN
 go_region_held3 (fun _ => True) (trivial) (first
  | (refine step_copy_run2 (by rfl) (.tmp 73) (.tmp 76) 24 (by rfl) _ _ (by rfl) (by rfl) (HC1.out _ _ _ _ (by have := HNN.out; omega) (by have := HNN.out; omega)) ?_)
  | fail)
 rw [← HW1.out]
 go_wp2_with ((with_reducible refine gate_builtin (b := .copy) (xs := #[.tmp 80, .tmp 81]) rfl ?_); refine wpList_copy_run2 rfl (.tmp 80) (.tmp 81) 24 rfl _ _ rfl rfl (HC2.out _ _ (by have := HNN.out; omega)) ?_)
 obtain rfl : N = n + 1 := HNN.out.symm
 go_ret
 refine ⟨_, rfl, ⟨?_, .inr ⟨g, c, cur2, rfl, HBG.out, setRow_heap w1 g cur1 _ 38 _ HH1.out, hnc, HC.out, HS2.out, ?_⟩⟩, ?_, .inl rfl⟩
 ·
  rw [← HBD.out, List.length_append, List.length_append, HRL.out, HBL.out, List.length_take, HIL.out, Nat.sub_mul]
  have := Nat.mul_le_mul_right 3 (show i + 1 ≤ n from hi)
  omega
 ·
  rw [← HBD.out]; exact HF.out
 ·
  have h1 : w.grownBy (w.drew) (some g) := drewN_grown w 1 (some g)
  have h2 := setRow_grown w.drew g cur1
  rw [← HW1.out] at h2
  exact (h1.trans h2).trans (setRow_grown w1 g cur2)
set_option maxHeartbeats 4000000 in
set_option maxRecDepth 100000 in
/-- in the midst, and there is no room: a new row -/
theorem insert_grow (g n c i gb base : Nat) (inner r : List Value) (cur : Array Value) (w : World) (hh : w.heap[g]? = some (.cells cur 38 (0, 0))) (hcs : cur.size = c * 3) (htk : cur.toList.take (n * 3) = inner) (hil : inner.length = n * 3) (h1 : ∀ u ∈ inner, u.oneCell' = true) (hr : w.heap[gb]? = some (.cells r.toArray 38 (0, 0))) (hrl : r.length = 3) (hr1 : ∀ u ∈ r, u.oneCell' = true) (hi : i < n) (hn : n ≤ 1000) (hnc : n ≤ c) (hcn : c < n + 1) (hbase : base ≤ w.heap.size) :
 Calls Tryd.prog 54 #[.slice (some ⟨g, 0, none⟩) n c, .int .i64 (i : Int), .slice (some ⟨gb, 0, none⟩) 1 1] w (InsOut w base n i (.slice (some ⟨g, 0, none⟩) n c) inner r) := by
 obtain ⟨i0, hi0, hz0, hz1, hz2⟩ := ent_parts
 obtain ⟨b, hbd⟩ : ∃ b, b = inner.drop (i * 3) := ⟨_, rfl⟩
 have hbl : b.length = (n - i) * 3 := by rw [hbd, List.length_drop, hil, Nat.sub_mul]
 obtain ⟨a, had⟩ : ∃ a, a = inner.take (i * 3) := ⟨_, rfl⟩
 have hin : i * 3 + 3 ≤ n * 3 := by have := Nat.mul_le_mul_right 3 (show i + 1 ≤ n from hi); omega
 have hal : a.length = i * 3 := by rw [had, List.length_take, hil]; omega
 obtain ⟨G, hG⟩ : ∃ G, G = w.heap.size := ⟨_, rfl⟩
 obtain ⟨C, hC⟩ : ∃ C, C = grownCap w (n + 1) c 38 := ⟨_, rfl⟩
 have hCn : n + 1 ≤ C := by rw [hC]; exact grownCap_ge w (n + 1) c 38
 have hCm : C ≤ maxLen := by rw [hC]; exact grownCap_le_maxLen w (n + 1) c 38 (by unfold maxLen; omega)
 have hgl : g < G := by rw [hG]; exact blk_lt hh
 have hbll : gb < G := by rw [hG]; exact blk_lt hr
 -- the append of zeros
 have hrun := run_zeros_grow (P := Tryd.prog) w 24 3 24 38 i0 _ Tryd.underlying24 Tryd.underlying3 hi0 hz0 (by rw [hz1]; decide) g i (n + 1 - i) c a (by rw [hal, hz1])
  (row_cells hh 0 a (fun j u hj => by
   rw [had, List.getElem?_take] at hj
   split at hj
   ·
    rw [← htk, List.getElem?_take] at hj
    split at hj
    ·
     rw [Nat.zero_add]; exact hj
    ·
     cases hj
   ·
    cases hj)) .i64 (by omega) (by omega) (by omega) (by rw [hz2]; omega)
 rw [show i + (n + 1 - i) = n + 1 by omega, ← hC, ← hG] at hrun
 obtain ⟨Z, hZ⟩ : ∃ Z, Z = (Builtin.zeroCells (Value.agg #[.string ⟨#[]⟩, .int .i64 0, .slice none 0 0]).cells (n + 1 - i) ++ Builtin.zeroCells (Value.agg #[.string ⟨#[]⟩, .int .i64 0, .slice none 0 0]).cells (C - (n + 1))).toList := ⟨_, rfl⟩
 have hZl : Z.length = (C - i) * 3 := by
  rw [hZ, Array.length_toList, Array.size_append, size_zeroCells, size_zeroCells, show (Value.agg #[.string ⟨#[]⟩, .int .i64 0, .slice none 0 0]).cells.size = 3 from rfl, ← Nat.add_mul]
  congr 1
  omega
 obtain ⟨cur0, hcur0⟩ : ∃ cur0 : Array Value, cur0 = (a ++ Z).toArray := ⟨_, rfl⟩
 have e0 : a.toArray ++ Builtin.zeroCells (Value.agg #[.string ⟨#[]⟩, .int .i64 0, .slice none 0 0]).cells (n + 1 - i) ++ Builtin.zeroCells (Value.agg #[.string ⟨#[]⟩, .int .i64 0, .slice none 0 0]).cells (C - (n + 1)) = cur0 := by
  rw [hcur0, hZ]
  apply Array.ext'
  simp
 rw [e0] at hrun
 obtain ⟨w0, hw0⟩ : ∃ w0, w0 = w.drew.alloc (.cells cur0 38) := ⟨_, rfl⟩
 rw [← hw0] at hrun
 have hs0 : cur0.size = C * 3 := by
  rw [hcur0, List.size_toArray, List.length_append, hal, hZl, Nat.sub_mul]
  have := Nat.mul_le_mul_right 3 (show i ≤ C by omega)
  omega
 have hh0 : w0.heap[G]? = some (.cells cur0 38 (0, 0)) := by rw [hw0, hG]; exact heap_alloc_new w.drew _
 have hg0 : w0.heap[g]? = some (.cells cur 38 (0, 0)) := by rw [hw0]; exact blk_alloc (w := w.drew) hh _
 have hr0 : w0.heap[gb]? = some (.cells r.toArray 38 (0, 0)) := by rw [hw0]; exact blk_alloc (w := w.drew) hr _
 have hgr0 : w.grownBy w0 none := by
  rw [hw0]
  exact (drewN_grown w 1 none).trans (World.grownBy_alloc w.drew _ none)
 have hge := Nat.mul_le_mul_right 3 hCn
 rw [Nat.succ_mul] at hge
 -- the first copy
 obtain ⟨cur1, hcur1⟩ : ∃ cur1 : Array Value, cur1 = (cur0.toList.take (i * 3) ++ r ++ cur0.toList.drop (i * 3 + r.length)).toArray := ⟨_, rfl⟩
 have hs1 : cur1.size = C * 3 := by
  rw [hcur1, List.size_toArray, List.length_append, List.length_append, List.length_take, List.length_drop, Array.length_toList, hs0, hrl]
  omega
 obtain ⟨w1, hw1⟩ : ∃ w1, w1 = w0.setRow G cur1 := ⟨_, rfl⟩
 have hc1 : ∀ (dl dc : Nat), dl = n + 1 - i → (Builtin.copy_ #[24, 24] 3 #[.slice (some ⟨G, i * 3, none⟩) dl dc, .slice (some ⟨gb, 0, none⟩) 1 1]).run Tryd.prog w0 = .ok (goInt 1) w1 := by
  intro dl dc hdl
  subst hdl
  rw [hw1, hcur1]
  exact run_copy_row (P := Tryd.prog) w0 24 3 38 G (i * 3) (n + 1 - i) dc 1 1 1 ⟨gb, 0, none⟩ r cur0 Tryd.underlying24 ent_sz (Nat.min_eq_left (by omega)) (by rw [hrl]) (news_at hr0) hh0 (by rw [hrl, hs0]; omega) hr1
 have hh1 : w1.heap[G]? = some (.cells cur1 38 (0, 0)) := by rw [hw1]; exact setRow_heap w0 G cur0 _ 38 _ hh0
 have hg1 : w1.heap[g]? = some (.cells cur 38 (0, 0)) := by rw [hw1]; exact (setRow_far (W := w0) cur1 (by omega)).trans hg0
 -- the second
 obtain ⟨cur2, hcur2⟩ : ∃ cur2 : Array Value, cur2 = (cur1.toList.take (i * 3 + 3) ++ b ++ cur1.toList.drop (i * 3 + 3 + b.length)).toArray := ⟨_, rfl⟩
 have hs2 : cur2.size = C * 3 := by
  rw [hcur2, List.size_toArray, List.length_append, List.length_append, List.length_take, List.length_drop, Array.length_toList, hs1, hbl, Nat.sub_mul]
  omega
 have hc2 : ∀ (dl sl dc sc : Nat), dl = n - i → sl = n - i → (Builtin.copy_ #[24, 24] 3 #[.slice (some ⟨G, (i + 1) * 3, none⟩) dl dc, .slice (some ⟨g, i * 3, none⟩) sl sc]).run Tryd.prog w1.drew = .ok (goInt ((n - i : Nat) : Int)) (w1.drew.setRow G cur2) := by
  intro dl sl dc sc hdl hsl
  subst hdl hsl
  rw [hcur2, Nat.succ_mul]
  refine run_copy_row (P := Tryd.prog) w1.drew 24 3 38 G (i * 3 + 3) (n - i) dc (n - i) sc (n - i) ⟨g, i * 3, none⟩ b cur1 Tryd.underlying24 ent_sz (Nat.min_self _) hbl ?_ hh1 ?_ ?_
  ·
   refine row_cells (W := w1.drew) hg1 (i * 3) b (fun j u hj => ?_)
   rw [hbd, List.getElem?_drop] at hj
   rw [← htk, List.getElem?_take] at hj
   split at hj
   ·
    exact hj
   ·
    cases hj
  ·
   rw [hbl, hs1, Nat.sub_mul]; omega
  ·
   intro u hu
   rw [hbd] at hu
   exact h1 u (List.mem_of_mem_drop hu)
 have hfin : cur2.toList.take ((n + 1) * 3) = a ++ r ++ b := by
  rw [show (n + 1) * 3 = i * 3 + 3 + b.length by rw [hbl, Nat.sub_mul, Nat.succ_mul]; omega, hcur2, hcur1, hcur0]
  exact ins_grow a r b Z (i * 3) hal hrl (by rw [hZl, hbl, Nat.sub_mul, Nat.sub_mul]; omega)
 have HF := Aside0.mk hfin
 have HS2 := Aside0.mk hs2
 have HAD := Aside0.mk had
 have HBD := Aside0.mk hbd
 have HC1 := Aside0.mk hc1
 have HC2 := Aside0.mk hc2
 have HH1 := Aside0.mk hh1
 have HAL := Aside0.mk hal
 have HBL := Aside0.mk hbl
 have HRL := Aside0.mk hrl
 have HCM := Aside0.mk hCm
 have HG := Aside0.mk hG
 have HGB := Aside0.mk hbase
 have HG0 := Aside0.mk hgr0
 have HW1 := Aside0.mk hw1
 have HRUN := Aside0.mk (show (Builtin.append_ #[24, 3] 24 #[.slice (some ⟨g, 0, none⟩) i c, .int .i64 ((n : Int) + 1 - (i : Int))]).run Tryd.prog w = .ok (.slice (some ⟨G, 0, none⟩) (n + 1) C) w0 by
  rw [show (n : Int) + 1 - (i : Int) = ((n + 1 - i : Nat) : Int) by omega]; exact hrun)
 unfold maxLen at hCm
 clear hfin hs2 had hbd hc1 hc2 hh1 hal hbl hrl hG hbase hgr0 hw1 hrun hcs htk hil h1 hr hr1 hh hcur0 hcur1 hcur2 hs0 hs1 hh0 hg0 hr0 hg1 hw0 hZl hZ e0 hge hin hi0 hz0 hz1 hz2 hC
 have b0 : (0 : Int) ≤ (i : Int) := by omega
 have b1 : (i : Int) ≤ (n : Int) := by omega
 have b2 : (n : Int) ≤ (c : Int) := by omega
 have b3 : (c : Int) < (n : Int) + 1 := by omega
 have b4 : ¬ ((i : Int) = (n : Int)) := by omega
 have b5 : (i : Int) ≤ (c : Int) := by omega
 have n1 : ¬ (c = i) := by omega
 have hwr : IntKind.i64.wrap ((i : Int) + 1) = (i : Int) + 1 := by rw [IntKind.wrap_i64]; omega
 go_enter Tryd.func54, Tryd.ntmps54
 go_upto_region 10 with ((with_reducible refine gate_builtin (b := .append) (xs := #[.tmp 34, .tmp 39]) rfl ?_); at_builtin; refine Lib.wpList_append_run _ rfl (.tmp 34) (.tmp 39) 24 3 rfl _ _ rfl rfl _ _ HRUN.out ?_)
 obtain ⟨N, hN⟩ : ∃ N, n + 1 = N := ⟨_, rfl⟩
 have e0 : (0 : Int) ≤ (i : Int) + 1 := by omega
 have e1 : (i : Int) ≤ (N : Int) := by omega
 have e2 : (i : Int) + 1 ≤ (N : Int) := by omega
 have e3 : (N : Int) ≤ (C : Int) := by omega
 have e4 : (i : Int) + 1 ≤ (C : Int) := by omega
 have e5 : (i : Int) ≤ (C : Int) := by omega
 have e6 : ¬ (C = i) := by omega
 have e7 : ¬ (C = i + 1) := by omega
 rw [hN]
 have HNN := Aside0.mk hN
 clear hN b3
 go_upto_region 11 with ((with_reducible refine gate_builtin (b := .copy) (xs := #[.tmp 43, .tmp 44]) rfl ?_); refine wpList_copy_run2 rfl (.tmp 43) (.tmp 44) 24 rfl _ _ rfl rfl (HC1.out _ _ (by have := HNN.out; omega)) ?_)
 go_region_held3 (fun _ => True) (trivial) (first
  | (refine step_copy_run2 (by rfl) (.tmp 50) (.tmp 53) 24 (by rfl) _ _ (by rfl) (by rfl) (HC2.out _ _ _ _ (by have := HNN.out; omega) (by have := HNN.out; omega)) ?_)
  | fail)
 obtain rfl : N = n + 1 := HNN.out.symm
 go_wp2
 go_ret
 refine ⟨_, rfl, ⟨?_, .inr ⟨G, C, cur2, rfl, by rw [HG.out]; exact HGB.out, setRow_heap w1.drew G cur1 _ 38 _ HH1.out, hCn, HCM.out, HS2.out, ?_⟩⟩, ?_, .inr ⟨G, rfl, by rw [HG.out]; exact Nat.le_refl _⟩⟩
 ·
  rw [← HAD.out, ← HBD.out, List.length_append, List.length_append, HRL.out, HBL.out, HAL.out, Nat.sub_mul]
  have := Nat.mul_le_mul_right 3 (show i + 1 ≤ n from hi)
  omega
 ·
  rw [← HAD.out, ← HBD.out]; exact HF.out
 ·
  have hG := HG.out
  have h1 : w0.grownBy w1 (some G) := by rw [HW1.out]; exact setRow_grown w0 G cur1
  have h2 : w1.grownBy (w1.drew.setRow G cur2) (some G) := (drewN_grown w1 1 (some G)).trans (setRow_grown w1.drew G cur2)
  have h3 := HG0.out
  have h4 := h1.trans h2
  exact ⟨h4.os.trans h3.os, h4.tape.trans h3.tape, h4.output.trans h3.output, Nat.le_trans h3.size h4.size, fun k hk _ => (h4.block k (Nat.lt_of_lt_of_le hk h3.size) (fun e => by cases e; omega)).trans (h3.block k hk (by simp))⟩
/-- one element is put into a row of one's own -/
theorem insert_calls (A : Option Addr) (n c i gb base : Nat) (inner r : List Value) (w : World) (hown : w.ownsRow base 38 3 (.slice A n c) n inner) (h1 : ∀ u ∈ inner, u.oneCell' = true) (hr : w.heap[gb]? = some (.cells r.toArray 38 (0, 0))) (hrl : r.length = 3) (hr1 : ∀ u ∈ r, u.oneCell' = true) (hgb : (Value.slice A n c).ownBlock ≠ some gb) (hi : i ≤ n) (hn : n ≤ 1000) (hbase : base ≤ w.heap.size) :
 Calls Tryd.prog 54 #[.slice A n c, .int .i64 (i : Int), .slice (some ⟨gb, 0, none⟩) 1 1] w (InsOut w base n i (.slice A n c) inner r) := by
 rcases hown.2 with ⟨hv, hn0⟩ | ⟨g, cap, cur, hv, hb, hh, hnc, hcm, hcs, htk⟩
 ·
  injection hv with _ hn1 hc1
  subst hn1 hc1
  obtain rfl : i = 0 := by omega
  exact insert_end A 0 0 gb base inner r w hown hr hrl hr1 (by omega) (Nat.le_refl _) hbase
 ·
  injection hv with hA _ hc
  subst hA hc
  have hil : inner.length = n * 3 := hown.1
  by_cases hin : i = n
  ·
   subst hin
   exact insert_end _ i c gb base inner r w hown hr hrl hr1 hn hnc hbase
  ·
   by_cases hroom : n + 1 ≤ c
   ·
    exact insert_room g n c i gb base inner r cur w hcm hh hcs htk hil h1 hr hrl hr1 (fun e => hgb (by simp [Value.ownBlock, e])) (by omega) hn hroom hb
   ·
    exact insert_grow g n c i gb base inner r cur w hh hcs htk hil h1 hr hrl hr1 (by omega) hn hnc (by omega) hbase

end Go.Proofs.YtmacedbpdhkagaaDoor.Pure
namespace Go.Proofs.YtmacedbpdhkagaaDoor.Pure
set_option linter.unusedVariables false
set_option linter.unusedSimpArgs false
open Go Go.RowKit Go.Proofs.YtmacedbpdhkagaaDoor.PFnTonaryJoin Go.Proofs.YtmacedbpdhkagaaDoorW.PrintWords Go.Proofs.YtmacedbpdhkagaaDoorW.PrintLast Go.Proofs.YtmacedbpdhkagaaDoorW.PrintMore

theorem ins_lo (inner r : List Value) (i j : Nat) (h : i * 3 ≤ inner.length) (hj : j < i) : ((inner.take (i * 3) ++ r ++ inner.drop (i * 3)).drop (j * 3)).take 3 = (inner.drop (j * 3)).take 3 := by
 have := Nat.mul_le_mul_right 3 (show j + 1 ≤ i from hj)
 rw [List.append_assoc, List.drop_append_of_le_length (by rw [List.length_take]; omega), List.take_append_of_le_length (by rw [List.length_drop, List.length_take]; omega), List.drop_take, List.take_take, Nat.min_eq_left (by omega)]
theorem ins_mid (inner r : List Value) (i : Nat) (h : i * 3 ≤ inner.length) (hr : r.length = 3) : ((inner.take (i * 3) ++ r ++ inner.drop (i * 3)).drop (i * 3)).take 3 = r := by
 rw [List.append_assoc, List.drop_left' (by rw [List.length_take]; omega)]
 exact List.take_left' hr
theorem ins_hi (inner r : List Value) (i j : Nat) (h : i * 3 ≤ inner.length) (hr : r.length = 3) (hj : i ≤ j) : ((inner.take (i * 3) ++ r ++ inner.drop (i * 3)).drop ((j + 1) * 3)).take 3 = (inner.drop (j * 3)).take 3 := by
 have := Nat.mul_le_mul_right 3 hj
 have hl : (inner.take (i * 3) ++ r).length = i * 3 + 3 := by rw [List.length_append, List.length_take, hr]; omega
 rw [List.drop_append, List.drop_of_length_le (by rw [hl]; omega), List.nil_append, hl, List.drop_drop]
 congr 2
 omega
open Classical in
theorem insert_S (v : Value) (xs : List S38) (x : S38) (i gb base : Nat) (r : List Value) (ok okp ok' : Nat → Prop) (w : World) (hS : Kd.S k38 38 w base ok v xs) (hM : k38.M w base okp x r) (hdis : ∀ k, okp k → ¬ ok k) (h1 : ∀ k, ok k → ok' k) (h2 : ∀ k, okp k → ok' k) (h3 : ∀ k, w.heap.size ≤ k → ok' k)
 (hr : w.heap[gb]? = some (.cells r.toArray 38 (0, 0))) (hgb : v.ownBlock ≠ some gb) (hi : i ≤ xs.length) (hn : xs.length ≤ 1000) (hbase : base ≤ w.heap.size) :
 Calls Tryd.prog 54 #[v, .int .i64 (i : Int), .slice (some ⟨gb, 0, none⟩) 1 1] w fun e w' => ∃ v', e = .returned v' ∧ Kd.S k38 38 w' base ok' v' (xs.take i ++ x :: xs.drop i) ∧ w.grownBy w' v.ownBlock ∧ (v'.ownBlock = v.ownBlock ∨ ∃ b, v'.ownBlock = some b ∧ w.heap.size ≤ b) := by
 obtain ⟨A, c, hv⟩ := Kd.S_slice hS
 obtain ⟨f, h0, inner, hown, hrr⟩ := hS
 rw [List.length_zipIdx] at hown
 have hrl : r.length = 3 := k38.K_len (k38.K_of_M hM)
 have hr1 := k38.K_one (k38.K_of_M hM)
 have hil : inner.length = xs.length * 3 := hown.1
 have hones := ones_of (d := Kd.tag f k38) (Nat.zero_lt_succ 2) hrr
 have hile : i * 3 ≤ inner.length := by rw [hil]; exact Nat.mul_le_mul_right 3 hi
 subst hv
 refine (insert_calls A xs.length c i gb base inner r w hown hones hr hrl hr1 hgb hi hn hbase).mono ?_
 rintro e w' ⟨v', rfl, ho, hg, hat⟩
 have hne : ∀ k, some k ≠ (Value.slice A xs.length c).ownBlock → k < w.heap.size → some k ≠ v'.ownBlock := by
  intro k hk hlt
  rcases hat with hat | ⟨b, hb, hle⟩
  ·
   rw [hat]; exact hk
  ·
   rw [hb]
   intro he
   injection he with he
   omega
 have step : ∀ {q : S38} {cs : List Value} {o : Nat → Prop}, k38.M w base o q cs → (∀ k, o k → some k ≠ (Value.slice A xs.length c).ownBlock) → k38.M w' base (fun k => o k ∧ some k ≠ v'.ownBlock) q cs := by
  intro q cs o hq hh
  have h1 := k38.M_move (w1 := w') (fun k hk => hg.block k hk.2.2.1 (hh k hk.1)) (k38.M_bound hq)
  exact k38.M_mono (fun k hk => ⟨hk.1, hne k (hh k hk.1) hk.2.2.1⟩) h1
 have hlen : (xs.take i ++ x :: xs.drop i).length = xs.length + 1 := by rw [List.length_append, List.length_cons, List.length_take, List.length_drop]; omega
 refine ⟨v', rfl, ⟨fun k => if okp k then i else if f k < i then f k else f k + 1, fun k hk => ?_, _, by rw [List.length_zipIdx, hlen]; exact ho, by rw [List.length_zipIdx, hlen]; exact ho.1, fun j p hj => ?_⟩, hg, hat⟩
 ·
  rcases hat with hat | ⟨b, hb, hle⟩
  ·
   exact h1 k (h0 k (hat ▸ hk))
  ·
   rw [hb] at hk
   injection hk with hk
   exact h3 k (by omega)
 ·
  rw [List.getElem?_zipIdx, Nat.zero_add] at hj
  obtain ⟨q, hq, rfl⟩ := Option.map_eq_some_iff.1 hj
  rcases Nat.lt_trichotomy j i with hji | rfl | hji
  ·
   have hq' : xs[j]? = some q := by
    rw [List.getElem?_append_left (by rw [List.length_take]; omega), List.getElem?_take, if_pos hji] at hq
    exact hq
   have hm := hrr.2 j (q, j) (by rw [List.getElem?_zipIdx, hq']; simp)
   show k38.M w' base _ q _
   rw [show (Kd.tag f k38).sz = 3 from rfl] at hm
   have e1 := ins_lo inner r i j hile hji
   refine k38.M_mono (fun k hk => ?_) ((congrArg (k38.M w' base _ q) e1).mpr (step hm (fun k hk => hk.1.2)))
   refine ⟨⟨h1 k hk.1.1.1, hk.2⟩, ?_⟩
   have hf : f k = j := hk.1.2
   show (if okp k then i else if f k < i then f k else f k + 1) = j
   rw [if_neg (fun h => hdis k h hk.1.1.1), if_pos (by omega)]; exact hf
  ·
   have hq' : q = x := by
    rw [List.getElem?_append_right (by rw [List.length_take]; omega), List.length_take, Nat.min_eq_left hi, Nat.sub_self] at hq
    exact (Option.some.inj hq).symm
   subst hq'
   show k38.M w' base _ q _
   have e1 := ins_mid inner r j hile hrl
   refine k38.M_mono (fun k hk => ?_) ((congrArg (k38.M w' base _ q) e1).mpr (step hM (fun k hk e => hdis k hk (h0 k e.symm))))
   refine ⟨⟨h2 k hk.1, hk.2⟩, ?_⟩
   show (if okp k then j else if f k < j then f k else f k + 1) = j
   rw [if_pos hk.1]
  ·
   obtain ⟨j, rfl⟩ : ∃ j', j = j' + 1 := ⟨j - 1, by omega⟩
   have hq' : xs[j]? = some q := by
    rw [List.getElem?_append_right (by rw [List.length_take]; omega), List.length_take, Nat.min_eq_left hi, show j + 1 - i = (j - i) + 1 by omega, List.getElem?_cons_succ, List.getElem?_drop] at hq
    rw [← hq]; congr 1; omega
   have hm := hrr.2 j (q, j) (by rw [List.getElem?_zipIdx, hq']; simp)
   show k38.M w' base _ q _
   rw [show (Kd.tag f k38).sz = 3 from rfl] at hm
   have e1 := ins_hi inner r i j hile hrl (by omega)
   refine k38.M_mono (fun k hk => ?_) ((congrArg (k38.M w' base _ q) e1).mpr (step hm (fun k hk => hk.1.2)))
   refine ⟨⟨h1 k hk.1.1.1, hk.2⟩, ?_⟩
   have hf : f k = j := hk.1.2
   show (if okp k then i else if f k < i then f k else f k + 1) = j + 1
   rw [if_neg (fun h => hdis k h hk.1.1.1), if_neg (by omega), hf]

end Go.Proofs.YtmacedbpdhkagaaDoor.Pure
namespace Go.Proofs.YtmacedbpdhkagaaDoor.Pure
set_option linter.unusedVariables false
set_option linter.unusedSimpArgs false
open Go Go.RowKit Go.Proofs.YtmacedbpdhkagaaDoor.PFnTonaryJoin Go.Proofs.YtmacedbpdhkagaaDoorW.PrintWords Go.Proofs.YtmacedbpdhkagaaDoorW.PrintLast Go.Proofs.YtmacedbpdhkagaaDoorW.PrintMore

def tonAddI (L : List S38) (e : S38) : List S38 × Bool :=
 if tonOk L = true then
  if entOk e = true then
   if L.length = 20 then ([], false)
   else if nmHas (L.filter (fun x => x.f1 == e.f1)) e.f0 = true then ([], false)
   else (catM (fun j => if j = e.f1 then (L.filter (fun x => x.f1 == e.f1)).take (nmAt (L.filter (fun x => x.f1 == e.f1)) e.f0) ++ e :: (L.filter (fun x => x.f1 == e.f1)).drop (nmAt (L.filter (fun x => x.f1 == e.f1)) e.f0) else L.filter (fun x => x.f1 == j)) 8, true)
  else ([], false)
 else ([], false)
set_option maxHeartbeats 4000000 in
set_option maxRecDepth 100000 in
theorem impl_TonaryAdd_calls (L : List S38) (e : S38) (A0 : Option Addr) (c0 : Nat) (Ae : Option Addr) (ce : Nat) (w : World) (ht : MTab w) (hr0 : Kd.C k38 w A0 L.length L) (hc0 : L.length ≤ c0) (hre : Kd.C k90 w Ae e.f2.length e.f2) (hce : e.f2.length ≤ ce) (hz : entSz L = true) (hze : e.f0.size ≤ 9000000000000000 ∧ e.f2.length ≤ 1000000000000) :
 Calls Tryd.prog 38 #[.slice A0 L.length c0, .agg #[.string e.f0, .int .i64 e.f1, .slice Ae e.f2.length ce]] w fun r w' => ∃ v, r = .returned (.tuple #[v, .bool (tonAddI L e).2]) ∧ Kd.S k38 38 w' w.heap.size (fun _ => True) v (tonAddI L e).1 ∧ Below w.heap.size w w' := by
 have hu1 := Tryd.underlying38
 have HT := Aside0.mk ht
 have HR0 := Aside0.mk hr0
 have HC0 := Aside0.mk hc0
 have HRE := Aside0.mk hre
 have HCE := Aside0.mk hce
 have HZ := Aside0.mk (entSz_all hz)
 have hfl : e.f2.length ≤ 1000000000000 := hze.2
 obtain ⟨kv, hkv⟩ := Ev.rounds (impl_Entry_valid_ev e (by have := hze.1; omega))
 have HKV := Aside0.mk hkv
 have HOF := Aside0.mk (fun (w3 : World) (hb : Below w.heap.size w w3) => impl_tonaryOf_calls L A0 c0 w3 (ht.below hb) (Kd.C_below hr0 hb) hc0 (entSz_all hz))
 clear ht hr0 hc0 hre hce hz hze hkv
 unfold tonAddI
 cases hk : tonOk L
 ·
  rw [hk] at HOF
  rw [if_neg (by decide)]
  clear hk
  go_enter Tryd.func38, Tryd.ntmps38
  go_wp2_with (first
   | ((with_reducible refine gate_dst (N := 3) rfl ?_); refine box_event ?hg (N := 3) ?hd (cs := #[.string e.f0, .int .i64 e.f1, .slice Ae e.f2.length ce]) (t := 38) ?hr ?_; (case hd => rfl); (case hg => rfl); (case hr => first | (go_simp; done) | (go_simp; rfl)); intro g3 hg w3 hbox hb; have HK3 := Aside0.mk hbox; have HB3 := Aside0.mk hb; have N3 := Aside0.mk (show w.heap.size ≤ g3 from (by rw [hg]; exact Nat.le_refl _)); have N33 := Aside0.mk (blk_lt hbox); clear hg hbox hb)
   | (go_at_call 52; refine (HOF.out _ HB3.out).mono ?_; rintro e_ w1 ⟨p, rfl, hm, hb⟩; have HB := Aside0.mk hb; have HM0 := Aside0.mk hm; clear hm hb))
  go_ret2
  exact ⟨_, rfl, Kd.S_nil _ _ _ _ _, below_step HB3.out HB.out⟩
 rw [hk] at HOF
 rw [if_pos rfl]
 have HOK := Aside0.mk ((tonOk_iff L).1 hk)
 clear hk
 cases hve : entOk e
 ·
  rw [hve] at HKV
  rw [if_neg (by decide)]
  clear hve
  go_enter Tryd.func38, Tryd.ntmps38
  go_upto_region 2 with (first
   | ((with_reducible refine gate_dst (N := 3) rfl ?_); refine box_event ?hg (N := 3) ?hd (cs := #[.string e.f0, .int .i64 e.f1, .slice Ae e.f2.length ce]) (t := 38) ?hr ?_; (case hd => rfl); (case hg => rfl); (case hr => first | (go_simp; done) | (go_simp; rfl)); intro g3 hg w3 hbox hb; have HK3 := Aside0.mk hbox; have HB3 := Aside0.mk hb; have N3 := Aside0.mk (show w.heap.size ≤ g3 from (by rw [hg]; exact Nat.le_refl _)); have N33 := Aside0.mk (blk_lt hbox); clear hg hbox hb)
   | (go_at_call 52; refine (HOF.out _ HB3.out).mono ?_; rintro e_ w1 ⟨p, rfl, hm, hb⟩; obtain ⟨M, rfl, own, F, hta⟩ := hm rfl; have HB := Aside0.mk hb; have HTA := Aside0.mk hta; clear hm hb hta))
  have K1 := Aside0.mk (blk_below HK3.out HB.out)
  have y0 : w1.cell? ⟨g3, 0, none⟩ = some (.string e.f0) := (blk_cell K1.out 0).trans rfl
  have y1 : w1.cell? ⟨g3, 1, none⟩ = some (.int .i64 e.f1) := (blk_cell K1.out 1).trans rfl
  have y2 : w1.cell? ⟨g3, 2, none⟩ = some (.slice Ae e.f2.length ce) := (blk_cell K1.out 2).trans rfl
  have HB13 := Aside0.mk (below_step HB3.out HB.out)
  go_wp2_with (go_at_call 73; refine (impl_Entry_valid.calls kv e.f0 e.f1 Ae ce e.f2 false _ (HT.out.below HB13.out) (Kd.C_below HRE.out HB13.out) HCE.out HKV.out).mono ?_; rintro e_ w8 ⟨rfl, hb8⟩; have HB8 := Aside0.mk hb8; clear hb8)
  go_ret2
  exact ⟨_, rfl, Kd.S_nil _ _ _ _ _, below_step HB13.out HB8.out⟩
 rw [hve] at HKV
 rw [if_pos rfl]
 clear hve
 by_cases h20 : L.length = 20
 ·
  rw [if_pos h20]
  have d20 : ((L.length : Int) == 20) = true := by rw [h20]; rfl
  have i20 : (L.length : Int) = 20 := by omega
  clear h20
  go_enter Tryd.func38, Tryd.ntmps38
  go_upto_region 2 with (first
   | ((with_reducible refine gate_dst (N := 3) rfl ?_); refine box_event ?hg (N := 3) ?hd (cs := #[.string e.f0, .int .i64 e.f1, .slice Ae e.f2.length ce]) (t := 38) ?hr ?_; (case hd => rfl); (case hg => rfl); (case hr => first | (go_simp; done) | (go_simp; rfl)); intro g3 hg w3 hbox hb; have HK3 := Aside0.mk hbox; have HB3 := Aside0.mk hb; have N3 := Aside0.mk (show w.heap.size ≤ g3 from (by rw [hg]; exact Nat.le_refl _)); have N33 := Aside0.mk (blk_lt hbox); clear hg hbox hb)
   | (go_at_call 52; refine (HOF.out _ HB3.out).mono ?_; rintro e_ w1 ⟨p, rfl, hm, hb⟩; obtain ⟨M, rfl, own, F, hta⟩ := hm rfl; have HB := Aside0.mk hb; have HTA := Aside0.mk hta; clear hm hb hta))
  have K1 := Aside0.mk (blk_below HK3.out HB.out)
  have y0 : w1.cell? ⟨g3, 0, none⟩ = some (.string e.f0) := (blk_cell K1.out 0).trans rfl
  have y1 : w1.cell? ⟨g3, 1, none⟩ = some (.int .i64 e.f1) := (blk_cell K1.out 1).trans rfl
  have y2 : w1.cell? ⟨g3, 2, none⟩ = some (.slice Ae e.f2.length ce) := (blk_cell K1.out 2).trans rfl
  have HB13 := Aside0.mk (below_step HB3.out HB.out)
  go_wp2_with (go_at_call 73; refine (impl_Entry_valid.calls kv e.f0 e.f1 Ae ce e.f2 true _ (HT.out.below HB13.out) (Kd.C_below HRE.out HB13.out) HCE.out HKV.out).mono ?_; rintro e_ w8 ⟨rfl, hb8⟩; have HB8 := Aside0.mk hb8; clear hb8)
  go_ret2
  exact ⟨_, rfl, Kd.S_nil _ _ _ _ _, below_step HB13.out HB8.out⟩
 rw [if_neg h20]
 have i20 : ¬ ((L.length : Int) = 20) := by omega
 clear h20
 obtain ⟨X, hX⟩ : ∃ X, X = L.filter (fun x => x.f1 == e.f1) := ⟨_, rfl⟩
 rw [← hX]
 have hXl : X.length ≤ 20 := by rw [hX]; exact Nat.le_trans (List.length_filter_le _ _) HOK.out.1
 have HX := Aside0.mk hX
 have hfc := fun (w1 : World) (base M : Nat) (own : Nat → Int) (F : Int → Option Value) (hta : TonAt w1 base M own F (fun k => L.filter (fun x => x.f1 == k))) => find_calls w1 base M own F _ e.f1 e.f0 hta (by rw [← HX.out]; omega) (srt_names HOK.out.2.2 e.f1)
 rw [← hX] at hfc
 obtain ⟨i, hi⟩ : ∃ i, i = nmAt X e.f0 := ⟨_, rfl⟩
 have hil : i ≤ X.length := by rw [hi]; exact nmAt_le X e.f0
 rw [← hi] at hfc ⊢
 have HFC := Aside0.mk hfc
 clear hfc hX hi
 cases hf : nmHas X e.f0
 ·
  rw [hf] at HFC
  rw [if_neg (by decide)]
  clear hf
  go_enter Tryd.func38, Tryd.ntmps38
  go_upto_region 2 with (first
   | ((with_reducible refine gate_dst (N := 3) rfl ?_); refine box_event ?hg (N := 3) ?hd (cs := #[.string e.f0, .int .i64 e.f1, .slice Ae e.f2.length ce]) (t := 38) ?hr ?_; (case hd => rfl); (case hg => rfl); (case hr => first | (go_simp; done) | (go_simp; rfl)); intro g3 hg w3 hbox hb; have HK3 := Aside0.mk hbox; have HB3 := Aside0.mk hb; have N3 := Aside0.mk (show w.heap.size ≤ g3 from (by rw [hg]; exact Nat.le_refl _)); have N33 := Aside0.mk (blk_lt hbox); clear hg hbox hb)
   | (go_at_call 52; refine (HOF.out _ HB3.out).mono ?_; rintro e_ w1 ⟨p, rfl, hm, hb⟩; obtain ⟨M, rfl, own, F, hta⟩ := hm rfl; have HB := Aside0.mk hb; have HTA := Aside0.mk hta; clear hm hb hta))
  have K1 := Aside0.mk (blk_below HK3.out HB.out)
  have y0 : w1.cell? ⟨g3, 0, none⟩ = some (.string e.f0) := (blk_cell K1.out 0).trans rfl
  have y1 : w1.cell? ⟨g3, 1, none⟩ = some (.int .i64 e.f1) := (blk_cell K1.out 1).trans rfl
  have y2 : w1.cell? ⟨g3, 2, none⟩ = some (.slice Ae e.f2.length ce) := (blk_cell K1.out 2).trans rfl
  have HB13 := Aside0.mk (below_step HB3.out HB.out)
  go_upto_region 4 with (go_at_call 73; refine (impl_Entry_valid.calls kv e.f0 e.f1 Ae ce e.f2 true _ (HT.out.below HB13.out) (Kd.C_below HRE.out HB13.out) HCE.out HKV.out).mono ?_; rintro e_ w8 ⟨rfl, hb8⟩; have HB8 := Aside0.mk hb8; clear hb8)
  have HTA8 := Aside0.mk (HTA.out.below HB8.out)
  have K8 := Aside0.mk (blk_below K1.out HB8.out)
  have HB138 := Aside0.mk (below_step HB13.out HB8.out)
  clear y0 y1 y2
  have y0 : w8.cell? ⟨g3, 0, none⟩ = some (.string e.f0) := (blk_cell K8.out 0).trans rfl
  have y1 : w8.cell? ⟨g3, 1, none⟩ = some (.int .i64 e.f1) := (blk_cell K8.out 1).trans rfl
  go_upto_region 7 with (go_at_call 53; refine (HFC.out _ _ M own F HTA8.out).mono ?_; rintro e_ w2 ⟨rfl, hb2⟩; have HB2 := Aside0.mk hb2; clear hb2)
  have HTA2 := Aside0.mk (HTA8.out.below HB2.out)
  have K2 := Aside0.mk (blk_below K8.out HB2.out)
  have HB32 := Aside0.mk (below_step HB.out (below_step HB8.out HB2.out))
  have HBW2 := Aside0.mk (below_step HB138.out HB2.out)
  clear y0 y1 HB13 HB138 HTA8 K8 K1 HK3 HTA HB
  have y0 : w2.drew.cell? ⟨g3, 0, none⟩ = some (.string e.f0) := (blk_cell K2.out 0).trans rfl
  have y1 : w2.drew.cell? ⟨g3, 1, none⟩ = some (.int .i64 e.f1) := (blk_cell K2.out 1).trans rfl
  have y2 : w2.drew.cell? ⟨g3, 2, none⟩ = some (.slice Ae e.f2.length ce) := (blk_cell K2.out 2).trans rfl
  obtain ⟨v0, hv0⟩ : ∃ v0, v0 = (F e.f1).getD (.slice none 0 0) := ⟨_, rfl⟩
  have HV0 := Aside0.mk hv0
  clear hv0
  have lkA : (Instr.lookup 72 (.map (some M)) (.int .i64 e.f1) false).run Tryd.prog w2.drew = .ok v0 w2.drew := by rw [HV0.out]; exact (HTA2.out.below (below_drew1 (Below.refl _ _))).look e.f1
  have HCP := Aside0.mk (show impl_Entry_copied.f e.f0 e.f1 e.f2 = some (e.f0, e.f1, e.f2) by unfold impl_Entry_copied.f impl_copiedTones.f; rw [if_pos hfl]; rfl)
  have HGD := Aside0.mk (show Kd.C k90 w2.drew Ae e.f2.length e.f2 from Kd.C_drew (Kd.C_below HRE.out HBW2.out))
  have N32 := Aside0.mk (show g3 < w2.heap.size from Nat.lt_of_lt_of_le (blk_lt K2.out) (Nat.le_refl _))
  have NE3 : Aside0 (some g3 ≠ v0.ownBlock) := ⟨fun h => by
   have h1 := Kd.S_base (HTA2.out.row e.f1) g3 (by rw [← HV0.out]; exact h.symm)
   have h2 := N33.out
   omega⟩
  have NM3 : Aside0 (g3 ≠ M) := ⟨by have h1 := HTA2.out.1; have h2 := N33.out; omega⟩
  go_region_held3 (fun w' => w'.cell? ⟨g3, 0, none⟩ = some (.string e.f0) ∧ w'.cell? ⟨g3, 1, none⟩ = some (.int .i64 e.f1) ∧ w'.cell? ⟨g3, 2, none⟩ = some (.slice Ae e.f2.length ce))
   (first
    | exact ⟨y0, y1, y2⟩
    | go_keep
    | exact ⟨pw_cell_below hb12 y0, pw_cell_below hb12 y1, pw_cell_below hb12 y2⟩
    | exact ⟨pw_cell_below (below_alloc (Below.refl _ _) _) (pw_cell_below hb12 y0), pw_cell_below (below_alloc (Below.refl _ _) _) (pw_cell_below hb12 y1), pw_cell_below (below_alloc (Below.refl _ _) _) (pw_cell_below hb12 y2)⟩
    | exact ⟨cell_grown hg13 (pw_cell_below (below_alloc (Below.refl _ _) _) (pw_cell_below hb12 y0)) NE3.out, cell_grown hg13 (pw_cell_below (below_alloc (Below.refl _ _) _) (pw_cell_below hb12 y1)) NE3.out, cell_grown hg13 (pw_cell_below (below_alloc (Below.refl _ _) _) (pw_cell_below hb12 y2)) NE3.out⟩
    | exact ⟨cell_setBlock (cell_grown hg13 (pw_cell_below (below_alloc (Below.refl _ _) _) (pw_cell_below hb12 y0)) NE3.out) NM3.out, cell_setBlock (cell_grown hg13 (pw_cell_below (below_alloc (Below.refl _ _) _) (pw_cell_below hb12 y1)) NE3.out) NM3.out, cell_setBlock (cell_grown hg13 (pw_cell_below (below_alloc (Below.refl _ _) _) (pw_cell_below hb12 y2)) NE3.out) NM3.out⟩
    | fail)
   (first
    | (go_at_call 55; (with_reducible refine (impl_Entry_copied.calls e.f0 e.f1 Ae ce e.f2 e.f0 e.f1 e.f2 w2.drew HGD.out HCE.out HCP.out).mono ?_); rintro e_ w12 ⟨v2, rfl, ho2, hb12⟩; obtain ⟨Av, cv, rfl⟩ := Kd.R_slice ho2; have hbW : Below w2.heap.size w2 w12 := below_step (below_drew1 (Below.refl _ _)) hb12; have lkB := (HTA2.out.below hbW).look e.f1; rw [← HV0.out] at lkB; have hbA : Below w2.heap.size w2 (w12.alloc (.cells #[.string e.f0, .int .i64 e.f1, .slice Av e.f2.length cv] 38 (0, 0))) := below_step hbW (below_alloc (Below.refl _ _) _); have lkC := (HTA2.out.below hbA).look e.f1; rw [← HV0.out] at lkC; have HM2 := Aside0.mk (Kd.M_alloc (k38_mkM w12 w3.heap.size (fun b => w2.heap.size ≤ b) e (Kd.R_lower (Kd.R_mono (Kd.R_bound ho2) (fun b hb => hb.2.1)) HB32.out.size)) (.cells #[.string e.f0, .int .i64 e.f1, .slice Av e.f2.length cv] 38 (0, 0))); have HO12 := Aside0.mk (show Kd.S k38 38 (w12.alloc (.cells #[.string e.f0, .int .i64 e.f1, .slice Av e.f2.length cv] 38 (0, 0))) w3.heap.size (fun b => (own b = e.f1 ∧ b ≠ M) ∧ b < w2.heap.size) v0 X by (rw [HV0.out, HX.out]; exact Kd.S_below (TonAt.bound (HTA2.out.row e.f1)) hbA)); have HBA := Aside0.mk hbA; have HBWW := Aside0.mk hbW; clear ho2 hbW hbA)
    | (go_at_call 54; refine (insert_S v0 X e i w12.heap.size w3.heap.size [.string e.f0, .int .i64 e.f1, .slice Av e.f2.length cv] (fun b => (own b = e.f1 ∧ b ≠ M) ∧ b < w2.heap.size) (fun b => w2.heap.size ≤ b) (fun b => (own b = e.f1 ∧ b ≠ M) ∨ w2.heap.size ≤ b) _ HO12.out HM2.out (fun k hk h => by omega) (fun k hk => .inl hk.1) (fun k hk => .inr hk) (fun k hk => .inr (Nat.le_trans HBA.out.size hk)) (blk_new w12 _) (fun h => HTA2.out.ne e.f1 w12.heap.size HBWW.out.size (by rw [← HV0.out]; exact h.symm)) hil (by omega) (Nat.le_trans HB32.out.size HBA.out.size)).mono ?_; rintro e_ w13 ⟨v13, rfl, ho13, hg13, hat13⟩; obtain ⟨es, clk, hput, hmap⟩ := TonAt.append HTA2.out HBA.out (by rw [← HV0.out]; exact hg13) ho13; have HMAP := Aside0.mk hmap; have HB13 := Aside0.mk (pw_below_grown (below_step HB32.out HBA.out) _ (below_step HB32.out HBA.out).size hg13 (fun k e_ => Kd.S_base HO12.out k e_)); clear hmap ho13 hat13)
    | fail)
  all_goals
   have HBE := Aside0.mk (below_setBlock HB13.out HTA2.out.1 (o := .map es clk))
   have HMX := Aside0.mk (HMAP.out.cong (G' := fun j => if j = e.f1 then X.take i ++ e :: X.drop i else L.filter (fun x => x.f1 == j)) (fun j => rfl))
   clear HB13 HMAP hput hg13 hb12
   generalize ChangeMaps.setBlock w13 M (.map es clk) = w14 at HBE HMX ⊢
   have HL := Aside0.mk (impl_list_calls w3 w14 M _ HBE.out HMX.out (fun k => by
    show (if k = e.f1 then X.take i ++ e :: X.drop i else L.filter (fun x => x.f1 == k)).length ≤ 1000
    split
    ·
     rw [List.length_append, List.length_cons, List.length_take, List.length_drop]; omega
    ·
     exact Nat.le_trans (List.length_filter_le _ _) (by have := HOK.out.1; omega)))
   go_wp2_with (go_at_call 57; refine HL.out.mono ?_; rintro e_ w7 ⟨v, rfl, ho7, hb7⟩; have HO7 := Aside0.mk ho7; have HB7 := Aside0.mk hb7; clear ho7 hb7)
   go_ret2
   exact ⟨_, rfl, Kd.S_lower HO7.out HB3.out.size, below_step HB3.out HB7.out⟩
 ·
  rw [hf] at HFC
  rw [if_pos rfl]
  clear hf
  go_enter Tryd.func38, Tryd.ntmps38
  go_upto_region 2 with (first
   | ((with_reducible refine gate_dst (N := 3) rfl ?_); refine box_event ?hg (N := 3) ?hd (cs := #[.string e.f0, .int .i64 e.f1, .slice Ae e.f2.length ce]) (t := 38) ?hr ?_; (case hd => rfl); (case hg => rfl); (case hr => first | (go_simp; done) | (go_simp; rfl)); intro g3 hg w3 hbox hb; have HK3 := Aside0.mk hbox; have HB3 := Aside0.mk hb; have N3 := Aside0.mk (show w.heap.size ≤ g3 from (by rw [hg]; exact Nat.le_refl _)); have N33 := Aside0.mk (blk_lt hbox); clear hg hbox hb)
   | (go_at_call 52; refine (HOF.out _ HB3.out).mono ?_; rintro e_ w1 ⟨p, rfl, hm, hb⟩; obtain ⟨M, rfl, own, F, hta⟩ := hm rfl; have HB := Aside0.mk hb; have HTA := Aside0.mk hta; clear hm hb hta))
  have K1 := Aside0.mk (blk_below HK3.out HB.out)
  have y0 : w1.cell? ⟨g3, 0, none⟩ = some (.string e.f0) := (blk_cell K1.out 0).trans rfl
  have y1 : w1.cell? ⟨g3, 1, none⟩ = some (.int .i64 e.f1) := (blk_cell K1.out 1).trans rfl
  have y2 : w1.cell? ⟨g3, 2, none⟩ = some (.slice Ae e.f2.length ce) := (blk_cell K1.out 2).trans rfl
  have HB13 := Aside0.mk (below_step HB3.out HB.out)
  go_upto_region 4 with (go_at_call 73; refine (impl_Entry_valid.calls kv e.f0 e.f1 Ae ce e.f2 true _ (HT.out.below HB13.out) (Kd.C_below HRE.out HB13.out) HCE.out HKV.out).mono ?_; rintro e_ w8 ⟨rfl, hb8⟩; have HB8 := Aside0.mk hb8; clear hb8)
  have HTA8 := Aside0.mk (HTA.out.below HB8.out)
  have K8 := Aside0.mk (blk_below K1.out HB8.out)
  have HB138 := Aside0.mk (below_step HB13.out HB8.out)
  clear y0 y1 y2
  have y0 : w8.cell? ⟨g3, 0, none⟩ = some (.string e.f0) := (blk_cell K8.out 0).trans rfl
  have y1 : w8.cell? ⟨g3, 1, none⟩ = some (.int .i64 e.f1) := (blk_cell K8.out 1).trans rfl
  go_wp2_with (go_at_call 53; refine (HFC.out _ _ M own F HTA8.out).mono ?_; rintro e_ w2 ⟨rfl, hb2⟩; have HB2 := Aside0.mk hb2; clear hb2)
  go_ret2
  exact ⟨_, rfl, Kd.S_nil _ _ _ _ _, below_step HB138.out HB2.out⟩

set_option maxHeartbeats 1000000 in
set_option maxRecDepth 100000 in
theorem impl_TonaryValid_calls (L : List S38) (A0 : Option Addr) (c0 : Nat) (w : World) (ht : MTab w) (hr0 : Kd.C k38 w A0 L.length L) (hc0 : L.length ≤ c0) (hz : entSz L = true) :
 Calls Tryd.prog 21 #[.slice A0 L.length c0] w fun e w' => e = .returned (.bool (tonOk L)) ∧ Below w.heap.size w w' := by
 have HT := Aside0.mk ht
 have HR0 := Aside0.mk hr0
 have HC0 := Aside0.mk hc0
 have HZ := Aside0.mk (entSz_all hz)
 clear ht hr0 hc0 hz
 go_enter Tryd.func21, Tryd.ntmps21
 go_wp2_with (go_at_call 52; refine (impl_tonaryOf_calls L A0 c0 w HT.out HR0.out HC0.out HZ.out).mono ?_; rintro e w1 ⟨p, rfl, hm, hb⟩; have HB := Aside0.mk hb; clear hm hb)
 go_ret
 exact ⟨rfl, HB.out⟩

end Go.Proofs.YtmacedbpdhkagaaDoor.Pure
namespace Go.Proofs.YtmacedbpdhkagaaDoor.PFnTonaryJoin
open Go.RowKit Go.Proofs.YtmacedbpdhkagaaDoorW.PrintWords Go.Proofs.YtmacedbpdhkagaaDoorW.PrintLast Go.Proofs.YtmacedbpdhkagaaDoorW.PrintMore
attribute [local go_sem] max2_int min2_int max_two min_two max_three min_three max_four min_four   -- for this text's walks alone
set_option linter.unusedVariables false
set_option linter.unusedSimpArgs false

attribute [local go_sem high] eqA90
def impl_equalTones.l0 : Nat → List (S90) → List (S90) → Int → Int → Option (Bool)
 | 0, _, _, _, _ => none
 | k + 1, x1, x12, x13, x14 => if x14 < x13 then (if 0 ≤ x14 then (if x14 < (x12.length : Int) then (if x14 < (x1.length : Int) then (if (!(((rd_T90 x12 x14).f0) == ((rd_T90 x1 x14).f0)) || (!(((rd_T90 x12 x14).f1) == ((rd_T90 x1 x14).f1)))) = true then (some false) else (impl_equalTones.l0 k x1 x12 x13 (wrap64 (x14 + 1)))) else (none)) else (none)) else (none)) else (some true)
def impl_equalTones.f (k : Nat) (l0 : List (S90)) (l1 : List (S90)) : Option (Bool) := if (l0.length : Int) = (l1.length : Int) then (impl_equalTones.l0 k l1 l0 (l0.length : Int) 0) else (some false)
set_option maxHeartbeats 8000000 in
set_option maxRecDepth 100000 in
theorem impl_equalTones.calls (k : Nat) (A0 : Option Addr) (c0 : Nat) (l0 : List (S90)) (A1 : Option Addr) (c1 : Nat) (l1 : List (S90)) (r : Bool) (w : World) (hr0 : Kd.C k90 w A0 l0.length l0) (hc0 : l0.length ≤ c0) (hr1 : Kd.C k90 w A1 l1.length l1) (hc1 : l1.length ≤ c1) (h : impl_equalTones.f k l0 l1 = some r) :
 Calls Tryd.prog 56 #[.slice A0 l0.length c0, .slice A1 l1.length c1] w fun e w' => e = .returned (.bool r) ∧ Below w.heap.size w w' := by
 have hu90 := Tryd.underlying90; have HR0 := Aside0.mk hr0; have HC0 := Aside0.mk hc0; clear hr0 hc0; have HR1 := Aside0.mk hr1; have HC1 := Aside0.mk hc1; clear hr1 hc1; have HB := Aside0.mk (Below.refl w.heap.size w); have H : (if (l0.length : Int) = (l1.length : Int) then (impl_equalTones.l0 k l1 l0 (l0.length : Int) 0) else (some false)) = some r := h; clear h; by_cases c3 : (l0.length : Int) = (l1.length : Int)
 ·
  rw [if_pos c3] at H; have c3b0 : ((l0.length : Int) == (l1.length : Int)) = true := beq_iff_eq.mpr c3; have c3b1 : ((l0.length : Int) != (l1.length : Int)) = false := bne_eq_false_iff_eq.mpr c3; have c3b2 : (l0.length == l1.length) = true := by first | simpa using c3 | (simp at c3 ⊢; omega)
  clear c3; have H' := Aside0.mk H; clear H; go_enter Tryd.func56, Tryd.ntmps56
  go_wp2; repeat (go_quiet (fail); try go_wp2)
  go_loopg [14] k (fun kq v14 w' => ∃ (x14_1 : Int), v14 = .int .i64 x14_1 ∧ Aside0 (impl_equalTones.l0 kq l1 l0 (l0.length : Int) x14_1 = some r) ∧ Aside0 (kq ≤ k) ∧ Aside0 (Below w.heap.size w w'))
  case atStart => exact ⟨(0), (by first | rfl | (simp; done) | (simp [*]; done)), H', ⟨Nat.le_refl _⟩, ⟨by repeat (first | (with_reducible first | exact HB.out | apply below_alloc | apply pw_below_drewN | apply below_drew1) | exact HB.out)⟩⟩
  case round =>
   clear H'; try clear c1
   try clear p2
   try clear c3
   try clear c3b0
   try clear c3b1
   try clear c3b2
   obtain ⟨x14_1, rfl, HA, HK1, HB⟩ := hrel; cases gk with
   | zero => exact absurd HA.out (by simp [impl_equalTones.l0])
   | succ k1 =>
    have H := HA.out; clear HA; simp only [impl_equalTones.l0] at H; by_cases c4 : x14_1 < (l0.length : Int)
    ·
     rw [if_pos c4] at H; have c4b0 : decide (x14_1 < (l0.length : Int)) = true := decide_eq_true c4; clear c4; by_cases c5 : 0 ≤ x14_1
     ·
      rw [if_pos c5] at H; have c5b0 : decide (0 ≤ x14_1) = true := decide_eq_true c5; clear c5; by_cases c6 : x14_1 < (l0.length : Int)
      ·
       rw [if_pos c6] at H; have c6b0 : decide (x14_1 < (l0.length : Int)) = true := decide_eq_true c6; clear c6; by_cases c7 : x14_1 < (l1.length : Int)
       ·
        rw [if_pos c7] at H; have c7b0 : decide (x14_1 < (l1.length : Int)) = true := decide_eq_true c7; clear c7; by_cases c8 : (!(((rd_T90 l0 x14_1).f0) == ((rd_T90 l1 x14_1).f0)) || (!(((rd_T90 l0 x14_1).f1) == ((rd_T90 l1 x14_1).f1)))) = true
        ·
         rw [if_pos c8] at H; have c8b0 : (!(((rd_T90 l0 x14_1).f0) == ((rd_T90 l1 x14_1).f0)) || (!(((rd_T90 l0 x14_1).f1) == ((rd_T90 l1 x14_1).f1)))) = true := c8; clear c8; obtain rfl := Option.some.inj H; have p221 : 0 ≤ (x14_1 : Int) := of_decide_eq_true (by first | (with_reducible assumption) | assumption); have q221 : x14_1 < (l0.length : Int) := of_decide_eq_true (by first | (with_reducible assumption) | assumption); obtain ⟨ad221, e221, hx221_0, hx221_1⟩ := at_T90 HR0.out x14_1 p221 q221; cases e221; replace hx221_0 := (HB.out.cell (World.block_lt_of_cell? w _ hx221_0)).trans hx221_0; replace hx221_1 := (HB.out.cell (World.block_lt_of_cell? w _ hx221_1)).trans hx221_1; replace p221 := eq_true p221; replace q221 := eq_true q221; go_wp2_with (first | ((with_reducible refine gate_dst (N := 6) rfl ?_); refine box_event ?hg (N := 6) ?hd (cs := #[.int .i64 0, .bool false]) (t := 90) ?hr ?_; (case hd => rfl); (case hg => rfl); (case hr => first | (go_simp; done) | (go_simp; rfl)); intro gb222 hg w9 hbox hb; have n0_ := Aside0.mk (below_step (by repeat (first | (with_reducible first | exact HB.out | apply below_alloc | apply pw_below_drewN | apply below_drew1) | exact HB.out)) hb); have n1_ := Aside0.mk (hbox); have n2_ := Aside0.mk ((by rw [hg]; exact (below_size (by repeat (first | (with_reducible first | exact HB.out | apply below_alloc | apply pw_below_drewN | apply below_drew1) | exact HB.out))) : w.heap.size ≤ gb222)); have n3_ := Aside0.mk ((by rw [hg]; exact (below_size (by repeat (first | (with_reducible first | exact HB.out | apply below_alloc | apply pw_below_drewN | apply below_drew1) | exact HB.out))) : w.heap.size ≤ gb222)); clear HB; have HB := n0_; have BK222 := n1_; have GW222 := n2_; have GE222 := n3_; clear n0_ n1_ n2_ n3_; clear hb hbox hg; have hcz10_0 : w9.cell? ⟨gb222, 0, none⟩ = some (.int .i64 0) := (blk_cell BK222.out 0).trans rfl; have hcz10_1 : w9.cell? ⟨gb222, 1, none⟩ = some (.bool false) := (blk_cell BK222.out 1).trans rfl; have hfz10_0 := blk_frozen BK222.out 0; have hfz10_1 := blk_frozen BK222.out 1; have p223 : 0 ≤ (x14_1 : Int) := of_decide_eq_true (by first | (with_reducible assumption) | assumption); have q223 : x14_1 < (l1.length : Int) := of_decide_eq_true (by first | (with_reducible assumption) | assumption); obtain ⟨ad223, e223, hx223_0, hx223_1⟩ := at_T90 HR1.out x14_1 p223 q223; cases e223; have hn223_0 : ad223.block ≠ gb222 := Nat.ne_of_lt (Nat.lt_of_lt_of_le (by have := World.block_lt_of_cell? _ _ hx223_0; first | rwa [add_block] at this | exact this) GW222.out); have hn223_1 : ad223.block ≠ gb222 := Nat.ne_of_lt (Nat.lt_of_lt_of_le (by have := World.block_lt_of_cell? _ _ hx223_0; first | rwa [add_block] at this | exact this) GW222.out); replace hx223_0 := (HB.out.cell (World.block_lt_of_cell? w _ hx223_0)).trans hx223_0; replace hx223_1 := (HB.out.cell (World.block_lt_of_cell? w _ hx223_1)).trans hx223_1; replace hx223_0 := (cell_far (p := ⟨gb222, 0, none⟩) (by first | (rw [add_block]; exact hn223_0) | (show (Addr.add _ _).block ≠ _; rw [add_block]; exact hn223_0) | exact hn223_0) (.int .i64 ((rd_T90 l0 x14_1).f0))).trans hx223_0; replace hx223_1 := (cell_far (p := ⟨gb222, 0, none⟩) (by first | (rw [add_block]; exact hn223_0) | (show (Addr.add _ _).block ≠ _; rw [add_block]; exact hn223_0) | exact hn223_0) (.int .i64 ((rd_T90 l0 x14_1).f0))).trans hx223_1; replace hx223_0 := (cell_far (p := ⟨gb222, 1, none⟩) (by first | (rw [add_block]; exact hn223_1) | (show (Addr.add _ _).block ≠ _; rw [add_block]; exact hn223_1) | exact hn223_1) (.bool ((rd_T90 l0 x14_1).f1))).trans hx223_0; replace hx223_1 := (cell_far (p := ⟨gb222, 1, none⟩) (by first | (rw [add_block]; exact hn223_1) | (show (Addr.add _ _).block ≠ _; rw [add_block]; exact hn223_1) | exact hn223_1) (.bool ((rd_T90 l0 x14_1).f1))).trans hx223_1; (try have hy223_0 := fun (n_ : Nat) => (show ((((w9.drewN n_).setCell ⟨gb222, 0, none⟩ (.int .i64 ((rd_T90 l0 x14_1).f0))).setCell ⟨gb222, 1, none⟩ (.bool ((rd_T90 l0 x14_1).f1)))).cell? _ = some _ from hx223_0)); (try have hy223_1 := fun (n_ : Nat) => (show ((((w9.drewN n_).setCell ⟨gb222, 0, none⟩ (.int .i64 ((rd_T90 l0 x14_1).f0))).setCell ⟨gb222, 1, none⟩ (.bool ((rd_T90 l0 x14_1).f1)))).cell? _ = some _ from hx223_1)); clear hn223_0; clear hn223_1; replace p223 := eq_true p223; replace q223 := eq_true q223))
         repeat (go_quiet (first | ((with_reducible refine gate_dst (N := 6) rfl ?_); refine box_event ?hg (N := 6) ?hd (cs := #[.int .i64 0, .bool false]) (t := 90) ?hr ?_; (case hd => rfl); (case hg => rfl); (case hr => first | (go_simp; done) | (go_simp; rfl)); intro gb222 hg w9 hbox hb; have n0_ := Aside0.mk (below_step (by repeat (first | (with_reducible first | exact HB.out | apply below_alloc | apply pw_below_drewN | apply below_drew1) | exact HB.out)) hb); have n1_ := Aside0.mk (hbox); have n2_ := Aside0.mk ((by rw [hg]; exact (below_size (by repeat (first | (with_reducible first | exact HB.out | apply below_alloc | apply pw_below_drewN | apply below_drew1) | exact HB.out))) : w.heap.size ≤ gb222)); have n3_ := Aside0.mk ((by rw [hg]; exact (below_size (by repeat (first | (with_reducible first | exact HB.out | apply below_alloc | apply pw_below_drewN | apply below_drew1) | exact HB.out))) : w.heap.size ≤ gb222)); clear HB; have HB := n0_; have BK222 := n1_; have GW222 := n2_; have GE222 := n3_; clear n0_ n1_ n2_ n3_; clear hb hbox hg; have hcz10_0 : w9.cell? ⟨gb222, 0, none⟩ = some (.int .i64 0) := (blk_cell BK222.out 0).trans rfl; have hcz10_1 : w9.cell? ⟨gb222, 1, none⟩ = some (.bool false) := (blk_cell BK222.out 1).trans rfl; have hfz10_0 := blk_frozen BK222.out 0; have hfz10_1 := blk_frozen BK222.out 1; have p223 : 0 ≤ (x14_1 : Int) := of_decide_eq_true (by first | (with_reducible assumption) | assumption); have q223 : x14_1 < (l1.length : Int) := of_decide_eq_true (by first | (with_reducible assumption) | assumption); obtain ⟨ad223, e223, hx223_0, hx223_1⟩ := at_T90 HR1.out x14_1 p223 q223; cases e223; have hn223_0 : ad223.block ≠ gb222 := Nat.ne_of_lt (Nat.lt_of_lt_of_le (by have := World.block_lt_of_cell? _ _ hx223_0; first | rwa [add_block] at this | exact this) GW222.out); have hn223_1 : ad223.block ≠ gb222 := Nat.ne_of_lt (Nat.lt_of_lt_of_le (by have := World.block_lt_of_cell? _ _ hx223_0; first | rwa [add_block] at this | exact this) GW222.out); replace hx223_0 := (HB.out.cell (World.block_lt_of_cell? w _ hx223_0)).trans hx223_0; replace hx223_1 := (HB.out.cell (World.block_lt_of_cell? w _ hx223_1)).trans hx223_1; replace hx223_0 := (cell_far (p := ⟨gb222, 0, none⟩) (by first | (rw [add_block]; exact hn223_0) | (show (Addr.add _ _).block ≠ _; rw [add_block]; exact hn223_0) | exact hn223_0) (.int .i64 ((rd_T90 l0 x14_1).f0))).trans hx223_0; replace hx223_1 := (cell_far (p := ⟨gb222, 0, none⟩) (by first | (rw [add_block]; exact hn223_0) | (show (Addr.add _ _).block ≠ _; rw [add_block]; exact hn223_0) | exact hn223_0) (.int .i64 ((rd_T90 l0 x14_1).f0))).trans hx223_1; replace hx223_0 := (cell_far (p := ⟨gb222, 1, none⟩) (by first | (rw [add_block]; exact hn223_1) | (show (Addr.add _ _).block ≠ _; rw [add_block]; exact hn223_1) | exact hn223_1) (.bool ((rd_T90 l0 x14_1).f1))).trans hx223_0; replace hx223_1 := (cell_far (p := ⟨gb222, 1, none⟩) (by first | (rw [add_block]; exact hn223_1) | (show (Addr.add _ _).block ≠ _; rw [add_block]; exact hn223_1) | exact hn223_1) (.bool ((rd_T90 l0 x14_1).f1))).trans hx223_1; (try have hy223_0 := fun (n_ : Nat) => (show ((((w9.drewN n_).setCell ⟨gb222, 0, none⟩ (.int .i64 ((rd_T90 l0 x14_1).f0))).setCell ⟨gb222, 1, none⟩ (.bool ((rd_T90 l0 x14_1).f1)))).cell? _ = some _ from hx223_0)); (try have hy223_1 := fun (n_ : Nat) => (show ((((w9.drewN n_).setCell ⟨gb222, 0, none⟩ (.int .i64 ((rd_T90 l0 x14_1).f0))).setCell ⟨gb222, 1, none⟩ (.bool ((rd_T90 l0 x14_1).f1)))).cell? _ = some _ from hx223_1)); clear hn223_0; clear hn223_1; replace p223 := eq_true p223; replace q223 := eq_true q223)); try go_wp2_with (first | ((with_reducible refine gate_dst (N := 6) rfl ?_); refine box_event ?hg (N := 6) ?hd (cs := #[.int .i64 0, .bool false]) (t := 90) ?hr ?_; (case hd => rfl); (case hg => rfl); (case hr => first | (go_simp; done) | (go_simp; rfl)); intro gb222 hg w9 hbox hb; have n0_ := Aside0.mk (below_step (by repeat (first | (with_reducible first | exact HB.out | apply below_alloc | apply pw_below_drewN | apply below_drew1) | exact HB.out)) hb); have n1_ := Aside0.mk (hbox); have n2_ := Aside0.mk ((by rw [hg]; exact (below_size (by repeat (first | (with_reducible first | exact HB.out | apply below_alloc | apply pw_below_drewN | apply below_drew1) | exact HB.out))) : w.heap.size ≤ gb222)); have n3_ := Aside0.mk ((by rw [hg]; exact (below_size (by repeat (first | (with_reducible first | exact HB.out | apply below_alloc | apply pw_below_drewN | apply below_drew1) | exact HB.out))) : w.heap.size ≤ gb222)); clear HB; have HB := n0_; have BK222 := n1_; have GW222 := n2_; have GE222 := n3_; clear n0_ n1_ n2_ n3_; clear hb hbox hg; have hcz10_0 : w9.cell? ⟨gb222, 0, none⟩ = some (.int .i64 0) := (blk_cell BK222.out 0).trans rfl; have hcz10_1 : w9.cell? ⟨gb222, 1, none⟩ = some (.bool false) := (blk_cell BK222.out 1).trans rfl; have hfz10_0 := blk_frozen BK222.out 0; have hfz10_1 := blk_frozen BK222.out 1; have p223 : 0 ≤ (x14_1 : Int) := of_decide_eq_true (by first | (with_reducible assumption) | assumption); have q223 : x14_1 < (l1.length : Int) := of_decide_eq_true (by first | (with_reducible assumption) | assumption); obtain ⟨ad223, e223, hx223_0, hx223_1⟩ := at_T90 HR1.out x14_1 p223 q223; cases e223; have hn223_0 : ad223.block ≠ gb222 := Nat.ne_of_lt (Nat.lt_of_lt_of_le (by have := World.block_lt_of_cell? _ _ hx223_0; first | rwa [add_block] at this | exact this) GW222.out); have hn223_1 : ad223.block ≠ gb222 := Nat.ne_of_lt (Nat.lt_of_lt_of_le (by have := World.block_lt_of_cell? _ _ hx223_0; first | rwa [add_block] at this | exact this) GW222.out); replace hx223_0 := (HB.out.cell (World.block_lt_of_cell? w _ hx223_0)).trans hx223_0; replace hx223_1 := (HB.out.cell (World.block_lt_of_cell? w _ hx223_1)).trans hx223_1; replace hx223_0 := (cell_far (p := ⟨gb222, 0, none⟩) (by first | (rw [add_block]; exact hn223_0) | (show (Addr.add _ _).block ≠ _; rw [add_block]; exact hn223_0) | exact hn223_0) (.int .i64 ((rd_T90 l0 x14_1).f0))).trans hx223_0; replace hx223_1 := (cell_far (p := ⟨gb222, 0, none⟩) (by first | (rw [add_block]; exact hn223_0) | (show (Addr.add _ _).block ≠ _; rw [add_block]; exact hn223_0) | exact hn223_0) (.int .i64 ((rd_T90 l0 x14_1).f0))).trans hx223_1; replace hx223_0 := (cell_far (p := ⟨gb222, 1, none⟩) (by first | (rw [add_block]; exact hn223_1) | (show (Addr.add _ _).block ≠ _; rw [add_block]; exact hn223_1) | exact hn223_1) (.bool ((rd_T90 l0 x14_1).f1))).trans hx223_0; replace hx223_1 := (cell_far (p := ⟨gb222, 1, none⟩) (by first | (rw [add_block]; exact hn223_1) | (show (Addr.add _ _).block ≠ _; rw [add_block]; exact hn223_1) | exact hn223_1) (.bool ((rd_T90 l0 x14_1).f1))).trans hx223_1; (try have hy223_0 := fun (n_ : Nat) => (show ((((w9.drewN n_).setCell ⟨gb222, 0, none⟩ (.int .i64 ((rd_T90 l0 x14_1).f0))).setCell ⟨gb222, 1, none⟩ (.bool ((rd_T90 l0 x14_1).f1)))).cell? _ = some _ from hx223_0)); (try have hy223_1 := fun (n_ : Nat) => (show ((((w9.drewN n_).setCell ⟨gb222, 0, none⟩ (.int .i64 ((rd_T90 l0 x14_1).f0))).setCell ⟨gb222, 1, none⟩ (.bool ((rd_T90 l0 x14_1).f1)))).cell? _ = some _ from hx223_1)); clear hn223_0; clear hn223_1; replace p223 := eq_true p223; replace q223 := eq_true q223)))
         go_ret
         exact ⟨by first | rfl | (simp [errW_none, errW_some] <;> rfl) | (simp [*, errW_none, errW_some] <;> rfl), by repeat (first | (with_reducible first | exact HB.out | apply below_alloc | apply pw_below_drewN | apply below_drew1 | refine below_set ?_ GE222.out) | exact HB.out)⟩
        ·
         rw [if_neg c8] at H; have c8b0 : (!(((rd_T90 l0 x14_1).f0) == ((rd_T90 l1 x14_1).f0)) || (!(((rd_T90 l0 x14_1).f1) == ((rd_T90 l1 x14_1).f1)))) = false := by simpa using c8
         clear c8; have H' := Aside0.mk H; clear H; have p221 : 0 ≤ (x14_1 : Int) := of_decide_eq_true (by first | (with_reducible assumption) | assumption); have q221 : x14_1 < (l0.length : Int) := of_decide_eq_true (by first | (with_reducible assumption) | assumption); obtain ⟨ad221, e221, hx221_0, hx221_1⟩ := at_T90 HR0.out x14_1 p221 q221; cases e221; replace hx221_0 := (HB.out.cell (World.block_lt_of_cell? w _ hx221_0)).trans hx221_0; replace hx221_1 := (HB.out.cell (World.block_lt_of_cell? w _ hx221_1)).trans hx221_1; replace p221 := eq_true p221; replace q221 := eq_true q221; go_wp2_with (first | ((with_reducible refine gate_dst (N := 6) rfl ?_); refine box_event ?hg (N := 6) ?hd (cs := #[.int .i64 0, .bool false]) (t := 90) ?hr ?_; (case hd => rfl); (case hg => rfl); (case hr => first | (go_simp; done) | (go_simp; rfl)); intro gb222 hg w11 hbox hb; have n0_ := Aside0.mk (below_step (by repeat (first | (with_reducible first | exact HB.out | apply below_alloc | apply pw_below_drewN | apply below_drew1) | exact HB.out)) hb); have n1_ := Aside0.mk (hbox); have n2_ := Aside0.mk ((by rw [hg]; exact (below_size (by repeat (first | (with_reducible first | exact HB.out | apply below_alloc | apply pw_below_drewN | apply below_drew1) | exact HB.out))) : w.heap.size ≤ gb222)); have n3_ := Aside0.mk ((by rw [hg]; exact (below_size (by repeat (first | (with_reducible first | exact HB.out | apply below_alloc | apply pw_below_drewN | apply below_drew1) | exact HB.out))) : w.heap.size ≤ gb222)); clear HB; have HB := n0_; have BK222 := n1_; have GW222 := n2_; have GE222 := n3_; clear n0_ n1_ n2_ n3_; clear hb hbox hg; have hcz12_0 : w11.cell? ⟨gb222, 0, none⟩ = some (.int .i64 0) := (blk_cell BK222.out 0).trans rfl; have hcz12_1 : w11.cell? ⟨gb222, 1, none⟩ = some (.bool false) := (blk_cell BK222.out 1).trans rfl; have hfz12_0 := blk_frozen BK222.out 0; have hfz12_1 := blk_frozen BK222.out 1; have p223 : 0 ≤ (x14_1 : Int) := of_decide_eq_true (by first | (with_reducible assumption) | assumption); have q223 : x14_1 < (l1.length : Int) := of_decide_eq_true (by first | (with_reducible assumption) | assumption); obtain ⟨ad223, e223, hx223_0, hx223_1⟩ := at_T90 HR1.out x14_1 p223 q223; cases e223; have hn223_0 : ad223.block ≠ gb222 := Nat.ne_of_lt (Nat.lt_of_lt_of_le (by have := World.block_lt_of_cell? _ _ hx223_0; first | rwa [add_block] at this | exact this) GW222.out); have hn223_1 : ad223.block ≠ gb222 := Nat.ne_of_lt (Nat.lt_of_lt_of_le (by have := World.block_lt_of_cell? _ _ hx223_0; first | rwa [add_block] at this | exact this) GW222.out); replace hx223_0 := (HB.out.cell (World.block_lt_of_cell? w _ hx223_0)).trans hx223_0; replace hx223_1 := (HB.out.cell (World.block_lt_of_cell? w _ hx223_1)).trans hx223_1; replace hx223_0 := (cell_far (p := ⟨gb222, 0, none⟩) (by first | (rw [add_block]; exact hn223_0) | (show (Addr.add _ _).block ≠ _; rw [add_block]; exact hn223_0) | exact hn223_0) (.int .i64 ((rd_T90 l0 x14_1).f0))).trans hx223_0; replace hx223_1 := (cell_far (p := ⟨gb222, 0, none⟩) (by first | (rw [add_block]; exact hn223_0) | (show (Addr.add _ _).block ≠ _; rw [add_block]; exact hn223_0) | exact hn223_0) (.int .i64 ((rd_T90 l0 x14_1).f0))).trans hx223_1; replace hx223_0 := (cell_far (p := ⟨gb222, 1, none⟩) (by first | (rw [add_block]; exact hn223_1) | (show (Addr.add _ _).block ≠ _; rw [add_block]; exact hn223_1) | exact hn223_1) (.bool ((rd_T90 l0 x14_1).f1))).trans hx223_0; replace hx223_1 := (cell_far (p := ⟨gb222, 1, none⟩) (by first | (rw [add_block]; exact hn223_1) | (show (Addr.add _ _).block ≠ _; rw [add_block]; exact hn223_1) | exact hn223_1) (.bool ((rd_T90 l0 x14_1).f1))).trans hx223_1; (try have hy223_0 := fun (n_ : Nat) => (show ((((w11.drewN n_).setCell ⟨gb222, 0, none⟩ (.int .i64 ((rd_T90 l0 x14_1).f0))).setCell ⟨gb222, 1, none⟩ (.bool ((rd_T90 l0 x14_1).f1)))).cell? _ = some _ from hx223_0)); (try have hy223_1 := fun (n_ : Nat) => (show ((((w11.drewN n_).setCell ⟨gb222, 0, none⟩ (.int .i64 ((rd_T90 l0 x14_1).f0))).setCell ⟨gb222, 1, none⟩ (.bool ((rd_T90 l0 x14_1).f1)))).cell? _ = some _ from hx223_1)); clear hn223_0; clear hn223_1; replace p223 := eq_true p223; replace q223 := eq_true q223))
         repeat (go_quiet (first | ((with_reducible refine gate_dst (N := 6) rfl ?_); refine box_event ?hg (N := 6) ?hd (cs := #[.int .i64 0, .bool false]) (t := 90) ?hr ?_; (case hd => rfl); (case hg => rfl); (case hr => first | (go_simp; done) | (go_simp; rfl)); intro gb222 hg w11 hbox hb; have n0_ := Aside0.mk (below_step (by repeat (first | (with_reducible first | exact HB.out | apply below_alloc | apply pw_below_drewN | apply below_drew1) | exact HB.out)) hb); have n1_ := Aside0.mk (hbox); have n2_ := Aside0.mk ((by rw [hg]; exact (below_size (by repeat (first | (with_reducible first | exact HB.out | apply below_alloc | apply pw_below_drewN | apply below_drew1) | exact HB.out))) : w.heap.size ≤ gb222)); have n3_ := Aside0.mk ((by rw [hg]; exact (below_size (by repeat (first | (with_reducible first | exact HB.out | apply below_alloc | apply pw_below_drewN | apply below_drew1) | exact HB.out))) : w.heap.size ≤ gb222)); clear HB; have HB := n0_; have BK222 := n1_; have GW222 := n2_; have GE222 := n3_; clear n0_ n1_ n2_ n3_; clear hb hbox hg; have hcz12_0 : w11.cell? ⟨gb222, 0, none⟩ = some (.int .i64 0) := (blk_cell BK222.out 0).trans rfl; have hcz12_1 : w11.cell? ⟨gb222, 1, none⟩ = some (.bool false) := (blk_cell BK222.out 1).trans rfl; have hfz12_0 := blk_frozen BK222.out 0; have hfz12_1 := blk_frozen BK222.out 1; have p223 : 0 ≤ (x14_1 : Int) := of_decide_eq_true (by first | (with_reducible assumption) | assumption); have q223 : x14_1 < (l1.length : Int) := of_decide_eq_true (by first | (with_reducible assumption) | assumption); obtain ⟨ad223, e223, hx223_0, hx223_1⟩ := at_T90 HR1.out x14_1 p223 q223; cases e223; have hn223_0 : ad223.block ≠ gb222 := Nat.ne_of_lt (Nat.lt_of_lt_of_le (by have := World.block_lt_of_cell? _ _ hx223_0; first | rwa [add_block] at this | exact this) GW222.out); have hn223_1 : ad223.block ≠ gb222 := Nat.ne_of_lt (Nat.lt_of_lt_of_le (by have := World.block_lt_of_cell? _ _ hx223_0; first | rwa [add_block] at this | exact this) GW222.out); replace hx223_0 := (HB.out.cell (World.block_lt_of_cell? w _ hx223_0)).trans hx223_0; replace hx223_1 := (HB.out.cell (World.block_lt_of_cell? w _ hx223_1)).trans hx223_1; replace hx223_0 := (cell_far (p := ⟨gb222, 0, none⟩) (by first | (rw [add_block]; exact hn223_0) | (show (Addr.add _ _).block ≠ _; rw [add_block]; exact hn223_0) | exact hn223_0) (.int .i64 ((rd_T90 l0 x14_1).f0))).trans hx223_0; replace hx223_1 := (cell_far (p := ⟨gb222, 0, none⟩) (by first | (rw [add_block]; exact hn223_0) | (show (Addr.add _ _).block ≠ _; rw [add_block]; exact hn223_0) | exact hn223_0) (.int .i64 ((rd_T90 l0 x14_1).f0))).trans hx223_1; replace hx223_0 := (cell_far (p := ⟨gb222, 1, none⟩) (by first | (rw [add_block]; exact hn223_1) | (show (Addr.add _ _).block ≠ _; rw [add_block]; exact hn223_1) | exact hn223_1) (.bool ((rd_T90 l0 x14_1).f1))).trans hx223_0; replace hx223_1 := (cell_far (p := ⟨gb222, 1, none⟩) (by first | (rw [add_block]; exact hn223_1) | (show (Addr.add _ _).block ≠ _; rw [add_block]; exact hn223_1) | exact hn223_1) (.bool ((rd_T90 l0 x14_1).f1))).trans hx223_1; (try have hy223_0 := fun (n_ : Nat) => (show ((((w11.drewN n_).setCell ⟨gb222, 0, none⟩ (.int .i64 ((rd_T90 l0 x14_1).f0))).setCell ⟨gb222, 1, none⟩ (.bool ((rd_T90 l0 x14_1).f1)))).cell? _ = some _ from hx223_0)); (try have hy223_1 := fun (n_ : Nat) => (show ((((w11.drewN n_).setCell ⟨gb222, 0, none⟩ (.int .i64 ((rd_T90 l0 x14_1).f0))).setCell ⟨gb222, 1, none⟩ (.bool ((rd_T90 l0 x14_1).f1)))).cell? _ = some _ from hx223_1)); clear hn223_0; clear hn223_1; replace p223 := eq_true p223; replace q223 := eq_true q223)); try go_wp2_with (first | ((with_reducible refine gate_dst (N := 6) rfl ?_); refine box_event ?hg (N := 6) ?hd (cs := #[.int .i64 0, .bool false]) (t := 90) ?hr ?_; (case hd => rfl); (case hg => rfl); (case hr => first | (go_simp; done) | (go_simp; rfl)); intro gb222 hg w11 hbox hb; have n0_ := Aside0.mk (below_step (by repeat (first | (with_reducible first | exact HB.out | apply below_alloc | apply pw_below_drewN | apply below_drew1) | exact HB.out)) hb); have n1_ := Aside0.mk (hbox); have n2_ := Aside0.mk ((by rw [hg]; exact (below_size (by repeat (first | (with_reducible first | exact HB.out | apply below_alloc | apply pw_below_drewN | apply below_drew1) | exact HB.out))) : w.heap.size ≤ gb222)); have n3_ := Aside0.mk ((by rw [hg]; exact (below_size (by repeat (first | (with_reducible first | exact HB.out | apply below_alloc | apply pw_below_drewN | apply below_drew1) | exact HB.out))) : w.heap.size ≤ gb222)); clear HB; have HB := n0_; have BK222 := n1_; have GW222 := n2_; have GE222 := n3_; clear n0_ n1_ n2_ n3_; clear hb hbox hg; have hcz12_0 : w11.cell? ⟨gb222, 0, none⟩ = some (.int .i64 0) := (blk_cell BK222.out 0).trans rfl; have hcz12_1 : w11.cell? ⟨gb222, 1, none⟩ = some (.bool false) := (blk_cell BK222.out 1).trans rfl; have hfz12_0 := blk_frozen BK222.out 0; have hfz12_1 := blk_frozen BK222.out 1; have p223 : 0 ≤ (x14_1 : Int) := of_decide_eq_true (by first | (with_reducible assumption) | assumption); have q223 : x14_1 < (l1.length : Int) := of_decide_eq_true (by first | (with_reducible assumption) | assumption); obtain ⟨ad223, e223, hx223_0, hx223_1⟩ := at_T90 HR1.out x14_1 p223 q223; cases e223; have hn223_0 : ad223.block ≠ gb222 := Nat.ne_of_lt (Nat.lt_of_lt_of_le (by have := World.block_lt_of_cell? _ _ hx223_0; first | rwa [add_block] at this | exact this) GW222.out); have hn223_1 : ad223.block ≠ gb222 := Nat.ne_of_lt (Nat.lt_of_lt_of_le (by have := World.block_lt_of_cell? _ _ hx223_0; first | rwa [add_block] at this | exact this) GW222.out); replace hx223_0 := (HB.out.cell (World.block_lt_of_cell? w _ hx223_0)).trans hx223_0; replace hx223_1 := (HB.out.cell (World.block_lt_of_cell? w _ hx223_1)).trans hx223_1; replace hx223_0 := (cell_far (p := ⟨gb222, 0, none⟩) (by first | (rw [add_block]; exact hn223_0) | (show (Addr.add _ _).block ≠ _; rw [add_block]; exact hn223_0) | exact hn223_0) (.int .i64 ((rd_T90 l0 x14_1).f0))).trans hx223_0; replace hx223_1 := (cell_far (p := ⟨gb222, 0, none⟩) (by first | (rw [add_block]; exact hn223_0) | (show (Addr.add _ _).block ≠ _; rw [add_block]; exact hn223_0) | exact hn223_0) (.int .i64 ((rd_T90 l0 x14_1).f0))).trans hx223_1; replace hx223_0 := (cell_far (p := ⟨gb222, 1, none⟩) (by first | (rw [add_block]; exact hn223_1) | (show (Addr.add _ _).block ≠ _; rw [add_block]; exact hn223_1) | exact hn223_1) (.bool ((rd_T90 l0 x14_1).f1))).trans hx223_0; replace hx223_1 := (cell_far (p := ⟨gb222, 1, none⟩) (by first | (rw [add_block]; exact hn223_1) | (show (Addr.add _ _).block ≠ _; rw [add_block]; exact hn223_1) | exact hn223_1) (.bool ((rd_T90 l0 x14_1).f1))).trans hx223_1; (try have hy223_0 := fun (n_ : Nat) => (show ((((w11.drewN n_).setCell ⟨gb222, 0, none⟩ (.int .i64 ((rd_T90 l0 x14_1).f0))).setCell ⟨gb222, 1, none⟩ (.bool ((rd_T90 l0 x14_1).f1)))).cell? _ = some _ from hx223_0)); (try have hy223_1 := fun (n_ : Nat) => (show ((((w11.drewN n_).setCell ⟨gb222, 0, none⟩ (.int .i64 ((rd_T90 l0 x14_1).f0))).setCell ⟨gb222, 1, none⟩ (.bool ((rd_T90 l0 x14_1).f1)))).cell? _ = some _ from hx223_1)); clear hn223_0; clear hn223_1; replace p223 := eq_true p223; replace q223 := eq_true q223)))
         go_roundg k1
         case measure => have := HK1.out; omega
         case rel => exact ⟨(wrap64 (x14_1 + 1)), (by first | rfl | (simp; done) | (simp [*]; done)), H', ⟨by have := HK1.out; omega⟩, ⟨by repeat (first | (with_reducible first | exact HB.out | apply below_alloc | apply pw_below_drewN | apply below_drew1 | refine below_set ?_ GE222.out) | exact HB.out)⟩⟩
       ·
        rw [if_neg c7] at H; exact absurd H (by simp)
      ·
       rw [if_neg c6] at H; exact absurd H (by simp)
     ·
      rw [if_neg c5] at H; exact absurd H (by simp)
    ·
     rw [if_neg c4] at H; have c4b0 : decide (x14_1 < (l0.length : Int)) = false := decide_eq_false c4; clear c4; obtain rfl := Option.some.inj H; go_wp2; repeat (go_quiet (fail); try go_wp2)
     go_ret
     exact ⟨by first | rfl | (simp [errW_none, errW_some] <;> rfl) | (simp [*, errW_none, errW_some] <;> rfl), by repeat (first | (with_reducible first | exact HB.out | apply below_alloc | apply pw_below_drewN | apply below_drew1) | exact HB.out)⟩
 ·
  rw [if_neg c3] at H; have c3b0 : ((l0.length : Int) == (l1.length : Int)) = false := beq_eq_false_iff_ne.mpr c3; have c3b1 : ((l0.length : Int) != (l1.length : Int)) = true := bne_iff_ne.mpr c3; have c3b2 : (l0.length == l1.length) = false := by first | simpa using c3 | (simp at c3 ⊢; omega)
  obtain rfl := Option.some.inj H; go_enter Tryd.func56, Tryd.ntmps56
  go_wp2; repeat (go_quiet (fail); try go_wp2)
  go_ret
  exact ⟨by first | rfl | (simp [errW_none, errW_some] <;> rfl) | (simp [*, errW_none, errW_some] <;> rfl), by repeat (first | (with_reducible first | exact HB.out | apply below_alloc | apply pw_below_drewN | apply below_drew1) | exact HB.out)⟩

end Go.Proofs.YtmacedbpdhkagaaDoor.PFnTonaryJoin
namespace Go.Proofs.YtmacedbpdhkagaaDoor.Pure
set_option linter.unusedVariables false
set_option linter.unusedSimpArgs false
open Go Go.RowKit Go.Proofs.YtmacedbpdhkagaaDoor.PFnTonaryJoin Go.Proofs.YtmacedbpdhkagaaDoorW.PrintWords Go.Proofs.YtmacedbpdhkagaaDoorW.PrintLast Go.Proofs.YtmacedbpdhkagaaDoorW.PrintMore

theorem nmHas_iff {X : List S38} (hp : X.Pairwise (fun a b => nmLt a.f0 b.f0 = true)) (nm : ByteArray) : nmHas X nm = true ↔ ∃ e ∈ X, e.f0 = nm := by
 unfold nmHas
 rw [Bool.and_eq_true, decide_eq_true_iff, decide_eq_true_iff]
 constructor
 ·
  rintro ⟨h1, h2⟩
  exact ⟨_, rd_ent X _ h1, h2⟩
 ·
  rintro ⟨e, he, hn⟩
  obtain ⟨j, hj, rfl⟩ := List.mem_iff_getElem.1 he
  have hrj : rd_T38 X (j : Int) = X[j] := by unfold rd_T38; rw [Int.toNat_natCast, List.getD_eq_getElem?_getD, List.getElem?_eq_getElem hj]; rfl
  have h1 := nmAt_mono X hp nm j hj
  rw [hrj, hn, nmLt_irrefl] at h1
  have hji : nmAt X nm ≤ j := Nat.not_lt.1 (of_decide_eq_false h1.symm)
  have hlt : nmAt X nm < X.length := by omega
  refine ⟨hlt, ?_⟩
  rcases Nat.lt_or_ge (nmAt X nm) j with h2 | h2
  ·
   have h3 := nmAt_mono X hp nm _ hlt
   have h4 := List.pairwise_iff_getElem.1 hp _ _ hlt hj h2
   have hri : rd_T38 X (nmAt X nm : Int) = X[nmAt X nm] := by unfold rd_T38; rw [Int.toNat_natCast, List.getD_eq_getElem?_getD, List.getElem?_eq_getElem hlt]; rfl
   rw [hn] at h4
   rw [hri, h4] at h3
   exact absurd (of_decide_eq_true h3.symm) (Nat.lt_irrefl _)
  ·
   have : nmAt X nm = j := by omega
   rw [this, hrj, hn]

def insAt (L : List S38) (n : Nat) (e : S38) : List S38 := L.take n ++ e :: L.drop n
def befN (L : List S38) (e : S38) : Nat := (L.takeWhile (fun x => befE x e)).length
def tonRes (Z : List S38) : List S38 × Bool := if tonOk Z = true then (Z, true) else ([], false)
def tonAdd (L : List S38) (e : S38) : List S38 × Bool := if tonOk L = true then tonRes (insAt L (befN L e) e) else ([], false)
theorem insAt_len (L : List S38) (n : Nat) (e : S38) : (insAt L n e).length = L.length + 1 := by
 unfold insAt
 rw [List.length_append, List.length_cons, List.length_take, List.length_drop]; omega

theorem befN_split (e : S38) : ∀ L : List S38, Srt L → ∃ A B, L = A ++ B ∧ A.length = befN L e ∧ (∀ x ∈ A, befE x e = true) ∧ (∀ x ∈ B, befE x e = false)
 | [], _ => ⟨[], [], rfl, rfl, fun _ h => (by cases h), fun _ h => (by cases h)⟩
 | x :: L, hs => by
  obtain ⟨h1, h2⟩ := List.pairwise_cons.1 hs
  cases hx : befE x e
  ·
   refine ⟨[], x :: L, rfl, by unfold befN; rw [List.takeWhile_cons, hx]; rfl, fun _ h => (by cases h), fun y hy => ?_⟩
   rcases List.mem_cons.1 hy with rfl | hy
   ·
    exact hx
   ·
    cases hye : befE y e
    ·
     rfl
    ·
     rw [befE_trans (h1 y hy) hye] at hx; cases hx
  ·
   obtain ⟨A, B, hL, hl, hA, hB⟩ := befN_split e L h2
   refine ⟨x :: A, B, by rw [hL]; rfl, ?_, fun y hy => ?_, hB⟩
   ·
    unfold befN
    rw [List.takeWhile_cons, hx, if_pos rfl, List.length_cons, List.length_cons, hl]; rfl
   ·
    rcases List.mem_cons.1 hy with rfl | hy
    ·
     exact hx
    ·
     exact hA y hy
theorem key_same {a b : S38} (h1 : befE a b = false) (h2 : befE b a = false) : a.f1 = b.f1 ∧ a.f0 = b.f0 := by
 have n1 : ¬ (a.f1 < b.f1 ∨ (a.f1 = b.f1 ∧ nmLt a.f0 b.f0 = true)) := fun h => by rw [(befE_iff a b).2 h] at h1; cases h1
 have n2 : ¬ (b.f1 < a.f1 ∨ (b.f1 = a.f1 ∧ nmLt b.f0 a.f0 = true)) := fun h => by rw [(befE_iff b a).2 h] at h2; cases h2
 have e1 : a.f1 = b.f1 := by omega
 refine ⟨e1, nm_eq_of ?_ ?_⟩
 ·
  cases h : nmLt a.f0 b.f0
  ·
   rfl
  ·
   exact absurd (.inr ⟨e1, h⟩) n1
 ·
  cases h : nmLt b.f0 a.f0
  ·
   rfl
  ·
   exact absurd (.inr ⟨e1.symm, h⟩) n2
theorem nmAt_split (A B : List S38) (nm : ByteArray) (hA : ∀ x ∈ A, nmLt x.f0 nm = true) (hB : ∀ x ∈ B, nmLt x.f0 nm = false) : nmAt (A ++ B) nm = A.length := by
 unfold nmAt
 rw [List.takeWhile_append_of_pos (by simpa using hA)]
 cases B with
 | nil => simp
 | cons b B => rw [List.takeWhile_cons, hB b List.mem_cons_self]; simp

theorem tonAddI_eq (L : List S38) (e : S38) : tonAddI L e = tonAdd L e := by
 unfold tonAddI tonAdd
 by_cases hk : tonOk L = true
 ·
  rw [if_pos hk, if_pos hk]
  obtain ⟨hlen, hok, hs⟩ := (tonOk_iff L).1 hk
  have hp := srt_names hs e.f1
  obtain ⟨A, B, hL, hAl, hA, hB⟩ := befN_split e L hs
  have hins : insAt L (befN L e) e = A ++ e :: B := by
   unfold insAt
   rw [← hAl, hL, List.take_left' rfl, List.drop_left' rfl]
  rw [hins]
  have hil : (A ++ e :: B).length = L.length + 1 := by rw [hL, List.length_append, List.length_append, List.length_cons]; omega
  have hmem : ∀ x, x ∈ A ++ e :: B ↔ x ∈ L ∨ x = e := by
   intro x
   rw [hL, List.mem_append, List.mem_cons, List.mem_append]
   constructor
   ·
    rintro (h | h | h)
    ·
     exact .inl (.inl h)
    ·
     exact .inr h
    ·
     exact .inl (.inr h)
   ·
    rintro ((h | h) | h)
    ·
     exact .inl h
    ·
     exact .inr (.inr h)
    ·
     exact .inr (.inl h)
  unfold tonRes
  by_cases he : entOk e = true
  ·
   rw [if_pos he]
   by_cases h20 : L.length = 20
   ·
    rw [if_pos h20, if_neg]
    rw [tonOk_iff, hil]
    rintro ⟨h, _⟩
    omega
   ·
    rw [if_neg h20]
    by_cases hh : nmHas (L.filter (fun x => x.f1 == e.f1)) e.f0 = true
    ·
     rw [if_pos hh, if_neg]
     rw [tonOk_iff]
     rintro ⟨_, _, hs2⟩
     obtain ⟨x, hx, hn⟩ := (nmHas_iff hp e.f0).1 hh
     rw [List.mem_filter] at hx
     have hm : x.f1 = e.f1 := by simpa using hx.2
     have n1 : befE x e = false := by
      cases h : befE x e
      ·
       rfl
      ·
       rw [befE_iff, hn, nmLt_irrefl] at h
       rcases h with h | ⟨_, h⟩
       ·
        omega
       ·
        cases h
     have hxB : x ∈ B := by
      have := hx.1
      rw [hL, List.mem_append] at this
      rcases this with h | h
      ·
       rw [hA x h] at n1; cases n1
      ·
       exact h
     have h2 := (List.pairwise_cons.1 (List.pairwise_append.1 hs2).2.1).1 x hxB
     rw [befE_iff, hn, nmLt_irrefl] at h2
     rcases h2 with h | ⟨_, h⟩
     ·
      omega
     ·
      cases h
    ·
     rw [if_neg hh]
     have hBe : ∀ x ∈ B, befE e x = true := by
      intro x hx
      cases h : befE e x
      ·
       exfalso
       obtain ⟨k1, k2⟩ := key_same (hB x hx) h
       exact hh ((nmHas_iff hp e.f0).2 ⟨x, by rw [List.mem_filter, hL]; exact ⟨List.mem_append_right _ hx, by simp [k1]⟩, k2⟩)
      ·
       rfl
     have hs2 : Srt (A ++ e :: B) := by
      rw [hL] at hs
      obtain ⟨s1, s2, s3⟩ := List.pairwise_append.1 hs
      refine List.pairwise_append.2 ⟨s1, List.pairwise_cons.2 ⟨hBe, s2⟩, fun a ha b hb => ?_⟩
      rcases List.mem_cons.1 hb with rfl | hb
      ·
       exact hA a ha
      ·
       exact s3 a ha b hb
     have hoks : ∀ x ∈ A ++ e :: B, entOk x = true := fun x hx => by
      rcases (hmem x).1 hx with h | rfl
      ·
       exact hok x h
      ·
       exact he
     rw [if_pos ((tonOk_iff _).2 ⟨by rw [hil]; omega, hoks, hs2⟩)]
     refine Prod.ext ?_ rfl
     refine (catM_cong 8 (fun k h1 h2 => ?_)).trans (catM_eq hs2 (fun x hx => entOk_mode (hoks x hx)))
     rw [List.filter_append]
     by_cases hke : k = e.f1
     ·
      subst hke
      have hAf : ∀ x ∈ A.filter (fun x => x.f1 == e.f1), nmLt x.f0 e.f0 = true := by
       intro x hx
       rw [List.mem_filter] at hx
       have h1 := (befE_iff x e).1 (hA x hx.1)
       have h2 : x.f1 = e.f1 := by simpa using hx.2
       rcases h1 with h | h
       ·
        omega
       ·
        exact h.2
      have hBf : ∀ x ∈ B.filter (fun x => x.f1 == e.f1), nmLt x.f0 e.f0 = false := by
       intro x hx
       rw [List.mem_filter] at hx
       have h2 : x.f1 = e.f1 := by simpa using hx.2
       cases h : nmLt x.f0 e.f0
       ·
        rfl
       ·
        have := (befE_iff x e).2 (.inr ⟨h2, h⟩)
        rw [hB x hx.1] at this; cases this
      rw [if_pos rfl, hL, List.filter_append, nmAt_split _ _ _ hAf hBf, List.take_left' rfl, List.drop_left' rfl, List.filter_cons_of_pos (by simp)]
     ·
      rw [if_neg hke, hL, List.filter_append, List.filter_cons_of_neg (by simp; exact fun h => hke h.symm)]
  ·
   rw [if_neg he, if_neg]
   rw [tonOk_iff]
   rintro ⟨_, h, _⟩
   exact he (h e ((hmem e).2 (.inr rfl)))
 ·
  rw [if_neg hk, if_neg hk]

instance decTone : DecidableEq S90 := fun a b => if h : a.f0 = b.f0 ∧ a.f1 = b.f1 then isTrue (by cases a; cases b; obtain ⟨h1, h2⟩ := h; exact congr (congrArg _ h1) h2) else isFalse (fun e => h (by rw [e]; exact ⟨rfl, rfl⟩))
theorem ins_split (Z : List S38) (e : S38) (hs : Srt Z) : ∃ A B, Z = A ++ B ∧ insAt Z (befN Z e) e = A ++ e :: B ∧ (∀ x ∈ A, befE x e = true) ∧ (∀ x ∈ B, befE x e = false) := by
 obtain ⟨A, B, hL, hAl, hA, hB⟩ := befN_split e Z hs
 refine ⟨A, B, hL, ?_, hA, hB⟩
 unfold insAt
 rw [← hAl, hL, List.take_left' rfl, List.drop_left' rfl]
theorem no_key {Z : List S38} {e : S38} (hs : Srt Z) (hh : nmHas (Z.filter (fun x => x.f1 == e.f1)) e.f0 = false) : ∀ x ∈ Z, ¬ (x.f1 = e.f1 ∧ x.f0 = e.f0) := by
 intro x hx h
 have := (nmHas_iff (srt_names hs e.f1) e.f0).2 ⟨x, by rw [List.mem_filter]; exact ⟨hx, by simp [h.1]⟩, h.2⟩
 rw [this] at hh; cases hh
theorem ins_srt {Z : List S38} {e : S38} (hs : Srt Z) (hh : nmHas (Z.filter (fun x => x.f1 == e.f1)) e.f0 = false) : Srt (insAt Z (befN Z e) e) := by
 obtain ⟨A, B, hZ, hi, hA, hB⟩ := ins_split Z e hs
 have hk := no_key hs hh
 rw [hi]
 rw [hZ] at hs
 obtain ⟨s1, s2, s3⟩ := List.pairwise_append.1 hs
 refine List.pairwise_append.2 ⟨s1, List.pairwise_cons.2 ⟨fun x hx => ?_, s2⟩, fun a ha b hb => ?_⟩
 ·
  cases h : befE e x
  ·
   exact absurd (key_same (hB x hx) h) (hk x (by rw [hZ]; exact List.mem_append_right _ hx))
  ·
   rfl
 ·
  rcases List.mem_cons.1 hb with rfl | hb
  ·
   exact hA a ha
  ·
   exact s3 a ha b hb
theorem ins_mem (Z : List S38) (n : Nat) (e x : S38) : x ∈ insAt Z n e ↔ x ∈ Z ∨ x = e := by
 unfold insAt
 rw [List.mem_append, List.mem_cons]
 have : x ∈ Z ↔ x ∈ Z.take n ∨ x ∈ Z.drop n := by rw [← List.mem_append, List.take_append_drop]
 rw [this]
 constructor
 ·
  rintro (h | h | h)
  ·
   exact .inl (.inl h)
  ·
   exact .inr h
  ·
   exact .inl (.inr h)
 ·
  rintro ((h | h) | h)
  ·
   exact .inl h
  ·
   exact .inr (.inr h)
  ·
   exact .inr (.inl h)
theorem ins_filt {Z : List S38} {e : S38} (hs : Srt Z) (k : Int) : (insAt Z (befN Z e) e).filter (fun x => x.f1 == k) = if k = e.f1 then (Z.filter (fun x => x.f1 == e.f1)).take (nmAt (Z.filter (fun x => x.f1 == e.f1)) e.f0) ++ e :: (Z.filter (fun x => x.f1 == e.f1)).drop (nmAt (Z.filter (fun x => x.f1 == e.f1)) e.f0) else Z.filter (fun x => x.f1 == k) := by
 obtain ⟨A, B, hZ, hi, hA, hB⟩ := ins_split Z e hs
 rw [hi, List.filter_append]
 by_cases hke : k = e.f1
 ·
  subst hke
  have hAf : ∀ x ∈ A.filter (fun x => x.f1 == e.f1), nmLt x.f0 e.f0 = true := by
   intro x hx
   rw [List.mem_filter] at hx
   have h1 := (befE_iff x e).1 (hA x hx.1)
   have h2 : x.f1 = e.f1 := by simpa using hx.2
   rcases h1 with h | h
   ·
    omega
   ·
    exact h.2
  have hBf : ∀ x ∈ B.filter (fun x => x.f1 == e.f1), nmLt x.f0 e.f0 = false := by
   intro x hx
   rw [List.mem_filter] at hx
   have h2 : x.f1 = e.f1 := by simpa using hx.2
   cases h : nmLt x.f0 e.f0
   ·
    rfl
   ·
    have := (befE_iff x e).2 (.inr ⟨h2, h⟩)
    rw [hB x hx.1] at this; cases this
  rw [if_pos rfl, hZ, List.filter_append, nmAt_split _ _ _ hAf hBf, List.take_left' rfl, List.drop_left' rfl, List.filter_cons_of_pos (by simp)]
 ·
  rw [if_neg hke, hZ, List.filter_append, List.filter_cons_of_neg (by simp; exact fun h => hke h.symm)]
def joinL : List S38 → List S38 → Option (List S38)
 | Z, [] => some Z
 | Z, e :: es => if nmHas (Z.filter (fun x => x.f1 == e.f1)) e.f0 = true then (if (rd_T38 (Z.filter (fun x => x.f1 == e.f1)) (nmAt (Z.filter (fun x => x.f1 == e.f1)) e.f0 : Int)).f2 = e.f2 then joinL Z es else none) else joinL (insAt Z (befN Z e) e) es
def joinRes : Option (List S38) → List S38 × Bool
 | none => ([], false)
 | some Z => if 20 < Z.length then ([], false) else (Z, true)
def tonJoin (a b : List S38) : List S38 × Bool := if tonOk a = true then (if tonOk b = true then joinRes (joinL a b) else ([], false)) else ([], false)
theorem impl_equalTones_ev (a b : List S90) (hl : a.length ≤ 1000000000000000) : Ev (fun k => impl_equalTones.f k a b) (decide (a = b)) := by
 unfold impl_equalTones.f
 by_cases hlen : (a.length : Int) = (b.length : Int)
 ·
  refine Ev.pos hlen ?_
  have key : ∀ d i : Nat, i + d = a.length → Ev (fun k => impl_equalTones.l0 k b a (a.length : Int) (i : Int)) (decide (a.drop i = b.drop i)) := by
   intro d
   induction d with
   | zero =>
    intro i hi
    refine Ev.succ ?_
    simp only [impl_equalTones.l0]
    refine Ev.neg (by omega) (Ev.eqr (Ev.now _) ?_)
    rw [List.drop_of_length_le (by omega), List.drop_of_length_le (by omega)]; rfl
   | succ d ih =>
    intro i hi
    have ha : i < a.length := by omega
    have hb : i < b.length := by omega
    have ih := ih (i + 1) (by omega)
    rw [show ((i + 1 : Nat) : Int) = (i : Int) + 1 by omega] at ih
    refine Ev.succ ?_
    simp only [impl_equalTones.l0]
    rw [w64 (x := (i : Int) + 1) (by omega) (by omega)]
    have e1 : rd_T90 a (i : Int) = a[i] := by unfold rd_T90; rw [Int.toNat_natCast, List.getD_eq_getElem?_getD, List.getElem?_eq_getElem ha]; rfl
    have e2 : rd_T90 b (i : Int) = b[i] := by unfold rd_T90; rw [Int.toNat_natCast, List.getD_eq_getElem?_getD, List.getElem?_eq_getElem hb]; rfl
    rw [e1, e2, List.drop_eq_getElem_cons ha, List.drop_eq_getElem_cons hb]
    refine Ev.pos (by omega) (Ev.pos (by omega) (Ev.pos (by omega) (Ev.pos (by omega) ?_)))
    by_cases h : a[i] = b[i]
    ·
     rw [h]
     refine Ev.neg (by simp) (Ev.eqr ih ?_)
     refine decide_eq_decide.2 ⟨fun h => by rw [h], fun h => by injection h⟩
    ·
     refine Ev.pos ?_ (Ev.eqr (Ev.now _) ?_)
     ·
      by_cases h0 : a[i].f0 = b[i].f0
      ·
       have h1 : ¬ a[i].f1 = b[i].f1 := fun h1 => h (by
        cases ha : a[i]; cases hb : b[i]
        rw [ha, hb] at h0 h1
        exact congr (congrArg _ h0) h1)
       simp [h1]
      ·
       simp [h0]
     ·
      exact (decide_eq_false (fun h2 => h (by injection h2))).symm
  exact key a.length 0 (by omega)
 ·
  refine Ev.neg hlen (Ev.eqr (Ev.now _) ?_)
  exact (decide_eq_false (fun h => hlen (by rw [h]))).symm

end Go.Proofs.YtmacedbpdhkagaaDoor.Pure
namespace Go.Proofs.YtmacedbpdhkagaaDoor.Pure
set_option linter.unusedVariables false
set_option linter.unusedSimpArgs false
open Go Go.RowKit Go.Proofs.YtmacedbpdhkagaaDoor.PFnTonaryJoin Go.Proofs.YtmacedbpdhkagaaDoorW.PrintWords Go.Proofs.YtmacedbpdhkagaaDoorW.PrintLast Go.Proofs.YtmacedbpdhkagaaDoorW.PrintMore

set_option maxHeartbeats 4000000 in
set_option maxRecDepth 100000 in
theorem impl_TonaryJoin_calls (a b : List S38) (A0 : Option Addr) (c0 : Nat) (A1 : Option Addr) (c1 : Nat) (w : World) (ht : MTab w) (hr0 : Kd.C k38 w A0 a.length a) (hc0 : a.length ≤ c0) (hr1 : Kd.C k38 w A1 b.length b) (hc1 : b.length ≤ c1) (hz0 : entSz a = true) (hz1 : entSz b = true) :
 Calls Tryd.prog 16 #[.slice A0 a.length c0, .slice A1 b.length c1] w fun r w' => ∃ v, r = .returned (.tuple #[v, .bool (tonJoin a b).2]) ∧ Kd.S k38 38 w' w.heap.size (fun _ => True) v (tonJoin a b).1 ∧ Below w.heap.size w w' := by
 have hu1 := Tryd.underlying38
 have HT := Aside0.mk ht
 have HR1 := Aside0.mk hr1
 have HC1 := Aside0.mk hc1
 have HZ := Aside0.mk (entSz_all hz1)
 have HOF := Aside0.mk (impl_tonaryOf_calls a A0 c0 w ht hr0 hc0 (entSz_all hz0))
 have HVB := Aside0.mk (fun (w3 : World) (hb : Below w.heap.size w w3) => impl_TonaryValid_calls b A1 c1 w3 (ht.below hb) (Kd.C_below hr1 hb) hc1 hz1)
 clear ht hr0 hc0 hr1 hc1 hz0 hz1
 unfold tonJoin
 cases hk : tonOk a
 ·
  rw [hk] at HOF
  rw [if_neg (by decide)]
  clear hk
  go_enter Tryd.func16, Tryd.ntmps16
  go_wp2_with (go_at_call 52; refine HOF.out.mono ?_; rintro e_ w1 ⟨p, rfl, hm, hb⟩; have HB := Aside0.mk hb; clear hm hb)
  go_ret2
  exact ⟨_, rfl, Kd.S_nil _ _ _ _ _, HB.out⟩
 rw [hk] at HOF
 rw [if_pos rfl]
 have HOKa := Aside0.mk ((tonOk_iff a).1 hk)
 clear hk
 cases hkb : tonOk b
 ·
  rw [hkb] at HVB
  rw [if_neg (by decide)]
  clear hkb
  go_enter Tryd.func16, Tryd.ntmps16
  go_wp2_with (first
   | (go_at_call 52; refine HOF.out.mono ?_; rintro e_ w1 ⟨p, rfl, hm, hb⟩; obtain ⟨M, rfl, hta⟩ := hm rfl; have HB := Aside0.mk hb; have HTM := Aside0.mk hta; clear hm hb hta)
   | (go_at_call 21; refine (HVB.out _ HB.out).mono ?_; rintro e_ w2 ⟨rfl, hb2⟩; have HB2 := Aside0.mk (below_step HB.out hb2); have HT2 := Aside0.mk hb2; clear hb2))
  go_ret2
  exact ⟨_, rfl, Kd.S_nil _ _ _ _ _, HB2.out⟩
 rw [hkb] at HVB
 rw [if_pos rfl]
 have HOKb := Aside0.mk ((tonOk_iff b).1 hkb)
 clear hkb
 obtain ⟨R, hR⟩ : ∃ R, R = joinL a b := ⟨_, rfl⟩
 rw [← hR]
 have HRR := Aside0.mk hR
 clear hR
 have hbl : b.length ≤ 20 := HOKb.out.1
 go_enter Tryd.func16, Tryd.ntmps16
 go_upto_region 4 with (first
  | (go_at_call 52; refine HOF.out.mono ?_; rintro e_ w1 ⟨p, rfl, hm, hb⟩; obtain ⟨M, rfl, hta⟩ := hm rfl; have HB := Aside0.mk hb; have HTM := Aside0.mk hta; clear hm hb hta)
  | (go_at_call 21; refine (HVB.out _ HB.out).mono ?_; rintro e_ w2 ⟨rfl, hb2⟩; have HB2 := Aside0.mk (below_step HB.out hb2); have HT2 := Aside0.mk hb2; clear hb2))
 have HTM2 := Aside0.mk (HTM.out.below HT2.out)
 clear HTM HT2
 go_wp2_with fail
 go_loopg [27] b.length (fun kq v27 w' => ∃ (i : Nat) (Z : List S38), v27 = .int .i64 (i : Int) ∧ Aside0 (kq = b.length - i ∧ i ≤ b.length ∧ joinL Z (b.drop i) = R ∧ Srt Z ∧ (∀ x ∈ Z, entOk x = true) ∧ Z.length ≤ 20 + i) ∧ Aside0 (TonMap w' w.heap.size M (fun k => Z.filter (fun x => x.f1 == k))) ∧ Aside0 (Below w.heap.size w w'))
 case atStart => exact ⟨0, a, rfl, ⟨rfl, Nat.zero_le _, HRR.out.symm, HOKa.out.2.2, HOKa.out.2.1, by have := HOKa.out.1; omega⟩, HTM2, HB2⟩
 case round =>
  clear HTM2 HB2
  obtain ⟨i, Z, rfl, HX, HTM, HB⟩ := hrel
  by_cases hi : (i : Int) < (b.length : Int)
  ·
   have d1 : decide ((i : Int) < (b.length : Int)) = true := decide_eq_true hi
   have p0 : (0 : Int) ≤ (i : Int) := by omega
   have q0 := eq_true p0
   have q1 := eq_true hi
   have q2 := eq_true (show i < b.length by omega)
   obtain ⟨ad, A2, c2, e0, ux0, ux1, ux2, hl2, hg2⟩ := at_T38 (Kd.C_below HR1.out HB.out) (i : Int) p0 hi
   subst e0
   obtain ⟨e, he⟩ : ∃ e, e = rd_T38 b (i : Int) := ⟨_, rfl⟩
   rw [← he] at ux0 ux1 ux2 hl2 hg2
   simp only [Int.toNat_natCast] at ux0 ux1 ux2
   have HG2 := Aside0.mk hg2
   have HL2 := Aside0.mk hl2
   have HE := Aside0.mk he
   have NX : Aside0 (i < b.length) := ⟨by omega⟩
   have HZE := Aside0.mk (HZ.out e (by rw [he]; exact rd_ent b i (by omega)))
   have HEOK := Aside0.mk (HOKb.out.2.1 e (by rw [he]; exact rd_ent b i (by omega)))
   have hfl : e.f2.length ≤ 1000000000000 := HZE.out.2
   obtain ⟨own, F, hTA⟩ := HTM.out
   have HTA0 := Aside0.mk hTA
   have HW := Aside0.mk (w64 (x := (i : Int) + 1) (by omega) (by omega))
   have HJ : Aside0 (joinL Z (e :: b.drop (i + 1)) = R) := ⟨by have := HX.out.2.2.1; rw [rd_drop b i NX.out, ← HE.out] at this; exact this⟩
   clear hTA hg2 hl2 he
   go_upto_region 7 with ((with_reducible refine gate_dst (N := 9) rfl ?_); refine box_event ?hg (N := 9) ?hd (cs := #[.string ⟨#[]⟩, .int .i64 0, .slice none 0 0]) (t := 38) ?hr ?_; (case hd => rfl); (case hg => rfl); (case hr => first | (go_simp; done) | (go_simp; rfl)); intro g6 hg w6 hbox hb; have HK6 := Aside0.mk hbox; have HB6 := Aside0.mk hb; have N6 := Aside0.mk (show wr.heap.size ≤ g6 from (by rw [hg]; exact Nat.le_refl _)); have cz0 : w6.cell? ⟨g6, 0, none⟩ = some (.string ⟨#[]⟩) := (blk_cell HK6.out 0).trans rfl; have cz1 : w6.cell? ⟨g6, 1, none⟩ = some (.int .i64 0) := (blk_cell HK6.out 1).trans rfl; have cz2 : w6.cell? ⟨g6, 2, none⟩ = some (.slice none 0 0) := (blk_cell HK6.out 2).trans rfl; have fz0 := blk_frozen HK6.out 0; have fz1 := blk_frozen HK6.out 1; have fz2 := blk_frozen HK6.out 2; clear hg hbox hb)
   have W6 : Aside0 ((((w6.setCell ⟨g6, 0, none⟩ (.string e.f0)).setCell ⟨g6, 1, none⟩ (.int .i64 e.f1)).setCell ⟨g6, 2, none⟩ (.slice A2 e.f2.length c2)).heap[g6]? = some (.cells #[.string e.f0, .int .i64 e.f1, .slice A2 e.f2.length c2] 38 (0, 0))) := ⟨blk_put (cs := #[.string e.f0, .int .i64 e.f1, .slice none 0 0]) (blk_put (cs := #[.string e.f0, .int .i64 0, .slice none 0 0]) (blk_put (cs := #[.string ⟨#[]⟩, .int .i64 0, .slice none 0 0]) HK6.out 0 _ rfl) 1 _ rfl) 2 _ rfl⟩
   have HB7 : Aside0 (Below wr.heap.size wr (((w6.setCell ⟨g6, 0, none⟩ (.string e.f0)).setCell ⟨g6, 1, none⟩ (.int .i64 e.f1)).setCell ⟨g6, 2, none⟩ (.slice A2 e.f2.length c2))) := ⟨below_set (below_set (below_set HB6.out N6.out) N6.out) N6.out⟩
   clear HK6 HB6 cz0 cz1 cz2 fz0 fz1 fz2 ux0 ux1 ux2
   generalize (((w6.setCell ⟨g6, 0, none⟩ (.string e.f0)).setCell ⟨g6, 1, none⟩ (.int .i64 e.f1)).setCell ⟨g6, 2, none⟩ (.slice A2 e.f2.length c2)) = w7 at W6 HB7 ⊢
   have HNE := Aside0.mk (HTA0.out.ne e.f1 g6 N6.out)
   have NM7 : Aside0 (g6 ≠ M) := ⟨by have h1 := HTA0.out.2.1.lt; have h2 := N6.out; omega⟩
   have HTA7 := Aside0.mk (HTA0.out.below HB7.out)
   have HBW7 := Aside0.mk (below_step HB.out HB7.out)
   have HG7 := Aside0.mk (Kd.C_below HG2.out HB7.out)
   have y0 : w7.cell? ⟨g6, 0, none⟩ = some (.string e.f0) := (blk_cell W6.out 0).trans rfl
   have y1 : w7.cell? ⟨g6, 1, none⟩ = some (.int .i64 e.f1) := (blk_cell W6.out 1).trans rfl
   have y2 : w7.cell? ⟨g6, 2, none⟩ = some (.slice A2 e.f2.length c2) := (blk_cell W6.out 2).trans rfl
   clear HTA0 HB7 HTM HB HG2
   obtain ⟨X, hX⟩ : ∃ X, X = Z.filter (fun x => x.f1 == e.f1) := ⟨_, rfl⟩
   have hXl : X.length ≤ 60 := by rw [hX]; exact Nat.le_trans (List.length_filter_le _ _) (by have := HX.out; omega)
   have HXX := Aside0.mk hX
   have hfc := fun (w1 : World) (base M : Nat) (own : Nat → Int) (F : Int → Option Value) (hta : TonAt w1 base M own F (fun k => Z.filter (fun x => x.f1 == k))) => find_calls w1 base M own F _ e.f1 e.f0 hta (by rw [← HXX.out]; omega) (srt_names HX.out.2.2.2.1 e.f1)
   rw [← hX] at hfc
   obtain ⟨j, hj⟩ : ∃ j, j = nmAt X e.f0 := ⟨_, rfl⟩
   have hjl : j ≤ X.length := by rw [hj]; exact nmAt_le X e.f0
   rw [← hj] at hfc
   have HJJ := Aside0.mk hj
   have HFC := Aside0.mk hfc
   clear hfc hX hj
   cases hf : nmHas X e.f0
   ·
    rw [hf] at HFC
    have hJ2 : joinL (insAt Z (befN Z e) e) (b.drop (i + 1)) = R := by
     have := HJ.out
     simp only [joinL] at this
     rw [← HXX.out, hf] at this
     exact this
    have HJ2 := Aside0.mk hJ2
    have HNH : Aside0 (nmHas (Z.filter (fun x => x.f1 == e.f1)) e.f0 = false) := ⟨by rw [← HXX.out]; exact hf⟩
    clear hf hJ2
    go_upto_region 9 with (go_at_call 53; refine (HFC.out _ _ M own F HTA7.out).mono ?_; rintro e_ w2_ ⟨rfl, hb2⟩; have HB8 := Aside0.mk hb2; clear hb2)
    obtain ⟨w8, rfl⟩ : ∃ w8, w8 = w2_ := ⟨_, rfl⟩
    have HTA8 := Aside0.mk (HTA7.out.below HB8.out)
    have K8 := Aside0.mk (blk_below W6.out HB8.out)
    have HBW8 := Aside0.mk (below_step HBW7.out HB8.out)
    have HGD := Aside0.mk (Kd.C_drew (Kd.C_below HG7.out HB8.out))
    clear y0 y1 y2 HTA7 W6 HG7
    have y0 : w8.drew.cell? ⟨g6, 0, none⟩ = some (.string e.f0) := (blk_cell K8.out 0).trans rfl
    have y1 : w8.drew.cell? ⟨g6, 1, none⟩ = some (.int .i64 e.f1) := (blk_cell K8.out 1).trans rfl
    have y2 : w8.drew.cell? ⟨g6, 2, none⟩ = some (.slice A2 e.f2.length c2) := (blk_cell K8.out 2).trans rfl
    obtain ⟨v0, hv0⟩ : ∃ v0, v0 = (F e.f1).getD (.slice none 0 0) := ⟨_, rfl⟩
    have HV0 := Aside0.mk hv0
    clear hv0
    have lkA : (Instr.lookup 72 (.map (some M)) (.int .i64 e.f1) false).run Tryd.prog w8.drew = .ok v0 w8.drew := by rw [HV0.out]; exact (HTA8.out.below (below_drew1 (Below.refl _ _))).look e.f1
    have HCP := Aside0.mk (show impl_Entry_copied.f e.f0 e.f1 e.f2 = some (e.f0, e.f1, e.f2) by unfold impl_Entry_copied.f impl_copiedTones.f; rw [if_pos hfl]; rfl)
    have NE3 : Aside0 (some g6 ≠ v0.ownBlock) := ⟨fun h => by
     have h1 := HNE.out
     rw [← HV0.out] at h1
     exact h1 h⟩
    have NM3 : Aside0 (g6 ≠ M) := NM7
    go_region_held3 (fun w' => w'.cell? ⟨g6, 0, none⟩ = some (.string e.f0) ∧ w'.cell? ⟨g6, 1, none⟩ = some (.int .i64 e.f1) ∧ w'.cell? ⟨g6, 2, none⟩ = some (.slice A2 e.f2.length c2))
     (first
      | exact ⟨y0, y1, y2⟩
      | go_keep
      | exact ⟨pw_cell_below hb12 y0, pw_cell_below hb12 y1, pw_cell_below hb12 y2⟩
      | exact ⟨pw_cell_below (below_alloc (Below.refl _ _) _) (pw_cell_below hb12 y0), pw_cell_below (below_alloc (Below.refl _ _) _) (pw_cell_below hb12 y1), pw_cell_below (below_alloc (Below.refl _ _) _) (pw_cell_below hb12 y2)⟩
      | exact ⟨cell_grown hg13 (pw_cell_below (below_alloc (Below.refl _ _) _) (pw_cell_below hb12 y0)) NE3.out, cell_grown hg13 (pw_cell_below (below_alloc (Below.refl _ _) _) (pw_cell_below hb12 y1)) NE3.out, cell_grown hg13 (pw_cell_below (below_alloc (Below.refl _ _) _) (pw_cell_below hb12 y2)) NE3.out⟩
      | exact ⟨cell_setBlock (cell_grown hg13 (pw_cell_below (below_alloc (Below.refl _ _) _) (pw_cell_below hb12 y0)) NE3.out) NM3.out, cell_setBlock (cell_grown hg13 (pw_cell_below (below_alloc (Below.refl _ _) _) (pw_cell_below hb12 y1)) NE3.out) NM3.out, cell_setBlock (cell_grown hg13 (pw_cell_below (below_alloc (Below.refl _ _) _) (pw_cell_below hb12 y2)) NE3.out) NM3.out⟩
      | fail)
     (first
      | (go_at_call 55; (with_reducible refine (impl_Entry_copied.calls e.f0 e.f1 A2 c2 e.f2 e.f0 e.f1 e.f2 w8.drew HGD.out HL2.out HCP.out).mono ?_); rintro e_ w12 ⟨v2, rfl, ho2, hb12⟩; obtain ⟨Av, cv, rfl⟩ := Kd.R_slice ho2; have hbW : Below w8.heap.size w8 w12 := below_step (below_drew1 (Below.refl _ _)) hb12; have lkB := (HTA8.out.below hbW).look e.f1; rw [← HV0.out] at lkB; have hbA : Below w8.heap.size w8 (w12.alloc (.cells #[.string e.f0, .int .i64 e.f1, .slice Av e.f2.length cv] 38 (0, 0))) := below_step hbW (below_alloc (Below.refl _ _) _); have lkC := (HTA8.out.below hbA).look e.f1; rw [← HV0.out] at lkC; have HM2 := Aside0.mk (Kd.M_alloc (k38_mkM w12 w.heap.size (fun b => w8.heap.size ≤ b) e (Kd.R_lower (Kd.R_mono (Kd.R_bound ho2) (fun b hb => hb.2.1)) HBW8.out.size)) (.cells #[.string e.f0, .int .i64 e.f1, .slice Av e.f2.length cv] 38 (0, 0))); have HO12 := Aside0.mk (show Kd.S k38 38 (w12.alloc (.cells #[.string e.f0, .int .i64 e.f1, .slice Av e.f2.length cv] 38 (0, 0))) w.heap.size (fun b => (own b = e.f1 ∧ b ≠ M) ∧ b < w8.heap.size) v0 X by (rw [HV0.out, HXX.out]; exact Kd.S_below (TonAt.bound (HTA8.out.row e.f1)) hbA)); have HBA := Aside0.mk hbA; have HBWW := Aside0.mk hbW; clear ho2 hbW hbA)
      | (go_at_call 54; refine (insert_S v0 X e j w12.heap.size w.heap.size [.string e.f0, .int .i64 e.f1, .slice Av e.f2.length cv] (fun b => (own b = e.f1 ∧ b ≠ M) ∧ b < w8.heap.size) (fun b => w8.heap.size ≤ b) (fun b => (own b = e.f1 ∧ b ≠ M) ∨ w8.heap.size ≤ b) _ HO12.out HM2.out (fun k hk h => by omega) (fun k hk => .inl hk.1) (fun k hk => .inr hk) (fun k hk => .inr (Nat.le_trans HBA.out.size hk)) (blk_new w12 _) (fun h => HTA8.out.ne e.f1 w12.heap.size HBWW.out.size (by rw [← HV0.out]; exact h.symm)) hjl (by omega) (Nat.le_trans HBW8.out.size HBA.out.size)).mono ?_; rintro e_ w13 ⟨v13, rfl, ho13, hg13, hat13⟩; obtain ⟨es, clk, hput, hmap⟩ := TonAt.append HTA8.out HBA.out (by rw [← HV0.out]; exact hg13) ho13; have HMAP := Aside0.mk hmap; have HB13 := Aside0.mk (pw_below_grown (below_step HBW8.out HBA.out) _ (below_step HBW8.out HBA.out).size hg13 (fun k e_ => Kd.S_base HO12.out k e_)); clear hmap ho13 hat13)
      | fail)
    all_goals
     have HBE := Aside0.mk (below_setBlock HB13.out HTA8.out.1 (o := .map es clk))
     have HMX := Aside0.mk (HMAP.out.cong (G' := fun k => (insAt Z (befN Z e) e).filter (fun x => x.f1 == k)) (fun k => by rw [ins_filt HX.out.2.2.2.1 k, ← HXX.out, ← HJJ.out]))
     clear HB13 HMAP hput hg13 hb12
     generalize ChangeMaps.setBlock w13 M (.map es clk) = w14 at HBE HMX ⊢
     have NX2 : Aside0 (b.length - (i + 1) < gk) := ⟨by have h1 := HX.out.1; have h2 := NX.out; omega⟩
     have HXN : Aside0 (i + 1 ≤ b.length ∧ Srt (insAt Z (befN Z e) e) ∧ (∀ x ∈ insAt Z (befN Z e) e, entOk x = true) ∧ (insAt Z (befN Z e) e).length ≤ 20 + (i + 1)) := ⟨by have := NX.out; omega, ins_srt HX.out.2.2.2.1 HNH.out, fun x hx => by rcases (ins_mem Z _ e x).1 hx with h | rfl; exact HX.out.2.2.2.2.1 x h; exact HEOK.out, by rw [insAt_len]; have := HX.out.2.2.2.2.2; omega⟩
     go_wp2
     go_roundg (b.length - (i + 1))
     case measure => exact NX2.out
     case rel => exact ⟨i + 1, _, by first | rfl | (rw [HW.out]; rfl), ⟨rfl, HXN.out.1, HJ2.out, HXN.out.2.1, HXN.out.2.2.1, HXN.out.2.2.2⟩, HMX, HBE⟩
   ·
    rw [hf] at HFC
    have hlt : j < X.length := by
     unfold nmHas at hf
     rw [Bool.and_eq_true, ← HJJ.out] at hf
     exact of_decide_eq_true hf.1
    have hJ2 : (if (rd_T38 X (j : Int)).f2 = e.f2 then joinL Z (b.drop (i + 1)) else none) = R := by
     have := HJ.out
     simp only [joinL] at this
     rw [← HXX.out, hf, if_pos rfl, ← HJJ.out] at this
     exact this
    have HJ2 := Aside0.mk hJ2
    clear hf hJ2
    go_upto_region 10 with (go_at_call 53; refine (HFC.out _ _ M own F HTA7.out).mono ?_; rintro e_ w2_ ⟨rfl, hb2⟩; have HB8 := Aside0.mk hb2; clear hb2)
    obtain ⟨w8, rfl⟩ : ∃ w8, w8 = w2_ := ⟨_, rfl⟩
    have HTA8 := Aside0.mk (HTA7.out.below HB8.out)
    have K8 := Aside0.mk (blk_below W6.out HB8.out)
    have HBW8 := Aside0.mk (below_step HBW7.out HB8.out)
    have HGD := Aside0.mk (Kd.C_drew (Kd.C_below HG7.out HB8.out))
    clear y0 y1 y2 HTA7 W6 HG7
    have y0 : w8.drew.cell? ⟨g6, 0, none⟩ = some (.string e.f0) := (blk_cell K8.out 0).trans rfl
    have y1 : w8.drew.cell? ⟨g6, 1, none⟩ = some (.int .i64 e.f1) := (blk_cell K8.out 1).trans rfl
    have y2 : w8.drew.cell? ⟨g6, 2, none⟩ = some (.slice A2 e.f2.length c2) := (blk_cell K8.out 2).trans rfl
    obtain ⟨AX, cX, hv, hcX, hCX⟩ := Kd.S_reads (HTA8.out.row e.f1)
    have hv2 : (F e.f1).getD (.slice none 0 0) = .slice AX X.length cX := by rw [HXX.out]; exact hv
    have hCX2 : Kd.C k38 w8 AX X.length X := by rw [HXX.out]; exact hCX
    have lkA : (Instr.lookup 72 (.map (some M)) (.int .i64 e.f1) false).run Tryd.prog w8.drew = .ok (.slice AX X.length cX) w8.drew := by rw [← hv2]; exact (HTA8.out.below (below_drew1 (Below.refl _ _))).look e.f1
    have s0 : (0 : Int) ≤ (j : Int) := by omega
    have s1 : (j : Int) < (X.length : Int) := by omega
    obtain ⟨xd, A3, c3, ex, vx0, vx1, vx2, hl3, hg3⟩ := at_T38 (Kd.C_drew hCX2) (j : Int) s0 s1
    subst ex
    simp only [Int.toNat_natCast] at vx0 vx1 vx2
    obtain ⟨x, hx⟩ : ∃ x, x = rd_T38 X (j : Int) := ⟨_, rfl⟩
    rw [← hx] at vx2 hl3 hg3 HJ2
    have HG3 := Aside0.mk hg3
    have HL3 := Aside0.mk hl3
    obtain ⟨kt, hkt⟩ := Ev.rounds (impl_equalTones_ev x.f2 e.f2 (by
     have h1 : entOk x = true := by
      rw [hx]
      have := rd_ent X j hlt
      have h2 : rd_T38 X (j : Int) ∈ Z := (fun y (hy : y ∈ X) => by rw [HXX.out] at hy; exact (List.mem_filter.1 hy).1 : ∀ y ∈ X, y ∈ Z) _ (rd_ent X j hlt)
      exact HX.out.2.2.2.2.1 _ h2
     have := entOk_len h1
     omega))
    have HKT := Aside0.mk hkt
    clear hv hv2 hcX hCX hCX2 hg3 hl3 hx hkt vx0 vx1
    by_cases hsame : x.f2 = e.f2
    ·
     rw [if_pos hsame] at HJ2
     rw [decide_eq_true hsame] at HKT
     clear hsame
     go_region_held3 (fun w' => w'.cell? ⟨g6, 1, none⟩ = some (.int .i64 e.f1) ∧ w'.cell? ⟨g6, 2, none⟩ = some (.slice A2 e.f2.length c2) ∧ w'.cell? ⟨(xd.add (j * 3)).block, (xd.add (j * 3)).off + 2, none⟩ = some (.slice A3 x.f2.length c3))
      (first
       | exact ⟨y1, y2, vx2⟩
       | go_keep
       | exact ⟨pw_cell_below hb11 y1, pw_cell_below hb11 y2, pw_cell_below hb11 vx2⟩
       | fail)
      (first
       | (go_at_call 56; refine (impl_equalTones.calls kt A3 c3 x.f2 A2 c2 e.f2 true w8.drew HG3.out HL3.out HGD.out HL2.out HKT.out).mono ?_; rintro e_ w11 ⟨rfl, hb11⟩; have HB11 := Aside0.mk (below_step (below_drew1 (Below.refl w8.heap.size w8)) hb11))
       | fail)
     have HBE := Aside0.mk (below_step HBW8.out HB11.out)
     have HMX := Aside0.mk (show TonMap w11 w.heap.size M (fun k => Z.filter (fun x => x.f1 == k)) from ⟨own, F, HTA8.out.below HB11.out⟩)
     have NX2 : Aside0 (b.length - (i + 1) < gk) := ⟨by have h1 := HX.out.1; have h2 := NX.out; omega⟩
     clear hb11
     go_wp2
     go_roundg (b.length - (i + 1))
     case measure => exact NX2.out
     case rel => exact ⟨i + 1, Z, by first | rfl | (rw [HW.out]; rfl), ⟨rfl, by have := NX.out; omega, HJ2.out, HX.out.2.2.2.1, HX.out.2.2.2.2.1, by have := HX.out.2.2.2.2.2; omega⟩, HMX, HBE⟩
    ·
     rw [if_neg hsame] at HJ2
     rw [decide_eq_false hsame] at HKT
     clear hsame
     go_region_held3 (fun w' => w'.cell? ⟨g6, 1, none⟩ = some (.int .i64 e.f1) ∧ w'.cell? ⟨g6, 2, none⟩ = some (.slice A2 e.f2.length c2) ∧ w'.cell? ⟨(xd.add (j * 3)).block, (xd.add (j * 3)).off + 2, none⟩ = some (.slice A3 x.f2.length c3))
      (first
       | exact ⟨y1, y2, vx2⟩
       | go_keep
       | exact ⟨pw_cell_below hb11 y1, pw_cell_below hb11 y2, pw_cell_below hb11 vx2⟩
       | fail)
      (first
       | (go_at_call 56; refine (impl_equalTones.calls kt A3 c3 x.f2 A2 c2 e.f2 false w8.drew HG3.out HL3.out HGD.out HL2.out HKT.out).mono ?_; rintro e_ w11 ⟨rfl, hb11⟩; have HB11 := Aside0.mk (below_step (below_drew1 (Below.refl w8.heap.size w8)) hb11))
       | fail)
     clear hb11
     go_wp2
     go_ret2
     exact ⟨_, by rw [← HJ2.out]; rfl, by rw [← HJ2.out]; exact Kd.S_nil _ _ _ _ _, below_step HBW8.out HB11.out⟩
  ·
   have d1 : decide ((i : Int) < (b.length : Int)) = false := decide_eq_false hi
   have hib : b.drop i = [] := List.drop_of_length_le (by omega)
   have hRZ : R = some Z := by have := HX.out.2.2.1; rw [hib] at this; exact this.symm
   have HRZ := Aside0.mk hRZ
   clear hib hRZ
   have HL := Aside0.mk (impl_list_calls w wr M _ HB.out HTM.out (fun k => Nat.le_trans (List.length_filter_le _ _) (by have := HX.out; omega)))
   have HCE := Aside0.mk (catM_eq HX.out.2.2.2.1 (fun x hx => entOk_mode (HX.out.2.2.2.2.1 x hx)))
   have hzl : Z.length ≤ 60 := by have := HX.out; omega
   go_upto_region 14 with (go_at_call 57; refine HL.out.mono ?_; rintro e_ w7 ⟨v, rfl, ho7, hb7⟩; rw [HCE.out] at ho7; have HO7 := Aside0.mk ho7; have HB7 := Aside0.mk hb7; obtain ⟨AZ, cZ, rfl⟩ := Kd.S_slice ho7; clear ho7 hb7)
   by_cases hz : 20 < Z.length
   ·
    have d2 : decide (20 < (Z.length : Int)) = true := decide_eq_true (by omega)
    have d2' : decide (20 < Z.length) = true := decide_eq_true hz
    have HRES : Aside0 (joinRes R = ([], false)) := ⟨by rw [HRZ.out]; exact if_pos hz⟩
    clear hz
    go_wp2
    go_ret2
    exact ⟨_, by rw [HRES.out]; rfl, by rw [HRES.out]; exact Kd.S_nil _ _ _ _ _, HB7.out⟩
   ·
    have d2 : decide (20 < (Z.length : Int)) = false := decide_eq_false (by omega)
    have d2' : decide (20 < Z.length) = false := decide_eq_false hz
    have HRES : Aside0 (joinRes R = (Z, true)) := ⟨by rw [HRZ.out]; exact if_neg hz⟩
    clear hz
    go_wp2
    go_ret2
    exact ⟨_, by rw [HRES.out]; rfl, by rw [HRES.out]; exact HO7.out, HB7.out⟩

end Go.Proofs.YtmacedbpdhkagaaDoor.Pure
namespace Go.Proofs.YtmacedbpdhkagaaDoor.Pure
set_option linter.unusedVariables false
set_option linter.unusedSimpArgs false
open Go Go.RowKit Go.Proofs.YtmacedbpdhkagaaDoor.PFnTonaryJoin Go.Proofs.YtmacedbpdhkagaaDoorW.PrintWords Go.Proofs.YtmacedbpdhkagaaDoorW.PrintLast Go.Proofs.YtmacedbpdhkagaaDoorW.PrintMore

def mrg : List S38 → List S38 → Option (List S38)
 | [], ws => some ws
 | a :: us, [] => some (a :: us)
 | a :: us, b :: ws => if befE a b = true then (mrg us (b :: ws)).map (a :: ·) else if befE b a = true then (mrg (a :: us) ws).map (b :: ·) else if a.f2 = b.f2 then (mrg us ws).map (a :: ·) else none
termination_by us ws => us.length + ws.length
theorem mrg_nil (ws : List S38) : mrg [] ws = some ws := by rw [mrg]
theorem mrg_nil2 (us : List S38) : mrg us [] = some us := by
 cases us with
 | nil => rw [mrg]
 | cons a us => rw [mrg]
theorem mrg_lt {a b : S38} (us ws : List S38) (h : befE a b = true) : mrg (a :: us) (b :: ws) = (mrg us (b :: ws)).map (a :: ·) := by rw [mrg, if_pos h]
theorem mrg_gt {a b : S38} (us ws : List S38) (h : befE a b = false) (h2 : befE b a = true) : mrg (a :: us) (b :: ws) = (mrg (a :: us) ws).map (b :: ·) := by rw [mrg, if_neg (by rw [h]; decide), if_pos h2]
theorem mrg_eq {a b : S38} (us ws : List S38) (h : befE a b = false) (h2 : befE b a = false) : mrg (a :: us) (b :: ws) = if a.f2 = b.f2 then (mrg us ws).map (a :: ·) else none := by rw [mrg, if_neg (by rw [h]; decide), if_neg (by rw [h2]; decide)]
theorem map_app (A : List S38) (a : S38) (o : Option (List S38)) : (o.map (A ++ ·)).map (a :: ·) = o.map ((a :: A) ++ ·) := by cases o <;> rfl
theorem mrg_pre : ∀ (A B ys : List S38), (∀ x ∈ A, ∀ y, ys.head? = some y → befE x y = true) → mrg (A ++ B) ys = (mrg B ys).map (A ++ ·)
 | [], B, ys, _ => by cases h : mrg B ys <;> simp [h]
 | a :: A, B, [], _ => by rw [mrg_nil2, mrg_nil2]; rfl
 | a :: A, B, y :: ys, h => by
  rw [List.cons_append, mrg_lt _ _ (h a List.mem_cons_self y rfl), mrg_pre A B (y :: ys) (fun x hx => h x (List.mem_cons_of_mem _ hx)), map_app]
theorem same_lt {a e y : S38} (h1 : a.f1 = e.f1) (h0 : a.f0 = e.f0) (h : befE e y = true) : befE a y = true := by
 rw [befE_iff] at h ⊢
 rw [h1, h0]; exact h
theorem same_gt {a e y : S38} (h1 : a.f1 = e.f1) (h0 : a.f0 = e.f0) (h : befE y a = true) : befE y e = true := by
 rw [befE_iff] at h ⊢
 rw [← h1, ← h0]; exact h
theorem joinL_mrg : ∀ (b Z : List S38), Srt Z → Srt b → joinL Z b = mrg Z b
 | [], Z, _, _ => by rw [mrg_nil2]; rfl
 | e :: es, Z, hZ, hb => by
  obtain ⟨hb1, hb2⟩ := List.pairwise_cons.1 hb
  obtain ⟨A, B, hAB, hins, hA, hB⟩ := ins_split Z e hZ
  have hhead : ∀ y, es.head? = some y → befE e y = true := fun y hy => hb1 y (by cases es with | nil => cases hy | cons z zs => cases hy; exact List.mem_cons_self)
  have hpre : mrg Z (e :: es) = (mrg B (e :: es)).map (A ++ ·) := by
   rw [hAB]
   exact mrg_pre A B (e :: es) (fun x hx y hy => by cases hy; exact hA x hx)
  rw [hpre]
  simp only [joinL]
  cases hh : nmHas (Z.filter (fun x => x.f1 == e.f1)) e.f0
  ·
   rw [if_neg (by decide), joinL_mrg es _ (ins_srt hZ hh) hb2, hins]
   have hk := no_key hZ hh
   have hB2 : mrg B (e :: es) = (mrg B es).map (e :: ·) := by
    cases B with
    | nil => rw [mrg_nil, mrg_nil]; rfl
    | cons b0 B =>
     have h1 := hB b0 List.mem_cons_self
     refine mrg_gt _ _ h1 ?_
     cases h2 : befE e b0
     ·
      exact absurd (key_same h1 h2) (hk b0 (by rw [hAB]; exact List.mem_append_right _ List.mem_cons_self))
     ·
      rfl
   rw [hB2, show A ++ e :: B = (A ++ [e]) ++ B by simp, mrg_pre (A ++ [e]) B es (fun x hx y hy => by
    rcases List.mem_append.1 hx with hx | hx
    ·
     exact befE_trans (hA x hx) (hhead y hy)
    ·
     rw [List.mem_singleton.1 hx]; exact hhead y hy)]
   cases mrg B es <;> simp
  ·
   rw [if_pos rfl]
   obtain ⟨x, hx, hn⟩ := (nmHas_iff (srt_names hZ e.f1) e.f0).1 hh
   rw [List.mem_filter] at hx
   have hm : x.f1 = e.f1 := by simpa using hx.2
   have hxB : x ∈ B := by
    have := hx.1
    rw [hAB, List.mem_append] at this
    rcases this with h | h
    ·
     have h2 := hA x h
     rw [befE_iff, hn, nmLt_irrefl] at h2
     rcases h2 with h | ⟨_, h⟩
     ·
      omega
     ·
      cases h
    ·
     exact h
   cases B with
   | nil => cases hxB
   | cons b0 B =>
    have h0 := hB b0 List.mem_cons_self
    have hb0 : b0 = x := by
     rcases List.mem_cons.1 hxB with h | h
     ·
      exact h.symm
     ·
      rw [hAB] at hZ
      have h3 := (List.pairwise_cons.1 (List.pairwise_append.1 hZ).2.1).1 x h
      rw [same_gt hm hn h3] at h0; cases h0
    subst hb0
    have h0' : befE e b0 = false := by
     cases h : befE e b0
     ·
      rfl
     ·
      rw [befE_iff, hn, nmLt_irrefl] at h
      rcases h with h | ⟨_, h⟩
      ·
       omega
      ·
       cases h
    have hAf : ∀ x ∈ A.filter (fun x => x.f1 == e.f1), nmLt x.f0 e.f0 = true := by
     intro x hx
     rw [List.mem_filter] at hx
     have h1 := (befE_iff x e).1 (hA x hx.1)
     have h2 : x.f1 = e.f1 := by simpa using hx.2
     rcases h1 with h | h
     ·
      omega
     ·
      exact h.2
    have hBf : ∀ x ∈ (b0 :: B).filter (fun x => x.f1 == e.f1), nmLt x.f0 e.f0 = false := by
     intro x hx
     rw [List.mem_filter] at hx
     have h2 : x.f1 = e.f1 := by simpa using hx.2
     cases h : nmLt x.f0 e.f0
     ·
      rfl
     ·
      have := (befE_iff x e).2 (.inr ⟨h2, h⟩)
      rw [hB x hx.1] at this; cases this
    have hrd : rd_T38 (Z.filter (fun x => x.f1 == e.f1)) (nmAt (Z.filter (fun x => x.f1 == e.f1)) e.f0 : Int) = b0 := by
     rw [hAB, List.filter_append, nmAt_split _ _ _ hAf hBf]
     unfold rd_T38
     rw [Int.toNat_natCast, List.getD_eq_getElem?_getD, List.getElem?_append_right (Nat.le_refl _), Nat.sub_self, List.filter_cons_of_pos (by simp [hm])]
     rfl
    rw [hrd, mrg_eq _ _ h0 h0']
    by_cases hs : b0.f2 = e.f2
    ·
     rw [if_pos hs, if_pos hs, joinL_mrg es Z hZ hb2, hAB, show A ++ b0 :: B = (A ++ [b0]) ++ B by simp, mrg_pre (A ++ [b0]) B es (fun x hx y hy => by
      rcases List.mem_append.1 hx with hx | hx
      ·
       exact befE_trans (hA x hx) (hhead y hy)
      ·
       rw [List.mem_singleton.1 hx]; exact same_lt hm hn (hhead y hy))]
     cases mrg B es <;> simp
    ·
     rw [if_neg hs, if_neg hs]; rfl
theorem joinL_inv : ∀ (b Z Y : List S38), Srt Z → (∀ x ∈ Z, entOk x = true) → (∀ x ∈ b, entOk x = true) → joinL Z b = some Y → Srt Y ∧ ∀ x ∈ Y, entOk x = true
 | [], Z, Y, hZ, hz, _, h => by
  have h : some Z = some Y := h
  cases h
  exact ⟨hZ, hz⟩
 | e :: es, Z, Y, hZ, hz, hb, h => by
  simp only [joinL] at h
  cases hh : nmHas (Z.filter (fun x => x.f1 == e.f1)) e.f0
  ·
   rw [hh, if_neg (by decide)] at h
   refine joinL_inv es _ Y (ins_srt hZ hh) (fun x hx => ?_) (fun x hx => hb x (List.mem_cons_of_mem _ hx)) h
   rcases (ins_mem Z _ e x).1 hx with h | rfl
   ·
    exact hz x h
   ·
    exact hb x List.mem_cons_self
  ·
   rw [hh, if_pos rfl] at h
   split at h
   ·
    exact joinL_inv es Z Y hZ hz (fun x hx => hb x (List.mem_cons_of_mem _ hx)) h
   ·
    cases h
def mrgRes : Option (List S38) → List S38 × Bool
 | none => ([], false)
 | some Z => tonRes Z
theorem tonJoin_eq (a b : List S38) : tonJoin a b = if tonOk a = true then (if tonOk b = true then mrgRes (mrg a b) else ([], false)) else ([], false) := by
 unfold tonJoin
 by_cases ha : tonOk a = true
 ·
  rw [if_pos ha, if_pos ha]
  by_cases hb : tonOk b = true
  ·
   rw [if_pos hb, if_pos hb]
   obtain ⟨_, oka, sa⟩ := (tonOk_iff a).1 ha
   obtain ⟨_, okb, sb⟩ := (tonOk_iff b).1 hb
   rw [← joinL_mrg b a sa sb]
   cases h : joinL a b with
   | none => rfl
   | some Y =>
    obtain ⟨h1, h2⟩ := joinL_inv b a Y sa oka okb h
    show (if 20 < Y.length then ([], false) else (Y, true)) = tonRes Y
    unfold tonRes
    by_cases hy : 20 < Y.length
    ·
     rw [if_pos hy, if_neg]
     rw [tonOk_iff]
     rintro ⟨h, _⟩
     omega
    ·
     rw [if_neg hy, if_pos ((tonOk_iff Y).2 ⟨by omega, h2, h1⟩)]
  ·
   rw [if_neg hb, if_neg hb]
 ·
  rw [if_neg ha, if_neg ha]

end Go.Proofs.YtmacedbpdhkagaaDoor.Pure
namespace Go.Proofs.YtmacedbpdhkagaaDoor.PFnTonaryJoin
set_option linter.unusedVariables false
set_option linter.unusedSimpArgs false
open Go Go.RowKit Go.Proofs.YtmacedbpdhkagaaDoor.Pure Go.Proofs.YtmacedbpdhkagaaDoorW.PrintWords Go.Proofs.YtmacedbpdhkagaaDoorW.PrintLast Go.Proofs.YtmacedbpdhkagaaDoorW.PrintMore
def impl_TonaryValid.f (l0 : List S38) : Option (Bool) := if entSz l0 = true then some (tonOk l0) else none
theorem impl_TonaryValid.calls (A0 : Option Addr) (c0 : Nat) (l0 : List S38) (r : Bool) (w : World) (ht : MTab w) (hr0 : Kd.C k38 w A0 l0.length l0) (hc0 : l0.length ≤ c0) (h : impl_TonaryValid.f l0 = some r) :
 Calls Tryd.prog 21 #[.slice A0 l0.length c0] w fun e w' => e = .returned (.bool r) ∧ Below w.heap.size w w' := by
 unfold impl_TonaryValid.f at h; split at h
 ·
  rename_i hh
  injection h with h
  subst h; exact impl_TonaryValid_calls l0 A0 c0 w ht hr0 hc0 hh
 ·
  cases h

end Go.Proofs.YtmacedbpdhkagaaDoor.PFnTonaryJoin
namespace Go.Proofs.YtmacedbpdhkagaaDoor.PFnTonaryJoin
set_option linter.unusedVariables false
set_option linter.unusedSimpArgs false
open Go Go.RowKit Go.Proofs.YtmacedbpdhkagaaDoor.Pure Go.Proofs.YtmacedbpdhkagaaDoorW.PrintWords Go.Proofs.YtmacedbpdhkagaaDoorW.PrintLast Go.Proofs.YtmacedbpdhkagaaDoorW.PrintMore
def impl_TonaryJoin.f (l0 l1 : List S38) : Option (List S38 × Bool) := if entSz l0 = true ∧ entSz l1 = true then some (tonJoin l0 l1) else none
theorem impl_TonaryJoin.calls (A0 : Option Addr) (c0 : Nat) (l0 : List S38) (A1 : Option Addr) (c1 : Nat) (l1 : List S38) (r1 : List S38) (r2 : Bool) (w : World) (ht : MTab w) (hr0 : Kd.C k38 w A0 l0.length l0) (hc0 : l0.length ≤ c0) (hr1 : Kd.C k38 w A1 l1.length l1) (hc1 : l1.length ≤ c1) (h : impl_TonaryJoin.f l0 l1 = some (r1, r2)) :
 Calls Tryd.prog 16 #[.slice A0 l0.length c0, .slice A1 l1.length c1] w fun e w' => ∃ v0_ : Value, e = .returned (.tuple #[v0_, .bool r2]) ∧ Kd.S k38 38 w' w.heap.size (fun _ => True) v0_ r1 ∧ Below w.heap.size w w' := by
 unfold impl_TonaryJoin.f at h; split at h
 ·
  rename_i hh
  injection h with h
  have := impl_TonaryJoin_calls l0 l1 A0 c0 A1 c1 w ht hr0 hc0 hr1 hc1 hh.1 hh.2; rw [h] at this; exact this
 ·
  cases h

end Go.Proofs.YtmacedbpdhkagaaDoor.PFnTonaryJoin
namespace Go.Proofs.YtmacedbpdhkagaaDoor.PFnTonaryJoin
open Go.RowKit Go.Proofs.YtmacedbpdhkagaaDoorW.PrintWords Go.Proofs.YtmacedbpdhkagaaDoorW.PrintLast Go.Proofs.YtmacedbpdhkagaaDoorW.PrintMore
attribute [local go_sem] max2_int min2_int max_two min_two max_three min_three max_four min_four   -- for this text's walks alone
set_option linter.unusedVariables false
set_option linter.unusedSimpArgs false

attribute [local go_sem high] eqA90
def laws_sameTones.l0 : Nat → List (S90) → List (S90) → Int → Option (Bool)
 | 0, _, _, _ => none
 | k + 1, x0, x1, x5 => if x5 < (x0.length : Int) then (if 0 ≤ x5 then (if x5 < (x1.length : Int) then (if (!(((rd_T90 x0 x5).f0) == ((rd_T90 x1 x5).f0)) || (!(((rd_T90 x0 x5).f1) == ((rd_T90 x1 x5).f1)))) = true then (some false) else (laws_sameTones.l0 k x0 x1 (wrap64 (x5 + 1)))) else (none)) else (none)) else (some true)
def laws_sameTones.f (k : Nat) (l0 : List (S90)) (l1 : List (S90)) : Option (Bool) := if (l0.length : Int) = (l1.length : Int) then (laws_sameTones.l0 k l0 l1 0) else (some false)
set_option maxHeartbeats 8000000 in
set_option maxRecDepth 100000 in
theorem laws_sameTones.calls (k : Nat) (A0 : Option Addr) (c0 : Nat) (l0 : List (S90)) (A1 : Option Addr) (c1 : Nat) (l1 : List (S90)) (r : Bool) (w : World) (hr0 : Kd.C k90 w A0 l0.length l0) (hc0 : l0.length ≤ c0) (hr1 : Kd.C k90 w A1 l1.length l1) (hc1 : l1.length ≤ c1) (h : laws_sameTones.f k l0 l1 = some r) :
 Calls Tryd.prog 91 #[.slice A0 l0.length c0, .slice A1 l1.length c1] w fun e w' => e = .returned (.bool r) ∧ Drawn0 w w' := by
 have hu90 := Tryd.underlying90; have HR0 := Aside0.mk hr0; have HC0 := Aside0.mk hc0; clear hr0 hc0; have HR1 := Aside0.mk hr1; have HC1 := Aside0.mk hc1; clear hr1 hc1; have H : (if (l0.length : Int) = (l1.length : Int) then (laws_sameTones.l0 k l0 l1 0) else (some false)) = some r := h; clear h; by_cases c3 : (l0.length : Int) = (l1.length : Int)
 ·
  rw [if_pos c3] at H; have c3b0 : ((l0.length : Int) == (l1.length : Int)) = true := beq_iff_eq.mpr c3; have c3b1 : ((l0.length : Int) != (l1.length : Int)) = false := bne_eq_false_iff_eq.mpr c3; have c3b2 : (l0.length == l1.length) = true := by first | simpa using c3 | (simp at c3 ⊢; omega)
  clear c3; have H' := Aside0.mk H; clear H; go_enter Tryd.func91, Tryd.ntmps91
  go_wp2; repeat (go_quiet (fail); try go_wp2)
  go_loopg [5] k (fun kq v5 w' => ∃ (x5_1 : Int), v5 = .int .i64 x5_1 ∧ Aside0 (laws_sameTones.l0 kq l0 l1 x5_1 = some r) ∧ Aside0 (kq ≤ k) ∧ Drawn0 w w')
  case atStart => exact ⟨(0), (by first | rfl | (simp; done) | (simp [*]; done)), H', ⟨Nat.le_refl _⟩, by repeat (first | exact Drawn0.refl _ | apply Drawn0.step)⟩
  case round =>
   clear H'; try clear c1
   try clear p2
   try clear c3
   try clear c3b0
   try clear c3b1
   try clear c3b2
   obtain ⟨x5_1, rfl, HA, HK1, ⟨m1, rfl⟩⟩ := hrel; cases gk with
   | zero => exact absurd HA.out (by simp [laws_sameTones.l0])
   | succ k1 =>
    have H := HA.out; clear HA; simp only [laws_sameTones.l0] at H; by_cases c4 : x5_1 < (l0.length : Int)
    ·
     rw [if_pos c4] at H; have c4b0 : decide (x5_1 < (l0.length : Int)) = true := decide_eq_true c4; clear c4; by_cases c5 : 0 ≤ x5_1
     ·
      rw [if_pos c5] at H; have c5b0 : decide (0 ≤ x5_1) = true := decide_eq_true c5; clear c5; by_cases c6 : x5_1 < (l1.length : Int)
      ·
       rw [if_pos c6] at H; have c6b0 : decide (x5_1 < (l1.length : Int)) = true := decide_eq_true c6; clear c6; by_cases c7 : (!(((rd_T90 l0 x5_1).f0) == ((rd_T90 l1 x5_1).f0)) || (!(((rd_T90 l0 x5_1).f1) == ((rd_T90 l1 x5_1).f1)))) = true
       ·
        rw [if_pos c7] at H; have c7b0 : (!(((rd_T90 l0 x5_1).f0) == ((rd_T90 l1 x5_1).f0)) || (!(((rd_T90 l0 x5_1).f1) == ((rd_T90 l1 x5_1).f1)))) = true := c7; clear c7; obtain rfl := Option.some.inj H; have p230 : 0 ≤ (x5_1 : Int) := of_decide_eq_true (by first | (with_reducible assumption) | assumption); have q230 : x5_1 < (l0.length : Int) := of_decide_eq_true (by first | (with_reducible assumption) | assumption); obtain ⟨ad230, e230, hx230_0, hx230_1⟩ := at_T90 HR0.out x5_1 p230 q230; cases e230; replace p230 := eq_true p230; replace q230 := eq_true q230; have p231 : 0 ≤ (x5_1 : Int) := of_decide_eq_true (by first | (with_reducible assumption) | assumption); have q231 : x5_1 < (l1.length : Int) := of_decide_eq_true (by first | (with_reducible assumption) | assumption); obtain ⟨ad231, e231, hx231_0, hx231_1⟩ := at_T90 HR1.out x5_1 p231 q231; cases e231; replace p231 := eq_true p231; replace q231 := eq_true q231; go_wp2; repeat (go_quiet (fail); try go_wp2)
        go_ret
        exact ⟨by first | rfl | (simp; done) | (simp [*]; done), by repeat (first | exact Drawn0.refl _ | apply Drawn0.step)⟩
       ·
        rw [if_neg c7] at H; have c7b0 : (!(((rd_T90 l0 x5_1).f0) == ((rd_T90 l1 x5_1).f0)) || (!(((rd_T90 l0 x5_1).f1) == ((rd_T90 l1 x5_1).f1)))) = false := by simpa using c7
        clear c7; have H' := Aside0.mk H; clear H; have p230 : 0 ≤ (x5_1 : Int) := of_decide_eq_true (by first | (with_reducible assumption) | assumption); have q230 : x5_1 < (l0.length : Int) := of_decide_eq_true (by first | (with_reducible assumption) | assumption); obtain ⟨ad230, e230, hx230_0, hx230_1⟩ := at_T90 HR0.out x5_1 p230 q230; cases e230; replace p230 := eq_true p230; replace q230 := eq_true q230; have p231 : 0 ≤ (x5_1 : Int) := of_decide_eq_true (by first | (with_reducible assumption) | assumption); have q231 : x5_1 < (l1.length : Int) := of_decide_eq_true (by first | (with_reducible assumption) | assumption); obtain ⟨ad231, e231, hx231_0, hx231_1⟩ := at_T90 HR1.out x5_1 p231 q231; cases e231; replace p231 := eq_true p231; replace q231 := eq_true q231; go_wp2; repeat (go_quiet (fail); try go_wp2)
        go_roundg k1
        case measure => have := HK1.out; omega
        case rel => exact ⟨(wrap64 (x5_1 + 1)), (by first | rfl | (simp; done) | (simp [*]; done)), H', ⟨by have := HK1.out; omega⟩, by repeat (first | exact Drawn0.refl _ | apply Drawn0.step)⟩
      ·
       rw [if_neg c6] at H; exact absurd H (by simp)
     ·
      rw [if_neg c5] at H; exact absurd H (by simp)
    ·
     rw [if_neg c4] at H; have c4b0 : decide (x5_1 < (l0.length : Int)) = false := decide_eq_false c4; clear c4; obtain rfl := Option.some.inj H; go_wp2; repeat (go_quiet (fail); try go_wp2)
     go_ret
     exact ⟨by first | rfl | (simp; done) | (simp [*]; done), by repeat (first | exact Drawn0.refl _ | apply Drawn0.step)⟩
 ·
  rw [if_neg c3] at H; have c3b0 : ((l0.length : Int) == (l1.length : Int)) = false := beq_eq_false_iff_ne.mpr c3; have c3b1 : ((l0.length : Int) != (l1.length : Int)) = true := bne_iff_ne.mpr c3; have c3b2 : (l0.length == l1.length) = false := by first | simpa using c3 | (simp at c3 ⊢; omega)
  obtain rfl := Option.some.inj H; go_enter Tryd.func91, Tryd.ntmps91
  go_wp2; repeat (go_quiet (fail); try go_wp2)
  go_ret
  exact ⟨by first | rfl | (simp; done) | (simp [*]; done), by repeat (first | exact Drawn0.refl _ | apply Drawn0.step)⟩

end Go.Proofs.YtmacedbpdhkagaaDoor.PFnTonaryJoin
namespace Go.Proofs.YtmacedbpdhkagaaDoor.PFnTonaryJoin
open Go.RowKit Go.Proofs.YtmacedbpdhkagaaDoorW.PrintWords Go.Proofs.YtmacedbpdhkagaaDoorW.PrintLast Go.Proofs.YtmacedbpdhkagaaDoorW.PrintMore
attribute [local go_sem] max2_int min2_int max_two min_two max_three min_three max_four min_four   -- for this text's walks alone
set_option linter.unusedVariables false
set_option linter.unusedSimpArgs false

def laws_sameEntry.f (k : Nat) (a0_0 : ByteArray) (a0_1 : Int) (l0_2 : List (S90)) (a1_0 : ByteArray) (a1_1 : Int) (l1_2 : List (S90)) : Option (Bool) := if a0_0.toList = a1_0.toList then (if a0_1 = a1_1 then ((laws_sameTones.f k l0_2 l1_2).bind fun t234 => (some t234)) else (some false)) else (some false)
set_option maxHeartbeats 8000000 in
set_option maxRecDepth 100000 in
theorem laws_sameEntry.calls (k : Nat) (a0_0 : ByteArray) (a0_1 : Int) (A0_2 : Option Addr) (c0_2 : Nat) (l0_2 : List (S90)) (a1_0 : ByteArray) (a1_1 : Int) (A1_2 : Option Addr) (c1_2 : Nat) (l1_2 : List (S90)) (r : Bool) (w : World) (hr0_2 : Kd.C k90 w A0_2 l0_2.length l0_2) (hc0_2 : l0_2.length ≤ c0_2) (hr1_2 : Kd.C k90 w A1_2 l1_2.length l1_2) (hc1_2 : l1_2.length ≤ c1_2) (h : laws_sameEntry.f k a0_0 a0_1 l0_2 a1_0 a1_1 l1_2 = some r) :
 Calls Tryd.prog 65 #[.agg #[.string a0_0, .int .i64 a0_1, .slice A0_2 l0_2.length c0_2], .agg #[.string a1_0, .int .i64 a1_1, .slice A1_2 l1_2.length c1_2]] w fun e w' => e = .returned (.bool r) ∧ Below w.heap.size w w' := by
 have hu38 := Tryd.underlying38; have HR0_2 := Aside0.mk hr0_2; have HC0_2 := Aside0.mk hc0_2; clear hr0_2 hc0_2; have HR1_2 := Aside0.mk hr1_2; have HC1_2 := Aside0.mk hc1_2; clear hr1_2 hc1_2; have HB := Aside0.mk (Below.refl w.heap.size w); have H : (if a0_0.toList = a1_0.toList then (if a0_1 = a1_1 then ((laws_sameTones.f k l0_2 l1_2).bind fun t234 => (some t234)) else (some false)) else (some false)) = some r := h; clear h; by_cases c3 : a0_0.toList = a1_0.toList
 ·
  rw [if_pos c3] at H; have c3b0 : (a0_0.toList == a1_0.toList) = true := beq_iff_eq.mpr c3; have c3b1 : (a0_0.toList != a1_0.toList) = false := bne_eq_false_iff_eq.mpr c3; clear c3; by_cases c4 : a0_1 = a1_1
  ·
   rw [if_pos c4] at H; have c4b0 : (a0_1 == a1_1) = true := beq_iff_eq.mpr c4; have c4b1 : (a0_1 != a1_1) = false := bne_eq_false_iff_eq.mpr c4; clear c4; replace H := Option.bind_eq_some_iff.mp H; obtain ⟨t234, A50, H⟩ := H; replace H : (some t234) = some r := H; have A5 := Aside0.mk A50; clear A50; obtain rfl := Option.some.inj H; go_enter Tryd.func65, Tryd.ntmps65
   go_wp2_with (first | ((with_reducible refine gate_dst (N := 2) rfl ?_); refine box_event ?hg (N := 2) ?hd (cs := #[.string a0_0, .int .i64 a0_1, .slice A0_2 l0_2.length c0_2]) (t := 38) ?hr ?_; (case hd => rfl); (case hg => rfl); (case hr => first | (go_simp; done) | (go_simp; rfl)); intro gb232 hg w6 hbox hb; have n0_ := Aside0.mk (below_step (by repeat (first | (with_reducible first | exact HB.out | apply below_alloc | apply pw_below_drewN | apply below_drew1) | exact HB.out)) hb); have n1_ := Aside0.mk (hbox); have n2_ := Aside0.mk ((by rw [hg]; exact (below_size (by repeat (first | (with_reducible first | exact HB.out | apply below_alloc | apply pw_below_drewN | apply below_drew1) | exact HB.out))) : w.heap.size ≤ gb232)); have n3_ := Aside0.mk ((by rw [hg]; exact (below_size (by repeat (first | (with_reducible first | exact HB.out | apply below_alloc | apply pw_below_drewN | apply below_drew1) | exact HB.out))) : w.heap.size ≤ gb232)); clear HB; have HB := n0_; have BK232 := n1_; have GW232 := n2_; have GE232 := n3_; clear n0_ n1_ n2_ n3_; clear hb hbox hg) | ((with_reducible refine gate_dst (N := 3) rfl ?_); refine box_event ?hg (N := 3) ?hd (cs := #[.string a1_0, .int .i64 a1_1, .slice A1_2 l1_2.length c1_2]) (t := 38) ?hr ?_; (case hd => rfl); (case hg => rfl); (case hr => first | (go_simp; done) | (go_simp; rfl)); intro gb233 hg w7 hbox hb; have n0_ := Aside0.mk (blk_below (g := gb232) (o := .cells #[.string a0_0, .int .i64 a0_1, .slice A0_2 l0_2.length c0_2] 38 (0, 0)) (by (with_reducible repeat (first | refine blk_drewN ?_ _ | refine blk_drew ?_ | refine blk_alloc ?_ _)); exact BK232.out) hb); have n1_ := Aside0.mk (below_step (by repeat (first | (with_reducible first | exact HB.out | apply below_alloc | apply pw_below_drewN | apply below_drew1 | refine below_set ?_ GE232.out) | exact HB.out)) hb); have n2_ := Aside0.mk (hbox); have n3_ := Aside0.mk ((by rw [hg]; exact (below_size (by repeat (first | (with_reducible first | exact HB.out | apply below_alloc | apply pw_below_drewN | apply below_drew1 | refine below_set ?_ GE232.out) | exact HB.out))) : w.heap.size ≤ gb233)); have n4_ := Aside0.mk ((by rw [hg]; exact (below_size (by repeat (first | (with_reducible first | exact HB.out | apply below_alloc | apply pw_below_drewN | apply below_drew1 | refine below_set ?_ GE232.out) | exact HB.out))) : w.heap.size ≤ gb233)); have n5_ := Aside0.mk ((by rw [hg]; exact Nat.ne_of_lt (blk_lt (g := gb232) (o := .cells #[.string a0_0, .int .i64 a0_1, .slice A0_2 l0_2.length c0_2] 38 (0, 0)) (by (with_reducible repeat (first | refine blk_drewN ?_ _ | refine blk_drew ?_ | refine blk_alloc ?_ _)); exact BK232.out)) : gb232 ≠ gb233)); have n6_ := Aside0.mk ((by rw [hg]; exact Nat.ne_of_gt (blk_lt (g := gb232) (o := .cells #[.string a0_0, .int .i64 a0_1, .slice A0_2 l0_2.length c0_2] 38 (0, 0)) (by (with_reducible repeat (first | refine blk_drewN ?_ _ | refine blk_drew ?_ | refine blk_alloc ?_ _)); exact BK232.out)) : gb233 ≠ gb232)); clear BK232; clear HB; have BK232 := n0_; have HB := n1_; have BK233 := n2_; have GW233 := n3_; have GE233 := n4_; have NB232_233 := n5_; have NB233_232 := n6_; clear n0_ n1_ n2_ n3_ n4_ n5_ n6_; clear hb hbox hg; have hnb8 := NB232_233.out; have hnc8 := NB233_232.out; have hcz9_0 : w7.cell? ⟨gb232, 0, none⟩ = some (.string a0_0) := (blk_cell BK232.out 0).trans rfl; have hcz9_1 : w7.cell? ⟨gb232, 1, none⟩ = some (.int .i64 a0_1) := (blk_cell BK232.out 1).trans rfl; have hcz9_2 : w7.cell? ⟨gb232, 2, none⟩ = some (.slice A0_2 l0_2.length c0_2) := (blk_cell BK232.out 2).trans rfl; have hfz9_0 := blk_frozen BK232.out 0; have hfz9_1 := blk_frozen BK232.out 1; have hfz9_2 := blk_frozen BK232.out 2; have hcz10_0 : w7.cell? ⟨gb233, 0, none⟩ = some (.string a1_0) := (blk_cell BK233.out 0).trans rfl; have hcz10_1 : w7.cell? ⟨gb233, 1, none⟩ = some (.int .i64 a1_1) := (blk_cell BK233.out 1).trans rfl; have hcz10_2 : w7.cell? ⟨gb233, 2, none⟩ = some (.slice A1_2 l1_2.length c1_2) := (blk_cell BK233.out 2).trans rfl; have hfz10_0 := blk_frozen BK233.out 0; have hfz10_1 := blk_frozen BK233.out 1; have hfz10_2 := blk_frozen BK233.out 2) | (go_at_call 91; (with_reducible refine (laws_sameTones.calls k _ _ l0_2 _ _ l1_2 t234 _ ?side1 ?side2 ?side3 ?side4 A5.out).mono ?_); (case side1 => repeat (first | exact (Kd.C_below HR0_2.out HB.out) | (with_reducible refine Kd.C_alloc ?_ _) | (with_reducible refine Kd.C_drewN ?_ _) | (with_reducible refine Kd.C_drew ?_))); (case side2 => exact HC0_2.out); (case side3 => repeat (first | exact (Kd.C_below HR1_2.out HB.out) | (with_reducible refine Kd.C_alloc ?_ _) | (with_reducible refine Kd.C_drewN ?_ _) | (with_reducible refine Kd.C_drew ?_))); (case side4 => exact HC1_2.out); rintro e w' ⟨rfl, ⟨nd, rfl⟩⟩))
   go_ret
   exact ⟨by first | rfl | (simp [errW_none, errW_some] <;> rfl) | (simp [*, errW_none, errW_some] <;> rfl), by repeat (first | (with_reducible first | exact HB.out | apply below_alloc | apply pw_below_drewN | apply below_drew1 | refine below_set ?_ GE232.out | refine below_set ?_ GE233.out) | exact HB.out)⟩
  ·
   rw [if_neg c4] at H; have c4b0 : (a0_1 == a1_1) = false := beq_eq_false_iff_ne.mpr c4; have c4b1 : (a0_1 != a1_1) = true := bne_iff_ne.mpr c4; obtain rfl := Option.some.inj H; go_enter Tryd.func65, Tryd.ntmps65
   go_wp2_with (first | ((with_reducible refine gate_dst (N := 2) rfl ?_); refine box_event ?hg (N := 2) ?hd (cs := #[.string a0_0, .int .i64 a0_1, .slice A0_2 l0_2.length c0_2]) (t := 38) ?hr ?_; (case hd => rfl); (case hg => rfl); (case hr => first | (go_simp; done) | (go_simp; rfl)); intro gb232 hg w11 hbox hb; have n0_ := Aside0.mk (below_step (by repeat (first | (with_reducible first | exact HB.out | apply below_alloc | apply pw_below_drewN | apply below_drew1) | exact HB.out)) hb); have n1_ := Aside0.mk (hbox); have n2_ := Aside0.mk ((by rw [hg]; exact (below_size (by repeat (first | (with_reducible first | exact HB.out | apply below_alloc | apply pw_below_drewN | apply below_drew1) | exact HB.out))) : w.heap.size ≤ gb232)); have n3_ := Aside0.mk ((by rw [hg]; exact (below_size (by repeat (first | (with_reducible first | exact HB.out | apply below_alloc | apply pw_below_drewN | apply below_drew1) | exact HB.out))) : w.heap.size ≤ gb232)); clear HB; have HB := n0_; have BK232 := n1_; have GW232 := n2_; have GE232 := n3_; clear n0_ n1_ n2_ n3_; clear hb hbox hg) | ((with_reducible refine gate_dst (N := 3) rfl ?_); refine box_event ?hg (N := 3) ?hd (cs := #[.string a1_0, .int .i64 a1_1, .slice A1_2 l1_2.length c1_2]) (t := 38) ?hr ?_; (case hd => rfl); (case hg => rfl); (case hr => first | (go_simp; done) | (go_simp; rfl)); intro gb233 hg w12 hbox hb; have n0_ := Aside0.mk (blk_below (g := gb232) (o := .cells #[.string a0_0, .int .i64 a0_1, .slice A0_2 l0_2.length c0_2] 38 (0, 0)) (by (with_reducible repeat (first | refine blk_drewN ?_ _ | refine blk_drew ?_ | refine blk_alloc ?_ _)); exact BK232.out) hb); have n1_ := Aside0.mk (below_step (by repeat (first | (with_reducible first | exact HB.out | apply below_alloc | apply pw_below_drewN | apply below_drew1 | refine below_set ?_ GE232.out) | exact HB.out)) hb); have n2_ := Aside0.mk (hbox); have n3_ := Aside0.mk ((by rw [hg]; exact (below_size (by repeat (first | (with_reducible first | exact HB.out | apply below_alloc | apply pw_below_drewN | apply below_drew1 | refine below_set ?_ GE232.out) | exact HB.out))) : w.heap.size ≤ gb233)); have n4_ := Aside0.mk ((by rw [hg]; exact (below_size (by repeat (first | (with_reducible first | exact HB.out | apply below_alloc | apply pw_below_drewN | apply below_drew1 | refine below_set ?_ GE232.out) | exact HB.out))) : w.heap.size ≤ gb233)); have n5_ := Aside0.mk ((by rw [hg]; exact Nat.ne_of_lt (blk_lt (g := gb232) (o := .cells #[.string a0_0, .int .i64 a0_1, .slice A0_2 l0_2.length c0_2] 38 (0, 0)) (by (with_reducible repeat (first | refine blk_drewN ?_ _ | refine blk_drew ?_ | refine blk_alloc ?_ _)); exact BK232.out)) : gb232 ≠ gb233)); have n6_ := Aside0.mk ((by rw [hg]; exact Nat.ne_of_gt (blk_lt (g := gb232) (o := .cells #[.string a0_0, .int .i64 a0_1, .slice A0_2 l0_2.length c0_2] 38 (0, 0)) (by (with_reducible repeat (first | refine blk_drewN ?_ _ | refine blk_drew ?_ | refine blk_alloc ?_ _)); exact BK232.out)) : gb233 ≠ gb232)); clear BK232; clear HB; have BK232 := n0_; have HB := n1_; have BK233 := n2_; have GW233 := n3_; have GE233 := n4_; have NB232_233 := n5_; have NB233_232 := n6_; clear n0_ n1_ n2_ n3_ n4_ n5_ n6_; clear hb hbox hg; have hnb13 := NB232_233.out; have hnc13 := NB233_232.out; have hcz14_0 : w12.cell? ⟨gb232, 0, none⟩ = some (.string a0_0) := (blk_cell BK232.out 0).trans rfl; have hcz14_1 : w12.cell? ⟨gb232, 1, none⟩ = some (.int .i64 a0_1) := (blk_cell BK232.out 1).trans rfl; have hcz14_2 : w12.cell? ⟨gb232, 2, none⟩ = some (.slice A0_2 l0_2.length c0_2) := (blk_cell BK232.out 2).trans rfl; have hfz14_0 := blk_frozen BK232.out 0; have hfz14_1 := blk_frozen BK232.out 1; have hfz14_2 := blk_frozen BK232.out 2; have hcz15_0 : w12.cell? ⟨gb233, 0, none⟩ = some (.string a1_0) := (blk_cell BK233.out 0).trans rfl; have hcz15_1 : w12.cell? ⟨gb233, 1, none⟩ = some (.int .i64 a1_1) := (blk_cell BK233.out 1).trans rfl; have hcz15_2 : w12.cell? ⟨gb233, 2, none⟩ = some (.slice A1_2 l1_2.length c1_2) := (blk_cell BK233.out 2).trans rfl; have hfz15_0 := blk_frozen BK233.out 0; have hfz15_1 := blk_frozen BK233.out 1; have hfz15_2 := blk_frozen BK233.out 2))
   go_ret
   exact ⟨by first | rfl | (simp [errW_none, errW_some] <;> rfl) | (simp [*, errW_none, errW_some] <;> rfl), by repeat (first | (with_reducible first | exact HB.out | apply below_alloc | apply pw_below_drewN | apply below_drew1 | refine below_set ?_ GE232.out | refine below_set ?_ GE233.out) | exact HB.out)⟩
 ·
  rw [if_neg c3] at H; have c3b0 : (a0_0.toList == a1_0.toList) = false := beq_eq_false_iff_ne.mpr c3; have c3b1 : (a0_0.toList != a1_0.toList) = true := bne_iff_ne.mpr c3; obtain rfl := Option.some.inj H; go_enter Tryd.func65, Tryd.ntmps65
  go_wp2_with (first | ((with_reducible refine gate_dst (N := 2) rfl ?_); refine box_event ?hg (N := 2) ?hd (cs := #[.string a0_0, .int .i64 a0_1, .slice A0_2 l0_2.length c0_2]) (t := 38) ?hr ?_; (case hd => rfl); (case hg => rfl); (case hr => first | (go_simp; done) | (go_simp; rfl)); intro gb232 hg w16 hbox hb; have n0_ := Aside0.mk (below_step (by repeat (first | (with_reducible first | exact HB.out | apply below_alloc | apply pw_below_drewN | apply below_drew1) | exact HB.out)) hb); have n1_ := Aside0.mk (hbox); have n2_ := Aside0.mk ((by rw [hg]; exact (below_size (by repeat (first | (with_reducible first | exact HB.out | apply below_alloc | apply pw_below_drewN | apply below_drew1) | exact HB.out))) : w.heap.size ≤ gb232)); have n3_ := Aside0.mk ((by rw [hg]; exact (below_size (by repeat (first | (with_reducible first | exact HB.out | apply below_alloc | apply pw_below_drewN | apply below_drew1) | exact HB.out))) : w.heap.size ≤ gb232)); clear HB; have HB := n0_; have BK232 := n1_; have GW232 := n2_; have GE232 := n3_; clear n0_ n1_ n2_ n3_; clear hb hbox hg) | ((with_reducible refine gate_dst (N := 3) rfl ?_); refine box_event ?hg (N := 3) ?hd (cs := #[.string a1_0, .int .i64 a1_1, .slice A1_2 l1_2.length c1_2]) (t := 38) ?hr ?_; (case hd => rfl); (case hg => rfl); (case hr => first | (go_simp; done) | (go_simp; rfl)); intro gb233 hg w17 hbox hb; have n0_ := Aside0.mk (blk_below (g := gb232) (o := .cells #[.string a0_0, .int .i64 a0_1, .slice A0_2 l0_2.length c0_2] 38 (0, 0)) (by (with_reducible repeat (first | refine blk_drewN ?_ _ | refine blk_drew ?_ | refine blk_alloc ?_ _)); exact BK232.out) hb); have n1_ := Aside0.mk (below_step (by repeat (first | (with_reducible first | exact HB.out | apply below_alloc | apply pw_below_drewN | apply below_drew1 | refine below_set ?_ GE232.out) | exact HB.out)) hb); have n2_ := Aside0.mk (hbox); have n3_ := Aside0.mk ((by rw [hg]; exact (below_size (by repeat (first | (with_reducible first | exact HB.out | apply below_alloc | apply pw_below_drewN | apply below_drew1 | refine below_set ?_ GE232.out) | exact HB.out))) : w.heap.size ≤ gb233)); have n4_ := Aside0.mk ((by rw [hg]; exact (below_size (by repeat (first | (with_reducible first | exact HB.out | apply below_alloc | apply pw_below_drewN | apply below_drew1 | refine below_set ?_ GE232.out) | exact HB.out))) : w.heap.size ≤ gb233)); have n5_ := Aside0.mk ((by rw [hg]; exact Nat.ne_of_lt (blk_lt (g := gb232) (o := .cells #[.string a0_0, .int .i64 a0_1, .slice A0_2 l0_2.length c0_2] 38 (0, 0)) (by (with_reducible repeat (first | refine blk_drewN ?_ _ | refine blk_drew ?_ | refine blk_alloc ?_ _)); exact BK232.out)) : gb232 ≠ gb233)); have n6_ := Aside0.mk ((by rw [hg]; exact Nat.ne_of_gt (blk_lt (g := gb232) (o := .cells #[.string a0_0, .int .i64 a0_1, .slice A0_2 l0_2.length c0_2] 38 (0, 0)) (by (with_reducible repeat (first | refine blk_drewN ?_ _ | refine blk_drew ?_ | refine blk_alloc ?_ _)); exact BK232.out)) : gb233 ≠ gb232)); clear BK232; clear HB; have BK232 := n0_; have HB := n1_; have BK233 := n2_; have GW233 := n3_; have GE233 := n4_; have NB232_233 := n5_; have NB233_232 := n6_; clear n0_ n1_ n2_ n3_ n4_ n5_ n6_; clear hb hbox hg; have hnb18 := NB232_233.out; have hnc18 := NB233_232.out; have hcz19_0 : w17.cell? ⟨gb232, 0, none⟩ = some (.string a0_0) := (blk_cell BK232.out 0).trans rfl; have hcz19_1 : w17.cell? ⟨gb232, 1, none⟩ = some (.int .i64 a0_1) := (blk_cell BK232.out 1).trans rfl; have hcz19_2 : w17.cell? ⟨gb232, 2, none⟩ = some (.slice A0_2 l0_2.length c0_2) := (blk_cell BK232.out 2).trans rfl; have hfz19_0 := blk_frozen BK232.out 0; have hfz19_1 := blk_frozen BK232.out 1; have hfz19_2 := blk_frozen BK232.out 2; have hcz20_0 : w17.cell? ⟨gb233, 0, none⟩ = some (.string a1_0) := (blk_cell BK233.out 0).trans rfl; have hcz20_1 : w17.cell? ⟨gb233, 1, none⟩ = some (.int .i64 a1_1) := (blk_cell BK233.out 1).trans rfl; have hcz20_2 : w17.cell? ⟨gb233, 2, none⟩ = some (.slice A1_2 l1_2.length c1_2) := (blk_cell BK233.out 2).trans rfl; have hfz20_0 := blk_frozen BK233.out 0; have hfz20_1 := blk_frozen BK233.out 1; have hfz20_2 := blk_frozen BK233.out 2))
  go_ret
  exact ⟨by first | rfl | (simp [errW_none, errW_some] <;> rfl) | (simp [*, errW_none, errW_some] <;> rfl), by repeat (first | (with_reducible first | exact HB.out | apply below_alloc | apply pw_below_drewN | apply below_drew1 | refine below_set ?_ GE232.out | refine below_set ?_ GE233.out) | exact HB.out)⟩

end Go.Proofs.YtmacedbpdhkagaaDoor.PFnTonaryJoin
namespace Go.Proofs.YtmacedbpdhkagaaDoor.PFnTonaryJoin
open Go.RowKit Go.Proofs.YtmacedbpdhkagaaDoorW.PrintWords Go.Proofs.YtmacedbpdhkagaaDoorW.PrintLast Go.Proofs.YtmacedbpdhkagaaDoorW.PrintMore
attribute [local go_sem] max2_int min2_int max_two min_two max_three min_three max_four min_four   -- for this text's walks alone
set_option linter.unusedVariables false
set_option linter.unusedSimpArgs false

def laws_sameEntries.l0 : Nat → List (S38) → List (S38) → Int → Option (Bool)
 | 0, _, _, _ => none
 | k + 1, x0, x1, x5 => if x5 < (x0.length : Int) then (if 0 ≤ x5 then (if x5 < (x1.length : Int) then ((laws_sameEntry.f k ((rd_T38 x0 x5).f0) ((rd_T38 x0 x5).f1) ((rd_T38 x0 x5).f2) ((rd_T38 x1 x5).f0) ((rd_T38 x1 x5).f1) ((rd_T38 x1 x5).f2)).bind fun t237 => (if t237 = true then (laws_sameEntries.l0 k x0 x1 (wrap64 (x5 + 1))) else (some false))) else (none)) else (none)) else (some true)
def laws_sameEntries.f (k : Nat) (l0 : List (S38)) (l1 : List (S38)) : Option (Bool) := if (l0.length : Int) = (l1.length : Int) then (laws_sameEntries.l0 k l0 l1 0) else (some false)
def laws_sameEntries.T6 : Bool × List (List Nat × List Nat) := (true, [([], []), ([], []), ([0, 1], [0, 1]), ([2], [2]), ([], []), ([], []), ([4, 5], [4, 5]), ([6], [6]), ([3, 7], [3, 7]), ([8], [8])])
def laws_sameEntries.B6 : List Nat := [0, 0, 3, 7, 0, 0, 48, 112, 255, 511]
theorem laws_sameEntries.tab6 : rtab .any (opsOf Tryd.f24 6) = laws_sameEntries.T6 := by kernel_rfl
theorem laws_sameEntries.bits6 : waitsOk laws_sameEntries.T6.2 laws_sameEntries.B6 = true := by kernel_rfl
set_option maxHeartbeats 8000000 in
set_option maxRecDepth 100000 in
theorem laws_sameEntries.calls (k : Nat) (A0 : Option Addr) (c0 : Nat) (l0 : List (S38)) (A1 : Option Addr) (c1 : Nat) (l1 : List (S38)) (r : Bool) (w : World) (hr0 : Kd.C k38 w A0 l0.length l0) (hc0 : l0.length ≤ c0) (hr1 : Kd.C k38 w A1 l1.length l1) (hc1 : l1.length ≤ c1) (h : laws_sameEntries.f k l0 l1 = some r) :
 Calls Tryd.prog 24 #[.slice A0 l0.length c0, .slice A1 l1.length c1] w fun e w' => e = .returned (.bool r) ∧ Below w.heap.size w w' := by
 have hu38 := Tryd.underlying38; have HR0 := Aside0.mk hr0; have HC0 := Aside0.mk hc0; clear hr0 hc0; have HR1 := Aside0.mk hr1; have HC1 := Aside0.mk hc1; clear hr1 hc1; have HB := Aside0.mk (Below.refl w.heap.size w); have H : (if (l0.length : Int) = (l1.length : Int) then (laws_sameEntries.l0 k l0 l1 0) else (some false)) = some r := h; clear h; by_cases c3 : (l0.length : Int) = (l1.length : Int)
 ·
  rw [if_pos c3] at H; have c3b0 : ((l0.length : Int) == (l1.length : Int)) = true := beq_iff_eq.mpr c3; have c3b1 : ((l0.length : Int) != (l1.length : Int)) = false := bne_eq_false_iff_eq.mpr c3; have c3b2 : (l0.length == l1.length) = true := by first | simpa using c3 | (simp at c3 ⊢; omega)
  clear c3; have H' := Aside0.mk H; clear H; go_enter Tryd.func24, Tryd.ntmps24
  go_wp2; go_loopg [5] k (fun kq v5 w' => ∃ (x5_1 : Int), v5 = .int .i64 x5_1 ∧ Aside0 (laws_sameEntries.l0 kq l0 l1 x5_1 = some r) ∧ Aside0 (kq ≤ k) ∧ Aside0 (Below w.heap.size w w'))
  case atStart => exact ⟨(0), (by first | rfl | (simp; done) | (simp [*]; done)), H', ⟨Nat.le_refl _⟩, ⟨by repeat (first | (with_reducible first | exact HB.out | apply below_alloc | apply pw_below_drewN | apply below_drew1) | exact HB.out)⟩⟩
  case round =>
   clear H'; try clear c1
   try clear c2
   try clear p2
   try clear c3
   try clear c3b0
   try clear c3b1
   try clear c3b2
   obtain ⟨x5_1, rfl, HA, HK1, HB⟩ := hrel; cases gk with
   | zero => exact absurd HA.out (by simp [laws_sameEntries.l0])
   | succ k1 =>
    have H := HA.out; clear HA; simp only [laws_sameEntries.l0] at H; by_cases c4 : x5_1 < (l0.length : Int)
    ·
     rw [if_pos c4] at H; have c4b0 : decide (x5_1 < (l0.length : Int)) = true := decide_eq_true c4; clear c4; by_cases c5 : 0 ≤ x5_1
     ·
      rw [if_pos c5] at H; have c5b0 : decide (0 ≤ x5_1) = true := decide_eq_true c5; clear c5; by_cases c6 : x5_1 < (l1.length : Int)
      ·
       rw [if_pos c6] at H; have c6b0 : decide (x5_1 < (l1.length : Int)) = true := decide_eq_true c6; clear c6; replace H := Option.bind_eq_some_iff.mp H; obtain ⟨t237, A70, H⟩ := H; replace H : (if t237 = true then (laws_sameEntries.l0 k1 l0 l1 (wrap64 (x5_1 + 1))) else (some false)) = some r := H; have A7 := Aside0.mk A70; clear A70; by_cases c8 : t237 = true
       ·
        subst c8; have H1 : (laws_sameEntries.l0 k1 l0 l1 (wrap64 (x5_1 + 1))) = some r := by rw [if_pos rfl] at H; exact H
        clear H; have H := H1; clear H1; have H' := Aside0.mk H; clear H; try go_wp2
        have n0_ := Aside0.mk (below_drew1 HB.out); clear HB; have HB := n0_; clear n0_; have p235 : 0 ≤ (x5_1 : Int) := of_decide_eq_true (by first | (with_reducible assumption) | assumption); have q235 : x5_1 < (l0.length : Int) := of_decide_eq_true (by first | (with_reducible assumption) | assumption); obtain ⟨ad235, A235_2, c235_2, e235, hx235_0, hx235_1, hx235_2, hl235_2, hi235_2⟩ := at_T38 HR0.out x5_1 p235 q235; have hw235_2 := hx235_2; have hw235_1 := hx235_1; have hw235_0 := hx235_0; cases e235; replace hx235_0 := (HB.out.cell (World.block_lt_of_cell? w _ hx235_0)).trans hx235_0; replace hx235_1 := (HB.out.cell (World.block_lt_of_cell? w _ hx235_1)).trans hx235_1; replace hx235_2 := (HB.out.cell (World.block_lt_of_cell? w _ hx235_2)).trans hx235_2; have HR235_2 := Aside0.mk hi235_2; have HC235_2 := Aside0.mk hl235_2; clear hi235_2 hl235_2; replace p235 := eq_true p235; replace q235 := eq_true q235; have p236 : 0 ≤ (x5_1 : Int) := of_decide_eq_true (by first | (with_reducible assumption) | assumption); have q236 : x5_1 < (l1.length : Int) := of_decide_eq_true (by first | (with_reducible assumption) | assumption); obtain ⟨ad236, A236_2, c236_2, e236, hx236_0, hx236_1, hx236_2, hl236_2, hi236_2⟩ := at_T38 HR1.out x5_1 p236 q236; have hw236_2 := hx236_2; have hw236_1 := hx236_1; have hw236_0 := hx236_0; cases e236; replace hx236_0 := (HB.out.cell (World.block_lt_of_cell? w _ hx236_0)).trans hx236_0; replace hx236_1 := (HB.out.cell (World.block_lt_of_cell? w _ hx236_1)).trans hx236_1; replace hx236_2 := (HB.out.cell (World.block_lt_of_cell? w _ hx236_2)).trans hx236_2; have HR236_2 := Aside0.mk hi236_2; have HC236_2 := Aside0.mk hl236_2; clear hi236_2 hl236_2; replace p236 := eq_true p236; replace q236 := eq_true q236; refine start_ (n := 10) (S := fun w' => w'.cell? (ad235.add ((x5_1).toNat * 3)) = some (.string ((rd_T38 l0 x5_1).f0)) ∧ w'.cell? ⟨(ad235.add ((x5_1).toNat * 3)).block, (ad235.add ((x5_1).toNat * 3)).off + 1, none⟩ = some (.int .i64 ((rd_T38 l0 x5_1).f1)) ∧ w'.cell? ⟨(ad235.add ((x5_1).toNat * 3)).block, (ad235.add ((x5_1).toNat * 3)).off + 2, none⟩ = some (.slice A235_2 ((rd_T38 l0 x5_1).f2).length c235_2) ∧ w'.cell? (ad236.add ((x5_1).toNat * 3)) = some (.string ((rd_T38 l1 x5_1).f0)) ∧ w'.cell? ⟨(ad236.add ((x5_1).toNat * 3)).block, (ad236.add ((x5_1).toNat * 3)).off + 1, none⟩ = some (.int .i64 ((rd_T38 l1 x5_1).f1)) ∧ w'.cell? ⟨(ad236.add ((x5_1).toNat * 3)).block, (ad236.add ((x5_1).toNat * 3)).off + 2, none⟩ = some (.slice A236_2 ((rd_T38 l1 x5_1).f2).length c236_2)) (ds := []) (rowB 10 0) (by kernel_rfl) rfl rfl ⟨((HB.out.cell (World.block_lt_of_cell? w _ hw235_0)).trans hw235_0), ((HB.out.cell (World.block_lt_of_cell? w _ hw235_1)).trans hw235_1), ((HB.out.cell (World.block_lt_of_cell? w _ hw235_2)).trans hw235_2), ((HB.out.cell (World.block_lt_of_cell? w _ hw236_0)).trans hw236_0), ((HB.out.cell (World.block_lt_of_cell? w _ hw236_1)).trans hw236_1), ((HB.out.cell (World.block_lt_of_cell? w _ hw236_2)).trans hw236_2)⟩ (fun hHeld => ?_); refine with_tabW laws_sameEntries.tab6 laws_sameEntries.bits6 (fun HT_ HW_ => ?_); generalize wr.drew = w9 at HB HR235_2 HR236_2 hx235_0 hx235_1 hx235_2 hx236_0 hx236_1 hx236_2 hHeld ⊢; refine pure_ (i := 0) (N := some 17) (v := ?_) (a' := ?_) (rowB 10 1) rfl rfl (any_of HT_.out (by kernel_rfl)) (fun _ _ _ h => h) (Or.inl ⟨by rfl, ?_⟩) ?_ ?_; rotate_left; (· intro w'; go_simp; with_reducible rfl); rotate_left; (· simp only [Act.put, List.setIfInBounds_toArray, List.set_cons_zero, List.set_cons_succ, i64_w, i32_w]; rfl); refine pure_ (i := 1) (N := some 18) (v := ?_) (a' := ?_) (rowB 10 3) rfl rfl (any_of HT_.out (by kernel_rfl)) (fun _ _ _ h => h) (Or.inl ⟨by rfl, ?_⟩) ?_ ?_; rotate_left; (· intro w'; go_simp; with_reducible rfl); rotate_left; (· simp only [Act.put, List.setIfInBounds_toArray, List.set_cons_zero, List.set_cons_succ, i64_w, i32_w]; rfl); refine pure_ (i := 2) (N := some 19) (v := ?_) (a' := ?_) (rowB 10 7) rfl rfl (any_of HT_.out (by kernel_rfl)) (fun _ _ _ h => h) (Or.inl ⟨by rfl, ?_⟩) ?_ ?_; rotate_left; (· intro w'; go_simp; with_reducible rfl); rotate_left; (· simp only [Act.put, List.setIfInBounds_toArray, List.set_cons_zero, List.set_cons_succ, i64_w, i32_w]; rfl); refine pure_ (i := 4) (N := some 21) (v := ?_) (a' := ?_) (rowB 10 23) rfl rfl (any_of HT_.out (by kernel_rfl)) (fun _ _ _ h => h) (Or.inl ⟨by rfl, ?_⟩) ?_ ?_; rotate_left; (· intro w'; go_simp; with_reducible rfl); rotate_left; (· simp only [Act.put, List.setIfInBounds_toArray, List.set_cons_zero, List.set_cons_succ, i64_w, i32_w]; rfl); refine pure_ (i := 5) (N := some 22) (v := ?_) (a' := ?_) (rowB 10 55) rfl rfl (any_of HT_.out (by kernel_rfl)) (fun _ _ _ h => h) (Or.inl ⟨by rfl, ?_⟩) ?_ ?_; rotate_left; (· intro w'; go_simp; with_reducible rfl); rotate_left; (· simp only [Act.put, List.setIfInBounds_toArray, List.set_cons_zero, List.set_cons_succ, i64_w, i32_w]; rfl); refine pure_ (i := 6) (N := some 23) (v := ?_) (a' := ?_) (rowB 10 119) rfl rfl (any_of HT_.out (by kernel_rfl)) (fun _ _ _ h => h) (Or.inl ⟨by rfl, ?_⟩) ?_ ?_; rotate_left; (· intro w'; go_simp; with_reducible rfl); rotate_left; (· simp only [Act.put, List.setIfInBounds_toArray, List.set_cons_zero, List.set_cons_succ, i64_w, i32_w]; rfl); refine take_ (i := 3) (N := some 20) (v := ?_) (a' := ?_) (rowB 10 127) rfl rfl (take_ofW HT_.out HW_.out (by kernel_rfl)) (fun _ _ _ h => h) (Or.inl ⟨by rfl, ?_⟩) hHeld ?_ ?_; rotate_left; (· rintro w' ⟨s0, s1, s2, s3, s4, s5⟩; go_simp; with_reducible rfl); rotate_left; (· simp only [Act.put, List.setIfInBounds_toArray, List.set_cons_zero, List.set_cons_succ, i64_w, i32_w]; rfl); refine take_ (i := 7) (N := some 24) (v := ?_) (a' := ?_) (rowB 10 255) rfl rfl (take_ofW HT_.out HW_.out (by kernel_rfl)) (fun _ _ _ h => h) (Or.inl ⟨by rfl, ?_⟩) hHeld ?_ ?_; rotate_left; (· rintro w' ⟨s0, s1, s2, s3, s4, s5⟩; go_simp; with_reducible rfl); rotate_left; (· simp only [Act.put, List.setIfInBounds_toArray, List.set_cons_zero, List.set_cons_succ, i64_w, i32_w]; rfl); refine one_ (i := 8) (N := some 25) (rowB 10 511) rfl rfl (one_of HT_.out (by kernel_rfl)) (by decide) (fun K hK => ?_); refine goes_ Tryd.func65 (by kernel_rfl) rfl #[.agg #[.string ((rd_T38 l0 x5_1).f0), .int .i64 ((rd_T38 l0 x5_1).f1), .slice A235_2 ((rd_T38 l0 x5_1).f2).length c235_2], .agg #[.string ((rd_T38 l1 x5_1).f0), .int .i64 ((rd_T38 l1 x5_1).f1), .slice A236_2 ((rd_T38 l1 x5_1).f2).length c236_2]] (by rfl) rfl rfl (by (try simp only [List.map_toArray, List.map_cons, List.map_nil]); first | done | rfl | (simp only [List.length_drop, List.length_take]; rfl)) ?_; with_reducible refine (laws_sameEntry.calls k1 ((rd_T38 l0 x5_1).f0) ((rd_T38 l0 x5_1).f1) _ _ ((rd_T38 l0 x5_1).f2) ((rd_T38 l1 x5_1).f0) ((rd_T38 l1 x5_1).f1) _ _ ((rd_T38 l1 x5_1).f2) true _ ?side1 ?side2 ?side3 ?side4 A7.out).mono ?_
        (case side1 => repeat (first | exact (Kd.C_below HR235_2.out HB.out) | (with_reducible refine Kd.C_alloc ?_ _) | (with_reducible refine Kd.C_drewN ?_ _) | (with_reducible refine Kd.C_drew ?_)))
        (case side2 => exact HC235_2.out)
        (case side3 => repeat (first | exact (Kd.C_below HR236_2.out HB.out) | (with_reducible refine Kd.C_alloc ?_ _) | (with_reducible refine Kd.C_drewN ?_ _) | (with_reducible refine Kd.C_drew ?_)))
        (case side4 => exact HC236_2.out)
        rintro e w10 ⟨rfl, hb⟩; refine ⟨_, rfl, ?_⟩; have n0_ := Aside0.mk (below_step (by repeat (first | (with_reducible first | exact HB.out | apply below_alloc | apply pw_below_drewN | apply below_drew1) | exact HB.out)) hb); clear HB; have HB := n0_; clear n0_; (try clear hb)
        (try clear hb2)
        (try clear hk)
        (try clear hi)
        refine hK.out _ _ ⟨((HB.out.cell (World.block_lt_of_cell? w _ hw235_0)).trans hw235_0), ((HB.out.cell (World.block_lt_of_cell? w _ hw235_1)).trans hw235_1), ((HB.out.cell (World.block_lt_of_cell? w _ hw235_2)).trans hw235_2), ((HB.out.cell (World.block_lt_of_cell? w _ hw236_0)).trans hw236_0), ((HB.out.cell (World.block_lt_of_cell? w _ hw236_1)).trans hw236_1), ((HB.out.cell (World.block_lt_of_cell? w _ hw236_2)).trans hw236_2)⟩ (fun hHeld => ?_); clear hK K; refine norm_ (a' := ?_) ?_ ?_; rotate_left; (· show Act.put _ (some 25) _ = _; simp only [Act.put, List.setIfInBounds_toArray, List.set_cons_zero, List.set_cons_succ, i64_w, i32_w]; rfl); refine pure_ (i := 9) (N := some 26) (v := ?_) (a' := ?_) (rowB 10 1023) rfl rfl (any_of HT_.out (by kernel_rfl)) (fun _ _ _ h => h) (Or.inl ⟨by rfl, ?_⟩) ?_ ?_; rotate_left; (· intro w'; go_simp; with_reducible rfl); rotate_left; (· simp only [Act.put, List.setIfInBounds_toArray, List.set_cons_zero, List.set_cons_succ, i64_w, i32_w]; rfl); refine done_ (done_of HT_.out (by kernel_rfl)) ?_; try go_wp2
        go_roundg k1
        case measure => have := HK1.out; omega
        case rel => exact ⟨(wrap64 (x5_1 + 1)), (by first | rfl | (simp; done) | (simp [*]; done)), H', ⟨by have := HK1.out; omega⟩, ⟨by repeat (first | (with_reducible first | exact HB.out | apply below_alloc | apply pw_below_drewN | apply below_drew1) | exact HB.out)⟩⟩
       ·
        replace c8 := Bool.eq_false_iff.mpr c8; subst c8; have H1 : (some false) = some r := by rw [if_neg (show ¬ (false = true) by decide)] at H; exact H
        clear H; have H := H1; clear H1; obtain rfl := Option.some.inj H; try go_wp2
        have n0_ := Aside0.mk (below_drew1 HB.out); clear HB; have HB := n0_; clear n0_; have p235 : 0 ≤ (x5_1 : Int) := of_decide_eq_true (by first | (with_reducible assumption) | assumption); have q235 : x5_1 < (l0.length : Int) := of_decide_eq_true (by first | (with_reducible assumption) | assumption); obtain ⟨ad235, A235_2, c235_2, e235, hx235_0, hx235_1, hx235_2, hl235_2, hi235_2⟩ := at_T38 HR0.out x5_1 p235 q235; have hw235_2 := hx235_2; have hw235_1 := hx235_1; have hw235_0 := hx235_0; cases e235; replace hx235_0 := (HB.out.cell (World.block_lt_of_cell? w _ hx235_0)).trans hx235_0; replace hx235_1 := (HB.out.cell (World.block_lt_of_cell? w _ hx235_1)).trans hx235_1; replace hx235_2 := (HB.out.cell (World.block_lt_of_cell? w _ hx235_2)).trans hx235_2; have HR235_2 := Aside0.mk hi235_2; have HC235_2 := Aside0.mk hl235_2; clear hi235_2 hl235_2; replace p235 := eq_true p235; replace q235 := eq_true q235; have p236 : 0 ≤ (x5_1 : Int) := of_decide_eq_true (by first | (with_reducible assumption) | assumption); have q236 : x5_1 < (l1.length : Int) := of_decide_eq_true (by first | (with_reducible assumption) | assumption); obtain ⟨ad236, A236_2, c236_2, e236, hx236_0, hx236_1, hx236_2, hl236_2, hi236_2⟩ := at_T38 HR1.out x5_1 p236 q236; have hw236_2 := hx236_2; have hw236_1 := hx236_1; have hw236_0 := hx236_0; cases e236; replace hx236_0 := (HB.out.cell (World.block_lt_of_cell? w _ hx236_0)).trans hx236_0; replace hx236_1 := (HB.out.cell (World.block_lt_of_cell? w _ hx236_1)).trans hx236_1; replace hx236_2 := (HB.out.cell (World.block_lt_of_cell? w _ hx236_2)).trans hx236_2; have HR236_2 := Aside0.mk hi236_2; have HC236_2 := Aside0.mk hl236_2; clear hi236_2 hl236_2; replace p236 := eq_true p236; replace q236 := eq_true q236; refine start_ (n := 10) (S := fun w' => w'.cell? (ad235.add ((x5_1).toNat * 3)) = some (.string ((rd_T38 l0 x5_1).f0)) ∧ w'.cell? ⟨(ad235.add ((x5_1).toNat * 3)).block, (ad235.add ((x5_1).toNat * 3)).off + 1, none⟩ = some (.int .i64 ((rd_T38 l0 x5_1).f1)) ∧ w'.cell? ⟨(ad235.add ((x5_1).toNat * 3)).block, (ad235.add ((x5_1).toNat * 3)).off + 2, none⟩ = some (.slice A235_2 ((rd_T38 l0 x5_1).f2).length c235_2) ∧ w'.cell? (ad236.add ((x5_1).toNat * 3)) = some (.string ((rd_T38 l1 x5_1).f0)) ∧ w'.cell? ⟨(ad236.add ((x5_1).toNat * 3)).block, (ad236.add ((x5_1).toNat * 3)).off + 1, none⟩ = some (.int .i64 ((rd_T38 l1 x5_1).f1)) ∧ w'.cell? ⟨(ad236.add ((x5_1).toNat * 3)).block, (ad236.add ((x5_1).toNat * 3)).off + 2, none⟩ = some (.slice A236_2 ((rd_T38 l1 x5_1).f2).length c236_2)) (ds := []) (rowB 10 0) (by kernel_rfl) rfl rfl ⟨((HB.out.cell (World.block_lt_of_cell? w _ hw235_0)).trans hw235_0), ((HB.out.cell (World.block_lt_of_cell? w _ hw235_1)).trans hw235_1), ((HB.out.cell (World.block_lt_of_cell? w _ hw235_2)).trans hw235_2), ((HB.out.cell (World.block_lt_of_cell? w _ hw236_0)).trans hw236_0), ((HB.out.cell (World.block_lt_of_cell? w _ hw236_1)).trans hw236_1), ((HB.out.cell (World.block_lt_of_cell? w _ hw236_2)).trans hw236_2)⟩ (fun hHeld => ?_); refine with_tabW laws_sameEntries.tab6 laws_sameEntries.bits6 (fun HT_ HW_ => ?_); generalize wr.drew = w11 at HB HR235_2 HR236_2 hx235_0 hx235_1 hx235_2 hx236_0 hx236_1 hx236_2 hHeld ⊢; refine pure_ (i := 0) (N := some 17) (v := ?_) (a' := ?_) (rowB 10 1) rfl rfl (any_of HT_.out (by kernel_rfl)) (fun _ _ _ h => h) (Or.inl ⟨by rfl, ?_⟩) ?_ ?_; rotate_left; (· intro w'; go_simp; with_reducible rfl); rotate_left; (· simp only [Act.put, List.setIfInBounds_toArray, List.set_cons_zero, List.set_cons_succ, i64_w, i32_w]; rfl); refine pure_ (i := 1) (N := some 18) (v := ?_) (a' := ?_) (rowB 10 3) rfl rfl (any_of HT_.out (by kernel_rfl)) (fun _ _ _ h => h) (Or.inl ⟨by rfl, ?_⟩) ?_ ?_; rotate_left; (· intro w'; go_simp; with_reducible rfl); rotate_left; (· simp only [Act.put, List.setIfInBounds_toArray, List.set_cons_zero, List.set_cons_succ, i64_w, i32_w]; rfl); refine pure_ (i := 2) (N := some 19) (v := ?_) (a' := ?_) (rowB 10 7) rfl rfl (any_of HT_.out (by kernel_rfl)) (fun _ _ _ h => h) (Or.inl ⟨by rfl, ?_⟩) ?_ ?_; rotate_left; (· intro w'; go_simp; with_reducible rfl); rotate_left; (· simp only [Act.put, List.setIfInBounds_toArray, List.set_cons_zero, List.set_cons_succ, i64_w, i32_w]; rfl); refine pure_ (i := 4) (N := some 21) (v := ?_) (a' := ?_) (rowB 10 23) rfl rfl (any_of HT_.out (by kernel_rfl)) (fun _ _ _ h => h) (Or.inl ⟨by rfl, ?_⟩) ?_ ?_; rotate_left; (· intro w'; go_simp; with_reducible rfl); rotate_left; (· simp only [Act.put, List.setIfInBounds_toArray, List.set_cons_zero, List.set_cons_succ, i64_w, i32_w]; rfl); refine pure_ (i := 5) (N := some 22) (v := ?_) (a' := ?_) (rowB 10 55) rfl rfl (any_of HT_.out (by kernel_rfl)) (fun _ _ _ h => h) (Or.inl ⟨by rfl, ?_⟩) ?_ ?_; rotate_left; (· intro w'; go_simp; with_reducible rfl); rotate_left; (· simp only [Act.put, List.setIfInBounds_toArray, List.set_cons_zero, List.set_cons_succ, i64_w, i32_w]; rfl); refine pure_ (i := 6) (N := some 23) (v := ?_) (a' := ?_) (rowB 10 119) rfl rfl (any_of HT_.out (by kernel_rfl)) (fun _ _ _ h => h) (Or.inl ⟨by rfl, ?_⟩) ?_ ?_; rotate_left; (· intro w'; go_simp; with_reducible rfl); rotate_left; (· simp only [Act.put, List.setIfInBounds_toArray, List.set_cons_zero, List.set_cons_succ, i64_w, i32_w]; rfl); refine take_ (i := 3) (N := some 20) (v := ?_) (a' := ?_) (rowB 10 127) rfl rfl (take_ofW HT_.out HW_.out (by kernel_rfl)) (fun _ _ _ h => h) (Or.inl ⟨by rfl, ?_⟩) hHeld ?_ ?_; rotate_left; (· rintro w' ⟨s0, s1, s2, s3, s4, s5⟩; go_simp; with_reducible rfl); rotate_left; (· simp only [Act.put, List.setIfInBounds_toArray, List.set_cons_zero, List.set_cons_succ, i64_w, i32_w]; rfl); refine take_ (i := 7) (N := some 24) (v := ?_) (a' := ?_) (rowB 10 255) rfl rfl (take_ofW HT_.out HW_.out (by kernel_rfl)) (fun _ _ _ h => h) (Or.inl ⟨by rfl, ?_⟩) hHeld ?_ ?_; rotate_left; (· rintro w' ⟨s0, s1, s2, s3, s4, s5⟩; go_simp; with_reducible rfl); rotate_left; (· simp only [Act.put, List.setIfInBounds_toArray, List.set_cons_zero, List.set_cons_succ, i64_w, i32_w]; rfl); refine one_ (i := 8) (N := some 25) (rowB 10 511) rfl rfl (one_of HT_.out (by kernel_rfl)) (by decide) (fun K hK => ?_); refine goes_ Tryd.func65 (by kernel_rfl) rfl #[.agg #[.string ((rd_T38 l0 x5_1).f0), .int .i64 ((rd_T38 l0 x5_1).f1), .slice A235_2 ((rd_T38 l0 x5_1).f2).length c235_2], .agg #[.string ((rd_T38 l1 x5_1).f0), .int .i64 ((rd_T38 l1 x5_1).f1), .slice A236_2 ((rd_T38 l1 x5_1).f2).length c236_2]] (by rfl) rfl rfl (by (try simp only [List.map_toArray, List.map_cons, List.map_nil]); first | done | rfl | (simp only [List.length_drop, List.length_take]; rfl)) ?_; with_reducible refine (laws_sameEntry.calls k1 ((rd_T38 l0 x5_1).f0) ((rd_T38 l0 x5_1).f1) _ _ ((rd_T38 l0 x5_1).f2) ((rd_T38 l1 x5_1).f0) ((rd_T38 l1 x5_1).f1) _ _ ((rd_T38 l1 x5_1).f2) false _ ?side1 ?side2 ?side3 ?side4 A7.out).mono ?_
        (case side1 => repeat (first | exact (Kd.C_below HR235_2.out HB.out) | (with_reducible refine Kd.C_alloc ?_ _) | (with_reducible refine Kd.C_drewN ?_ _) | (with_reducible refine Kd.C_drew ?_)))
        (case side2 => exact HC235_2.out)
        (case side3 => repeat (first | exact (Kd.C_below HR236_2.out HB.out) | (with_reducible refine Kd.C_alloc ?_ _) | (with_reducible refine Kd.C_drewN ?_ _) | (with_reducible refine Kd.C_drew ?_)))
        (case side4 => exact HC236_2.out)
        rintro e w12 ⟨rfl, hb⟩; refine ⟨_, rfl, ?_⟩; have n0_ := Aside0.mk (below_step (by repeat (first | (with_reducible first | exact HB.out | apply below_alloc | apply pw_below_drewN | apply below_drew1) | exact HB.out)) hb); clear HB; have HB := n0_; clear n0_; (try clear hb)
        (try clear hb2)
        (try clear hk)
        (try clear hi)
        refine hK.out _ _ ⟨((HB.out.cell (World.block_lt_of_cell? w _ hw235_0)).trans hw235_0), ((HB.out.cell (World.block_lt_of_cell? w _ hw235_1)).trans hw235_1), ((HB.out.cell (World.block_lt_of_cell? w _ hw235_2)).trans hw235_2), ((HB.out.cell (World.block_lt_of_cell? w _ hw236_0)).trans hw236_0), ((HB.out.cell (World.block_lt_of_cell? w _ hw236_1)).trans hw236_1), ((HB.out.cell (World.block_lt_of_cell? w _ hw236_2)).trans hw236_2)⟩ (fun hHeld => ?_); clear hK K; refine norm_ (a' := ?_) ?_ ?_; rotate_left; (· show Act.put _ (some 25) _ = _; simp only [Act.put, List.setIfInBounds_toArray, List.set_cons_zero, List.set_cons_succ, i64_w, i32_w]; rfl); refine pure_ (i := 9) (N := some 26) (v := ?_) (a' := ?_) (rowB 10 1023) rfl rfl (any_of HT_.out (by kernel_rfl)) (fun _ _ _ h => h) (Or.inl ⟨by rfl, ?_⟩) ?_ ?_; rotate_left; (· intro w'; go_simp; with_reducible rfl); rotate_left; (· simp only [Act.put, List.setIfInBounds_toArray, List.set_cons_zero, List.set_cons_succ, i64_w, i32_w]; rfl); refine done_ (done_of HT_.out (by kernel_rfl)) ?_; try go_wp2
        go_ret
        exact ⟨by first | rfl | (simp [errW_none, errW_some] <;> rfl) | (simp [*, errW_none, errW_some] <;> rfl), by repeat (first | (with_reducible first | exact HB.out | apply below_alloc | apply pw_below_drewN | apply below_drew1) | exact HB.out)⟩
      ·
       rw [if_neg c6] at H; exact absurd H (by simp)
     ·
      rw [if_neg c5] at H; exact absurd H (by simp)
    ·
     rw [if_neg c4] at H; have c4b0 : decide (x5_1 < (l0.length : Int)) = false := decide_eq_false c4; clear c4; obtain rfl := Option.some.inj H; go_wp2; go_ret
     exact ⟨by first | rfl | (simp [errW_none, errW_some] <;> rfl) | (simp [*, errW_none, errW_some] <;> rfl), by repeat (first | (with_reducible first | exact HB.out | apply below_alloc | apply pw_below_drewN | apply below_drew1) | exact HB.out)⟩
 ·
  rw [if_neg c3] at H; have c3b0 : ((l0.length : Int) == (l1.length : Int)) = false := beq_eq_false_iff_ne.mpr c3; have c3b1 : ((l0.length : Int) != (l1.length : Int)) = true := bne_iff_ne.mpr c3; have c3b2 : (l0.length == l1.length) = false := by first | simpa using c3 | (simp at c3 ⊢; omega)
  obtain rfl := Option.some.inj H; go_enter Tryd.func24, Tryd.ntmps24
  go_wp2; go_ret
  exact ⟨by first | rfl | (simp [errW_none, errW_some] <;> rfl) | (simp [*, errW_none, errW_some] <;> rfl), by repeat (first | (with_reducible first | exact HB.out | apply below_alloc | apply pw_below_drewN | apply below_drew1) | exact HB.out)⟩

end Go.Proofs.YtmacedbpdhkagaaDoor.PFnTonaryJoin
namespace Go.Proofs.YtmacedbpdhkagaaDoor.PFnTonaryJoin
set_option linter.unusedVariables false
set_option linter.unusedSimpArgs false
open Go Go.RowKit Go.Proofs.YtmacedbpdhkagaaDoor.Pure Go.Proofs.YtmacedbpdhkagaaDoorW.PrintWords Go.Proofs.YtmacedbpdhkagaaDoorW.PrintLast Go.Proofs.YtmacedbpdhkagaaDoorW.PrintMore
def impl_TonaryAdd.f (l0 : List S38) (a1_0 : ByteArray) (a1_1 : Int) (l1_2 : List S90) : Option (List S38 × Bool) := if entSz l0 = true ∧ a1_0.size ≤ 9000000000000000 ∧ l1_2.length ≤ 1000000000000 then some (tonAdd l0 ⟨a1_0, a1_1, l1_2⟩) else none
theorem impl_TonaryAdd.calls (A0 : Option Addr) (c0 : Nat) (l0 : List S38) (a1_0 : ByteArray) (a1_1 : Int) (A1_2 : Option Addr) (c1_2 : Nat) (l1_2 : List S90) (r1 : List S38) (r2 : Bool) (w : World) (ht : MTab w) (hr0 : Kd.C k38 w A0 l0.length l0) (hc0 : l0.length ≤ c0) (hr1_2 : Kd.C k90 w A1_2 l1_2.length l1_2) (hc1_2 : l1_2.length ≤ c1_2) (h : impl_TonaryAdd.f l0 a1_0 a1_1 l1_2 = some (r1, r2)) :
 Calls Tryd.prog 38 #[.slice A0 l0.length c0, .agg #[.string a1_0, .int .i64 a1_1, .slice A1_2 l1_2.length c1_2]] w fun e w' => ∃ v0_ : Value, e = .returned (.tuple #[v0_, .bool r2]) ∧ Kd.S k38 38 w' w.heap.size (fun _ => True) v0_ r1 ∧ Below w.heap.size w w' := by
 unfold impl_TonaryAdd.f at h; split at h
 ·
  rename_i hh
  injection h with h
  have := impl_TonaryAdd_calls l0 ⟨a1_0, a1_1, l1_2⟩ A0 c0 A1_2 c1_2 w ht hr0 hc0 hr1_2 hc1_2 hh.1 hh.2; rw [tonAddI_eq, h] at this; exact this
 ·
  cases h

end Go.Proofs.YtmacedbpdhkagaaDoor.PFnTonaryJoin
namespace Go.Proofs.YtmacedbpdhkagaaDoor.PFnTonaryJoin
open Go.RowKit Go.Proofs.YtmacedbpdhkagaaDoorW.PrintWords Go.Proofs.YtmacedbpdhkagaaDoorW.PrintLast Go.Proofs.YtmacedbpdhkagaaDoorW.PrintMore
attribute [local go_sem] max2_int min2_int max_two min_two max_three min_three max_four min_four   -- for this text's walks alone
set_option linter.unusedVariables false
set_option linter.unusedSimpArgs false

/-- A state of type 112 at block g of W; what its slices lead to came in by w0. -/
def IsS112 (w0 W : World) (g : Nat) (f0 : List Int) (f1 : Int) : Prop := ∃ A0 c0, W.heap[g]? = some (.cells #[.slice A0 f0.length c0, .int .i64 f1] 112 (0, 0)) ∧ w0.heap.size ≤ g ∧ Kd.C (Kd.int .u8) w0 A0 f0.length f0
theorem IsS112.grown {w0 W : World} {g : Nat} {f0 : List Int} {f1 : Int} {W1 : World} {row : Option Nat} (h : IsS112 w0 W g f0 f1) (hw : W.grownBy W1 row) (hne : some g ≠ row) : IsS112 w0 W1 g f0 f1 := by
 obtain ⟨A0, c0, hb, hg, hr0⟩ := h; exact ⟨A0, c0, blk_grown hb hw hne, hg, hr0⟩
theorem IsS112.own_neN {w0 W : World} {g : Nat} {f0 : List Int} {f1 : Int} {α : Type} {d : Kd α} {e : Nat} {base : Nat} {ok : Nat → Prop} {v : Value} {xs : List α} (h : IsS112 w0 W g f0 f1) (ho : Kd.N d e W base ok v xs) (ht : e ≠ 112) : some g ≠ v.ownBlock := by
 obtain ⟨A0, c0, hb, hg, hr0⟩ := h; exact Kd.N_ne ho hb ht
theorem IsS112.fresh {w0 W : World} {g : Nat} {f0 : List Int} {f1 : Int} (h : IsS112 w0 W g f0 f1) : ∀ k, W.heap.size ≤ k → k ≠ g := by
 obtain ⟨A0, c0, hb, hg, hr0⟩ := h; exact Kd.freshB hb
theorem IsS112.below {w0 W : World} {g : Nat} {f0 : List Int} {f1 : Int} {W1 : World} (h : IsS112 w0 W g f0 f1) (hw : Below W.heap.size W W1) : IsS112 w0 W1 g f0 f1 := h.grown (grown_of_below hw none) (by simp)
theorem IsS112.drewN {w0 W : World} {g : Nat} {f0 : List Int} {f1 : Int} (h : IsS112 w0 W g f0 f1) (m : Nat) : IsS112 w0 (W.drewN m) g f0 f1 := h
theorem IsS112.apart {w0 W : World} {g : Nat} {f0 : List Int} {f1 : Int} {α : Type} {d : Kd α} {e : Nat} {base : Nat} {ok : Nat → Prop} {v : Value} {xs : List α} (h : IsS112 w0 W g f0 f1) (ho : d.R e W base ok v xs) (ht : ∀ q, q ∈ e :: d.E → q ≠ 112) : d.R e W base (fun k => ok k ∧ k ≠ g) v xs := by
 obtain ⟨A0, c0, hb, hg, hr0⟩ := h; exact Kd.R_types ho hb ht
theorem IsS112.own_ne {w0 W : World} {g : Nat} {f0 : List Int} {f1 : Int} {α : Type} {d : Kd α} {e : Nat} {base : Nat} {ok : Nat → Prop} {v : Value} {xs : List α} (h : IsS112 w0 W g f0 f1) (ho : d.R e W base ok v xs) (ht : e ≠ 112) : some g ≠ v.ownBlock := by
 obtain ⟨A0, c0, hb, hg, hr0⟩ := h; exact Kd.R_ne ho hb ht
theorem IsS112.lt {w0 W : World} {g : Nat} {f0 : List Int} {f1 : Int} (h : IsS112 w0 W g f0 f1) : g < W.heap.size := by
 obtain ⟨A0, c0, hb, hg, hr0⟩ := h; exact blk_lt hb
theorem IsS112.ge {w0 W : World} {g : Nat} {f0 : List Int} {f1 : Int} (h : IsS112 w0 W g f0 f1) : w0.heap.size ≤ g := by
 obtain ⟨A0, c0, hb, hg, hr0⟩ := h; exact hg
theorem IsS112.far {w0 W : World} {g : Nat} {f0 : List Int} {f1 : Int} {p : Addr} (h : IsS112 w0 W g f0 f1) (hne : g ≠ p.block) (u : Value) : IsS112 w0 (W.setCell p u) g f0 f1 := by
 obtain ⟨A0, c0, hb, hg, hr0⟩ := h; exact ⟨A0, c0, blk_far hb hne u, hg, hr0⟩
theorem cellS112_0 {W : World} {g : Nat} {A0 : Option Addr} {c0 : Nat} {f0 : List Int} {f1 : Int} (h : W.heap[g]? = some (.cells #[.slice A0 f0.length c0, .int .i64 f1] 112 (0, 0))) : W.cell? ⟨g, 0, none⟩ = some (.slice A0 f0.length c0) := (blk_cell h 0).trans rfl
theorem cellS112_1 {W : World} {g : Nat} {A0 : Option Addr} {c0 : Nat} {f0 : List Int} {f1 : Int} (h : W.heap[g]? = some (.cells #[.slice A0 f0.length c0, .int .i64 f1] 112 (0, 0))) : W.cell? ⟨g, 1, none⟩ = some (.int .i64 f1) := (blk_cell h 1).trans rfl
theorem IsS112.set_1 {w0 W : World} {g : Nat} {f0 : List Int} {f1 : Int} (h : IsS112 w0 W g f0 f1) (x : Int) : IsS112 w0 (W.setCell ⟨g, 1, none⟩ (.int .i64 x)) g f0 x := by
 obtain ⟨A0, c0, hb, hg, hr0⟩ := h; exact ⟨A0, c0, by simpa using blk_set hb 1 (.int .i64 x), hg, hr0⟩
def spec_l6Open.f (l0 : List Int) : Option (List Int × Int) := if (l0.length : Int) > 2000 then (if 2000 ≤ (l0.length : Int) then (some (l0.take 2000, 0)) else (none)) else (some (l0, 0))
set_option maxHeartbeats 8000000 in
set_option maxRecDepth 100000 in
theorem spec_l6Open.calls (A0 : Option Addr) (c0 : Nat) (l0 : List Int) (r1 : List Int) (r2 : Int) (w0 w : World) (hB : Below w0.heap.size w0 w) (hr0 : Kd.C (Kd.int .u8) w0 A0 l0.length l0) (hc0 : l0.length ≤ c0) (h : spec_l6Open.f l0 = some (r1, r2)) :
 Calls Tryd.prog 61 #[.slice A0 l0.length c0] w fun e w' => ∃ g_ : Nat, e = .returned (.pointer (some ⟨g_, 0, none⟩)) ∧ IsS112 w0 w' g_ r1 r2 ∧ Below w0.heap.size w0 w' ∧ Below w.heap.size w w' := by
 have hu112 := Tryd.underlying112; have HR0 := Aside0.mk hr0; have HC0 := Aside0.mk hc0; clear hr0 hc0; have HBW := Aside0.mk (Below.refl w.heap.size w); have HW0 := Aside0.mk hB.size; have HB := Aside0.mk hB; clear hB; have H : (if (l0.length : Int) > 2000 then (if 2000 ≤ (l0.length : Int) then (some (l0.take 2000, 0)) else (none)) else (some (l0, 0))) = some (r1, r2) := h; clear h; by_cases c2 : (l0.length : Int) > 2000
 ·
  rw [if_pos c2] at H; have c2b0 : decide (2000 < (l0.length : Int)) = true := decide_eq_true c2; have c2b1 : decide (2000 < l0.length) = true := decide_eq_true (by omega); clear c2; by_cases c3 : 2000 ≤ (l0.length : Int)
  ·
   rw [if_pos c3] at H; have c3b0 := eq_true c3; have c3b1 : decide (2000 ≤ (l0.length : Int)) = true := decide_eq_true c3; clear c3; simp only [Option.some.injEq, Prod.mk.injEq] at H; obtain ⟨rfl, rfl⟩ := H; obtain ⟨i04, hi04, _, hsz4, _⟩ := info_parts info5; obtain ⟨hcut4, hA4, hC4⟩ := print_take_of (P := Tryd.prog) (Value.int .u8) 0 33 5 .i64 Tryd.underlying33 hi04 hsz4 A0 c0 l0 2000 (by omega) (of_decide_eq_true (by first | (with_reducible assumption) | assumption)) HC0.out; have HR244 := Aside0.mk (Kd.C_of_reads (h1 := fun _ => rfl) (hA4 _ (Kd.reads_of_C HR0.out))); have HC244 := Aside0.mk hC4; clear hA4 hC4 hi04 hsz4; go_enter Tryd.func61, Tryd.ntmps61
   go_wp2_with (first | ((with_reducible refine gate_dst (N := 10) rfl ?_); refine box_event ?hg (N := 10) ?hd (cs := #[.slice A0 (l0.take 2000).length c0, .int .i64 0]) (t := 112) ?hr ?_; (case hd => rfl); (case hg => rfl); (case hr => first | (go_simp; done) | (go_simp; rfl)); intro gb245 hg w5 hbox hb; have n0_ := Aside0.mk (below_step HBW.out hb); have n1_ := Aside0.mk (below_step (by repeat (first | (with_reducible first | exact HB.out | apply below_alloc | apply pw_below_drewN | apply below_drew1) | exact HB.out)) hb); have n2_ := Aside0.mk (hbox); have n3_ := Aside0.mk ((by rw [hg]; exact (below_size (by repeat (first | (with_reducible first | exact HBW.out | apply below_alloc | apply pw_below_drewN | apply below_drew1) | exact HBW.out))) : w.heap.size ≤ gb245)); have n4_ := Aside0.mk ((Nat.le_trans HW0.out (by rw [hg]; exact (below_size (by repeat (first | (with_reducible first | exact HBW.out | apply below_alloc | apply pw_below_drewN | apply below_drew1) | exact HBW.out))) : w.heap.size ≤ gb245) : w0.heap.size ≤ gb245)); clear HBW; clear HB; have HBW := n0_; have HB := n1_; have BK245 := n2_; have GW245 := n3_; have GE245 := n4_; clear n0_ n1_ n2_ n3_ n4_; clear hb hbox hg))
   go_ret
   exact ⟨_, rfl, (show IsS112 w0 _ gb245 (l0.take 2000) 0 from ⟨_, _, by (with_reducible repeat (first | refine blk_drewN ?_ _ | refine blk_drew ?_ | refine blk_alloc ?_ _)); exact BK245.out, GE245.out, HR244.out⟩), by repeat (first | (with_reducible first | exact HB.out | apply below_alloc | apply pw_below_drewN | apply below_drew1 | refine below_set ?_ GE245.out) | exact HB.out), by repeat (first | (with_reducible first | exact HBW.out | apply below_alloc | apply pw_below_drewN | apply below_drew1 | refine below_set ?_ GW245.out) | exact HBW.out)⟩
  ·
   rw [if_neg c3] at H; exact absurd H (by simp)
 ·
  rw [if_neg c2] at H; have c2b0 : decide (2000 < (l0.length : Int)) = false := decide_eq_false c2; have c2b1 : decide (2000 < l0.length) = false := decide_eq_false (by omega); clear c2; simp only [Option.some.injEq, Prod.mk.injEq] at H; obtain ⟨rfl, rfl⟩ := H; go_enter Tryd.func61, Tryd.ntmps61
  go_wp2_with (first | ((with_reducible refine gate_dst (N := 10) rfl ?_); refine box_event ?hg (N := 10) ?hd (cs := #[.slice A0 l0.length c0, .int .i64 0]) (t := 112) ?hr ?_; (case hd => rfl); (case hg => rfl); (case hr => first | (go_simp; done) | (go_simp; rfl)); intro gb246 hg w6 hbox hb; have n0_ := Aside0.mk (below_step HBW.out hb); have n1_ := Aside0.mk (below_step (by repeat (first | (with_reducible first | exact HB.out | apply below_alloc | apply pw_below_drewN | apply below_drew1) | exact HB.out)) hb); have n2_ := Aside0.mk (hbox); have n3_ := Aside0.mk ((by rw [hg]; exact (below_size (by repeat (first | (with_reducible first | exact HBW.out | apply below_alloc | apply pw_below_drewN | apply below_drew1) | exact HBW.out))) : w.heap.size ≤ gb246)); have n4_ := Aside0.mk ((Nat.le_trans HW0.out (by rw [hg]; exact (below_size (by repeat (first | (with_reducible first | exact HBW.out | apply below_alloc | apply pw_below_drewN | apply below_drew1) | exact HBW.out))) : w.heap.size ≤ gb246) : w0.heap.size ≤ gb246)); clear HBW; clear HB; have HBW := n0_; have HB := n1_; have BK246 := n2_; have GW246 := n3_; have GE246 := n4_; clear n0_ n1_ n2_ n3_ n4_; clear hb hbox hg))
  go_ret
  exact ⟨_, rfl, (show IsS112 w0 _ gb246 l0 0 from ⟨_, _, by (with_reducible repeat (first | refine blk_drewN ?_ _ | refine blk_drew ?_ | refine blk_alloc ?_ _)); exact BK246.out, GE246.out, HR0.out⟩), by repeat (first | (with_reducible first | exact HB.out | apply below_alloc | apply pw_below_drewN | apply below_drew1 | refine below_set ?_ GE246.out) | exact HB.out), by repeat (first | (with_reducible first | exact HBW.out | apply below_alloc | apply pw_below_drewN | apply below_drew1 | refine below_set ?_ GW246.out) | exact HBW.out)⟩

end Go.Proofs.YtmacedbpdhkagaaDoor.PFnTonaryJoin
namespace Go.Proofs.YtmacedbpdhkagaaDoor.PFnTonaryJoin
open Go.RowKit Go.Proofs.YtmacedbpdhkagaaDoorW.PrintWords Go.Proofs.YtmacedbpdhkagaaDoorW.PrintLast Go.Proofs.YtmacedbpdhkagaaDoorW.PrintMore
attribute [local go_sem] max2_int min2_int max_two min_two max_three min_three max_four min_four   -- for this text's walks alone
set_option linter.unusedVariables false
set_option linter.unusedSimpArgs false

def spec_l6Rd_pick.j0 : Nat → Int → Bool → List Int → Int → Option (Int × Int)
 | 0, _, _, _, _ => none
 | k + 1, x1, x24, x1000, x1001 => if x24 = true then (some (0, x1001)) else (if (wrap64 (x1001 - 1)) < (x1000.length : Int) then (if 0 ≤ (wrap64 (x1001 - 1)) then (if x1 = 0 then (none) else (some (Int.tmod (wrap64 (rd x1000 (wrap64 (x1001 - 1)))) x1, x1001))) else (none)) else (if (x1000.length : Int) = 0 then (none) else (if 0 ≤ (Int.tmod (wrap64 (x1001 - 1)) (x1000.length : Int)) then (if (Int.tmod (wrap64 (x1001 - 1)) (x1000.length : Int)) < (x1000.length : Int) then (if 0 ≤ (Int.tmod (wrap64 ((wrap64 ((wrap64 (x1001 - 1)) * 7)) + 3)) (x1000.length : Int)) then (if (Int.tmod (wrap64 ((wrap64 ((wrap64 (x1001 - 1)) * 7)) + 3)) (x1000.length : Int)) < (x1000.length : Int) then (if x1 = 0 then (none) else (some (Int.tmod (Go.bits .xor .i64 (wrap64 ((wrap64 ((wrap64 ((wrap64 ((wrap64 (rd x1000 (Int.tmod (wrap64 (x1001 - 1)) (x1000.length : Int)))) * 131)) + (wrap64 ((wrap64 (rd x1000 (Int.tmod (wrap64 ((wrap64 ((wrap64 (x1001 - 1)) * 7)) + 3)) (x1000.length : Int)))) * 1117)))) + (wrap64 ((wrap64 (x1001 - 1)) * 29)))) + (wrap64 ((wrap64 (Int.tdiv (wrap64 (x1001 - 1)) (x1000.length : Int))) * 53)))) (wrap64 (Int.tdiv (wrap64 ((wrap64 ((wrap64 ((wrap64 ((wrap64 (rd x1000 (Int.tmod (wrap64 (x1001 - 1)) (x1000.length : Int)))) * 131)) + (wrap64 ((wrap64 (rd x1000 (Int.tmod (wrap64 ((wrap64 ((wrap64 (x1001 - 1)) * 7)) + 3)) (x1000.length : Int)))) * 1117)))) + (wrap64 ((wrap64 (x1001 - 1)) * 29)))) + (wrap64 ((wrap64 (Int.tdiv (wrap64 (x1001 - 1)) (x1000.length : Int))) * 53)))) 64))) x1, x1001))) else (none)) else (none)) else (none)) else (none))))
def spec_l6Rd_pick.f (k : Nat) (s0_0 : List Int) (s0_1 : Int) (a1 : Int) : Option (Int × Int) := if a1 < 1 then (spec_l6Rd_pick.j0 k a1 true s0_0 (wrap64 (s0_1 + 1))) else (spec_l6Rd_pick.j0 k a1 ((s0_0.length : Int) == 0) s0_0 (wrap64 (s0_1 + 1)))
set_option maxHeartbeats 8000000 in
set_option maxRecDepth 100000 in
theorem spec_l6Rd_pick.calls (k : Nat) (g : Nat) (s0_0 : List Int) (s0_1 : Int) (a1 : Int) (r1 : Int) (r2 : Int) (w0 w : World) (hI : IsS112 w0 w g s0_0 s0_1) (hB : Below w0.heap.size w0 w) (h : spec_l6Rd_pick.f k s0_0 s0_1 a1 = some (r1, r2)) :
 Calls Tryd.prog 63 #[.pointer (some ⟨g, 0, none⟩), .int .i64 a1] w fun e w' => e = .returned (.int .i64 r1) ∧ IsS112 w0 w' g s0_0 r2 ∧ Below w0.heap.size w0 w' ∧ KeepBut w w' g none := by
 have HI0 := Aside0.mk hI; have HK := Aside0.mk (KeepBut.refl w g none); have HL := Aside0.mk hB.size; clear hI; have HW0 := Aside0.mk hB.size; have HB := Aside0.mk hB; clear hB; have H : (if a1 < 1 then (spec_l6Rd_pick.j0 k a1 true s0_0 (wrap64 (s0_1 + 1))) else (spec_l6Rd_pick.j0 k a1 ((s0_0.length : Int) == 0) s0_0 (wrap64 (s0_1 + 1)))) = some (r1, r2) := h; clear h; have HC3 := Aside0.mk H; clear H; obtain ⟨ASz4_0, cSz4_0, HGz4, hgz4, HSz4_0⟩ := HI0.out; have hcz4_0 := cellS112_0 HGz4; have hcz4_1 := cellS112_1 HGz4; have hfz4_1 := blk_frozen HGz4 1; clear HGz4 hgz4; go_enter Tryd.func63, Tryd.ntmps63
 go_upto_region 2 with (fail)
 repeat (go_quiet (fail); go_upto_region 2 with (fail))
 go_cut [24] (fun v24 wc => ∃ (kq : Nat) (x24_2 : Bool), v24 = .bool x24_2 ∧ Aside0 (spec_l6Rd_pick.j0 kq a1 x24_2 s0_0 (wrap64 (s0_1 + 1)) = some (r1, r2)) ∧ Aside0 (kq ≤ k) ∧ Aside0 (IsS112 w0 wc g s0_0 (wrap64 (s0_1 + 1))) ∧ Aside0 (KeepBut w wc g none) ∧ Aside0 (Below w0.heap.size w0 wc))
 case first =>
  have H := HC3.out; clear HC3; by_cases c5 : a1 < 1
  ·
   rw [if_pos c5] at H; have c5b0 : decide (a1 < 1) = true := decide_eq_true c5; clear c5; (first | rw [c5b0] | (simp only [i64_w, i32_w]; rw [c5b0]) | skip)
   have H' := Aside0.mk H; clear H; go_wp2; repeat (go_quiet (fail); try go_wp2)
   go_meet
   case rel => exact ⟨_, (true), (by first | rfl | (simp; done) | (simp [*]; done)), H', ⟨by first | omega | exact Nat.le_refl _⟩, ⟨by repeat (first | (with_reducible first | exact HI0.out | apply IsS112.alloc | apply IsS112.drewN | apply IsS112.drew | apply IsS112.set_1) | exact HI0.out)⟩, ⟨by repeat (first | (with_reducible first | exact HK.out | apply KeepBut.set_ | apply keep_drewN | apply keep_drew | apply keep_alloc) | exact HK.out)⟩, ⟨by repeat (first | (with_reducible first | exact HB.out | apply below_alloc | apply pw_below_drewN | apply below_drew1 | refine below_set ?_ (IsS112.ge HI0.out)) | exact HB.out)⟩⟩
  ·
   rw [if_neg c5] at H; have c5b0 : decide (a1 < 1) = false := decide_eq_false c5; clear c5; (first | rw [c5b0] | (simp only [i64_w, i32_w]; rw [c5b0]) | skip)
   have H' := Aside0.mk H; clear H; obtain ⟨ASz6_0, cSz6_0, HGz6, hgz6, HSz6_0⟩ := HI0.out; have hcz6_0 := cellS112_0 HGz6; have hcz6_1 := cellS112_1 HGz6; have hfz6_1 := blk_frozen HGz6 1; clear HGz6 hgz6; go_wp2; repeat (go_quiet (fail); try go_wp2)
   go_meet
   case rel => exact ⟨_, (((s0_0.length : Int) == 0)), (by first | rfl | (simp; done) | (simp [*]; done)), H', ⟨by first | omega | exact Nat.le_refl _⟩, ⟨by repeat (first | (with_reducible first | exact HI0.out | apply IsS112.alloc | apply IsS112.drewN | apply IsS112.drew | apply IsS112.set_1) | exact HI0.out)⟩, ⟨by repeat (first | (with_reducible first | exact HK.out | apply KeepBut.set_ | apply keep_drewN | apply keep_drew | apply keep_alloc) | exact HK.out)⟩, ⟨by repeat (first | (with_reducible first | exact HB.out | apply below_alloc | apply pw_below_drewN | apply below_drew1 | refine below_set ?_ (IsS112.ge HI0.out)) | exact HB.out)⟩⟩
 case rest =>
  clear HC3; try clear p2
  try clear c5
  try clear c5b0
  try clear c6
  try clear p6
  try clear hcz4_0
  try clear hcz4_1
  try clear hcz6_0
  try clear hcz6_1
  try clear hfz4_1
  try clear hfz6_1
  obtain ⟨kq, x24_2, rfl, HA, HJ2, HI0, HK, HB⟩ := hcut; cases kq with
  | zero => exact absurd HA.out (by simp [spec_l6Rd_pick.j0])
  | succ kj2 =>
   have H := HA.out; clear HA; simp only [spec_l6Rd_pick.j0] at H; by_cases c7 : x24_2 = true
   ·
    subst c7; have H1 : (some (0, (wrap64 (s0_1 + 1)))) = some (r1, r2) := by rw [if_pos rfl] at H; exact H
    clear H; have H := H1; clear H1; simp only [Option.some.injEq, Prod.mk.injEq] at H; obtain ⟨rfl, rfl⟩ := H; go_wp2; repeat (go_quiet (fail); try go_wp2)
    go_ret
    exact ⟨by first | rfl | (simp [errW_none, errW_some] <;> rfl) | (simp [*, errW_none, errW_some] <;> rfl), by repeat (first | (with_reducible first | exact HI0.out | apply IsS112.alloc | apply IsS112.drewN | apply IsS112.drew | apply IsS112.set_1) | exact HI0.out), by repeat (first | (with_reducible first | exact HB.out | apply below_alloc | apply pw_below_drewN | apply below_drew1 | refine below_set ?_ (IsS112.ge HI0.out)) | exact HB.out), by repeat (first | (with_reducible first | exact HK.out | apply KeepBut.set_ | apply keep_drewN | apply keep_drew | apply keep_alloc) | exact HK.out)⟩
   ·
    replace c7 := Bool.eq_false_iff.mpr c7; subst c7; have H1 : (if (wrap64 ((wrap64 (s0_1 + 1)) - 1)) < (s0_0.length : Int) then (if 0 ≤ (wrap64 ((wrap64 (s0_1 + 1)) - 1)) then (if a1 = 0 then (none) else (some (Int.tmod (wrap64 (rd s0_0 (wrap64 ((wrap64 (s0_1 + 1)) - 1)))) a1, (wrap64 (s0_1 + 1))))) else (none)) else (if (s0_0.length : Int) = 0 then (none) else (if 0 ≤ (Int.tmod (wrap64 ((wrap64 (s0_1 + 1)) - 1)) (s0_0.length : Int)) then (if (Int.tmod (wrap64 ((wrap64 (s0_1 + 1)) - 1)) (s0_0.length : Int)) < (s0_0.length : Int) then (if 0 ≤ (Int.tmod (wrap64 ((wrap64 ((wrap64 ((wrap64 (s0_1 + 1)) - 1)) * 7)) + 3)) (s0_0.length : Int)) then (if (Int.tmod (wrap64 ((wrap64 ((wrap64 ((wrap64 (s0_1 + 1)) - 1)) * 7)) + 3)) (s0_0.length : Int)) < (s0_0.length : Int) then (if a1 = 0 then (none) else (some (Int.tmod (Go.bits .xor .i64 (wrap64 ((wrap64 ((wrap64 ((wrap64 ((wrap64 (rd s0_0 (Int.tmod (wrap64 ((wrap64 (s0_1 + 1)) - 1)) (s0_0.length : Int)))) * 131)) + (wrap64 ((wrap64 (rd s0_0 (Int.tmod (wrap64 ((wrap64 ((wrap64 ((wrap64 (s0_1 + 1)) - 1)) * 7)) + 3)) (s0_0.length : Int)))) * 1117)))) + (wrap64 ((wrap64 ((wrap64 (s0_1 + 1)) - 1)) * 29)))) + (wrap64 ((wrap64 (Int.tdiv (wrap64 ((wrap64 (s0_1 + 1)) - 1)) (s0_0.length : Int))) * 53)))) (wrap64 (Int.tdiv (wrap64 ((wrap64 ((wrap64 ((wrap64 ((wrap64 (rd s0_0 (Int.tmod (wrap64 ((wrap64 (s0_1 + 1)) - 1)) (s0_0.length : Int)))) * 131)) + (wrap64 ((wrap64 (rd s0_0 (Int.tmod (wrap64 ((wrap64 ((wrap64 ((wrap64 (s0_1 + 1)) - 1)) * 7)) + 3)) (s0_0.length : Int)))) * 1117)))) + (wrap64 ((wrap64 ((wrap64 (s0_1 + 1)) - 1)) * 29)))) + (wrap64 ((wrap64 (Int.tdiv (wrap64 ((wrap64 (s0_1 + 1)) - 1)) (s0_0.length : Int))) * 53)))) 64))) a1, (wrap64 (s0_1 + 1))))) else (none)) else (none)) else (none)) else (none)))) = some (r1, r2) := by rw [if_neg (show ¬ (false = true) by decide)] at H; exact H
    clear H; have H := H1; clear H1; by_cases c8 : (wrap64 ((wrap64 (s0_1 + 1)) - 1)) < (s0_0.length : Int)
    ·
     rw [if_pos c8] at H; have c8b0 : decide ((wrap64 ((wrap64 (s0_1 + 1)) - 1)) < (s0_0.length : Int)) = true := decide_eq_true c8; clear c8; obtain ⟨ji9, hji9⟩ : ∃ j_ : Int, (wrap64 ((wrap64 (s0_1 + 1)) - 1)) = j_ := ⟨_, rfl⟩
     replace H : (if 0 ≤ (ji9) then (if a1 = 0 then (none) else (some (Int.tmod (wrap64 (rd s0_0 (ji9))) a1, (wrap64 (s0_1 + 1))))) else (none)) = some (r1, r2) := by first | (rw [hji9] at H; exact H) | (simp only [hji9] at H ⊢; exact H)
     (try rw [hji9] at c8b0)
     have hji9w : (IntKind.i64.wrap ((wrap64 (s0_1 + 1)) - 1)) = ji9 := (i64_w _).trans hji9; by_cases c10 : 0 ≤ (ji9)
     ·
      rw [if_pos c10] at H; have c10b0 : decide (0 ≤ (ji9)) = true := decide_eq_true c10; clear c10; by_cases c11 : a1 = 0
      ·
       rw [if_pos c11] at H; exact absurd H (by simp)
      ·
       rw [if_neg c11] at H; have c11b0 : (a1 == 0) = false := beq_eq_false_iff_ne.mpr c11; have c11b1 : (a1 != 0) = true := bne_iff_ne.mpr c11; simp only [Option.some.injEq, Prod.mk.injEq] at H; obtain ⟨rfl, rfl⟩ := H; obtain ⟨ASz12_0, cSz12_0, HGz12, hgz12, HSz12_0⟩ := HI0.out; have hcz12_0 := cellS112_0 HGz12; have hcz12_1 := cellS112_1 HGz12; have hfz12_1 := blk_frozen HGz12 1; clear HGz12 hgz12; have p296 : 0 ≤ ((ji9) : Int) := of_decide_eq_true (by first | (with_reducible assumption) | assumption); have q296 : (ji9) < (s0_0.length : Int) := of_decide_eq_true (by first | (with_reducible assumption) | assumption); obtain ⟨ad296, e296, hx296_0⟩ := Kd.at_int HSz12_0 (ji9) p296 q296; cases e296; replace hx296_0 := pw_cell_below HB.out hx296_0; replace p296 := eq_true p296; replace q296 := eq_true q296; go_wp2; repeat (go_quiet (fail); try go_wp2)
       go_ret
       exact ⟨by first | rfl | (simp [errW_none, errW_some] <;> rfl) | (simp only [← hji9]; first | rfl | (simp [errW_none, errW_some] <;> rfl)) | (simp [*, errW_none, errW_some] <;> rfl), by repeat (first | (with_reducible first | exact HI0.out | apply IsS112.alloc | apply IsS112.drewN | apply IsS112.drew | apply IsS112.set_1) | exact HI0.out), by repeat (first | (with_reducible first | exact HB.out | apply below_alloc | apply pw_below_drewN | apply below_drew1 | refine below_set ?_ (IsS112.ge HI0.out)) | exact HB.out), by repeat (first | (with_reducible first | exact HK.out | apply KeepBut.set_ | apply keep_drewN | apply keep_drew | apply keep_alloc) | exact HK.out)⟩
     ·
      rw [if_neg c10] at H; exact absurd H (by simp)
    ·
     rw [if_neg c8] at H; have c8b0 : decide ((wrap64 ((wrap64 (s0_1 + 1)) - 1)) < (s0_0.length : Int)) = false := decide_eq_false c8; clear c8; by_cases c13 : (s0_0.length : Int) = 0
     ·
      rw [if_pos c13] at H; exact absurd H (by simp)
     ·
      rw [if_neg c13] at H; have c13b0 : ((s0_0.length : Int) == 0) = false := beq_eq_false_iff_ne.mpr c13; have c13b1 : ((s0_0.length : Int) != 0) = true := bne_iff_ne.mpr c13; have c13b2 : ¬ (s0_0 = []) := fun h_ => c13 (by rw [h_]; rfl)
      obtain ⟨ji14, hji14⟩ : ∃ j_ : Int, (Int.tmod (wrap64 ((wrap64 (s0_1 + 1)) - 1)) (s0_0.length : Int)) = j_ := ⟨_, rfl⟩
      replace H : (if 0 ≤ (ji14) then (if (ji14) < (s0_0.length : Int) then (if 0 ≤ (Int.tmod (wrap64 ((wrap64 ((wrap64 ((wrap64 (s0_1 + 1)) - 1)) * 7)) + 3)) (s0_0.length : Int)) then (if (Int.tmod (wrap64 ((wrap64 ((wrap64 ((wrap64 (s0_1 + 1)) - 1)) * 7)) + 3)) (s0_0.length : Int)) < (s0_0.length : Int) then (if a1 = 0 then (none) else (some (Int.tmod (Go.bits .xor .i64 (wrap64 ((wrap64 ((wrap64 ((wrap64 ((wrap64 (rd s0_0 (ji14))) * 131)) + (wrap64 ((wrap64 (rd s0_0 (Int.tmod (wrap64 ((wrap64 ((wrap64 ((wrap64 (s0_1 + 1)) - 1)) * 7)) + 3)) (s0_0.length : Int)))) * 1117)))) + (wrap64 ((wrap64 ((wrap64 (s0_1 + 1)) - 1)) * 29)))) + (wrap64 ((wrap64 (Int.tdiv (wrap64 ((wrap64 (s0_1 + 1)) - 1)) (s0_0.length : Int))) * 53)))) (wrap64 (Int.tdiv (wrap64 ((wrap64 ((wrap64 ((wrap64 ((wrap64 (rd s0_0 (ji14))) * 131)) + (wrap64 ((wrap64 (rd s0_0 (Int.tmod (wrap64 ((wrap64 ((wrap64 ((wrap64 (s0_1 + 1)) - 1)) * 7)) + 3)) (s0_0.length : Int)))) * 1117)))) + (wrap64 ((wrap64 ((wrap64 (s0_1 + 1)) - 1)) * 29)))) + (wrap64 ((wrap64 (Int.tdiv (wrap64 ((wrap64 (s0_1 + 1)) - 1)) (s0_0.length : Int))) * 53)))) 64))) a1, (wrap64 (s0_1 + 1))))) else (none)) else (none)) else (none)) else (none)) = some (r1, r2) := by first | (rw [hji14] at H; exact H) | (simp only [hji14] at H ⊢; exact H)
      by_cases c15 : 0 ≤ (ji14)
      ·
       rw [if_pos c15] at H; have c15b0 : decide (0 ≤ (ji14)) = true := decide_eq_true c15; clear c15; by_cases c16 : (ji14) < (s0_0.length : Int)
       ·
        rw [if_pos c16] at H; have c16b0 : decide ((ji14) < (s0_0.length : Int)) = true := decide_eq_true c16; clear c16; obtain ⟨ji17, hji17⟩ : ∃ j_ : Int, (Int.tmod (wrap64 ((wrap64 ((wrap64 ((wrap64 (s0_1 + 1)) - 1)) * 7)) + 3)) (s0_0.length : Int)) = j_ := ⟨_, rfl⟩
        replace H : (if 0 ≤ (ji17) then (if (ji17) < (s0_0.length : Int) then (if a1 = 0 then (none) else (some (Int.tmod (Go.bits .xor .i64 (wrap64 ((wrap64 ((wrap64 ((wrap64 ((wrap64 (rd s0_0 (ji14))) * 131)) + (wrap64 ((wrap64 (rd s0_0 (ji17))) * 1117)))) + (wrap64 ((wrap64 ((wrap64 (s0_1 + 1)) - 1)) * 29)))) + (wrap64 ((wrap64 (Int.tdiv (wrap64 ((wrap64 (s0_1 + 1)) - 1)) (s0_0.length : Int))) * 53)))) (wrap64 (Int.tdiv (wrap64 ((wrap64 ((wrap64 ((wrap64 ((wrap64 (rd s0_0 (ji14))) * 131)) + (wrap64 ((wrap64 (rd s0_0 (ji17))) * 1117)))) + (wrap64 ((wrap64 ((wrap64 (s0_1 + 1)) - 1)) * 29)))) + (wrap64 ((wrap64 (Int.tdiv (wrap64 ((wrap64 (s0_1 + 1)) - 1)) (s0_0.length : Int))) * 53)))) 64))) a1, (wrap64 (s0_1 + 1))))) else (none)) else (none)) = some (r1, r2) := by first | (rw [hji17] at H; exact H) | (simp only [hji17] at H ⊢; exact H)
        by_cases c18 : 0 ≤ (ji17)
        ·
         rw [if_pos c18] at H; have c18b0 : decide (0 ≤ (ji17)) = true := decide_eq_true c18; clear c18; by_cases c19 : (ji17) < (s0_0.length : Int)
         ·
          rw [if_pos c19] at H; have c19b0 : decide ((ji17) < (s0_0.length : Int)) = true := decide_eq_true c19; clear c19; by_cases c20 : a1 = 0
          ·
           rw [if_pos c20] at H; exact absurd H (by simp)
          ·
           rw [if_neg c20] at H; have c20b0 : (a1 == 0) = false := beq_eq_false_iff_ne.mpr c20; have c20b1 : (a1 != 0) = true := bne_iff_ne.mpr c20; simp only [Option.some.injEq, Prod.mk.injEq] at H; obtain ⟨rfl, rfl⟩ := H; obtain ⟨ASz21_0, cSz21_0, HGz21, hgz21, HSz21_0⟩ := HI0.out; have hcz21_0 := cellS112_0 HGz21; have hcz21_1 := cellS112_1 HGz21; have hfz21_1 := blk_frozen HGz21 1; clear HGz21 hgz21; have p297 : 0 ≤ ((ji14) : Int) := of_decide_eq_true (by first | (with_reducible assumption) | assumption); have q297 : (ji14) < (s0_0.length : Int) := of_decide_eq_true (by first | (with_reducible assumption) | assumption); obtain ⟨ad297, e297, hx297_0⟩ := Kd.at_int HSz21_0 (ji14) p297 q297; cases e297; replace hx297_0 := pw_cell_below HB.out hx297_0; replace p297 := eq_true p297; replace q297 := eq_true q297; have p298 : 0 ≤ ((ji17) : Int) := of_decide_eq_true (by first | (with_reducible assumption) | assumption); have q298 : (ji17) < (s0_0.length : Int) := of_decide_eq_true (by first | (with_reducible assumption) | assumption); obtain ⟨ad298, e298, hx298_0⟩ := Kd.at_int HSz21_0 (ji17) p298 q298; obtain rfl : ad297 = ad298 := (by injection e298)
           replace hx298_0 := pw_cell_below HB.out hx298_0; replace p298 := eq_true p298; replace q298 := eq_true q298; go_wp2; repeat (go_quiet (fail); try go_wp2)
           go_ret
           exact ⟨by first | rfl | (simp [errW_none, errW_some] <;> rfl) | (simp only [← hji14, ← hji17]; first | rfl | (simp [errW_none, errW_some] <;> rfl)) | (simp [*, errW_none, errW_some] <;> rfl), by repeat (first | (with_reducible first | exact HI0.out | apply IsS112.alloc | apply IsS112.drewN | apply IsS112.drew | apply IsS112.set_1) | exact HI0.out), by repeat (first | (with_reducible first | exact HB.out | apply below_alloc | apply pw_below_drewN | apply below_drew1 | refine below_set ?_ (IsS112.ge HI0.out)) | exact HB.out), by repeat (first | (with_reducible first | exact HK.out | apply KeepBut.set_ | apply keep_drewN | apply keep_drew | apply keep_alloc) | exact HK.out)⟩
         ·
          rw [if_neg c19] at H; exact absurd H (by simp)
        ·
         rw [if_neg c18] at H; exact absurd H (by simp)
       ·
        rw [if_neg c16] at H; exact absurd H (by simp)
      ·
       rw [if_neg c15] at H; exact absurd H (by simp)

end Go.Proofs.YtmacedbpdhkagaaDoor.PFnTonaryJoin
