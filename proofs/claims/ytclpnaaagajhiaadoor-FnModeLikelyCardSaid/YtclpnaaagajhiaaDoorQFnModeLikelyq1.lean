/- Lemmas on the printed functions for the law FnModeLikely. -/
import Derived.Test.YtclpnaaagajhiaaDoorQFnModeLikelyq0
import Derived.Deep.RegionHeld3
import Derived.BigRegion
import Derived.Deep.Slices
import Derived.Laws.CopyOwn
namespace Go.Proofs.YtclpnaaagajhiaaDoor.Pure
set_option linter.unusedVariables false
set_option linter.unusedSimpArgs false
open Go Go.RowKit Go.Proofs.YtclpnaaagajhiaaDoor.PFnModeLikely Go.Proofs.YtclpnaaagajhiaaDoorW.PrintWords Go.Proofs.YtclpnaaagajhiaaDoorW.PrintLast Go.Proofs.YtclpnaaagajhiaaDoorW.PrintMore

/-! the table of the modes, and modeAt -/
def mCells : Array Value := #[.int .i64 4, .int .i64 8, .int .i64 3, .int .i64 12, .int .i64 4, .int .i64 6, .int .i64 0, .int .i64 9, .int .i64 5, .int .i64 10, .int .i64 4, .int .i64 13, .int .i64 5, .int .i64 8, .int .i64 1, .int .i64 10, .int .i64 6, .int .i64 10, .int .i64 5, .int .i64 14, .int .i64 6, .int .i64 8, .int .i64 2, .int .i64 11, .int .i64 7, .int .i64 11, .int .i64 6, .int .i64 15, .int .i64 7, .int .i64 10, .int .i64 3, .int .i64 12]
def MTab (w : World) : Prop := ∃ t fz, w.heap[0]? = some (.cells mCells t fz)
theorem MTab.below {w w' : World} (h : MTab w) (hb : Below w.heap.size w w') : MTab w' := by
  obtain ⟨t, fz, h⟩ := h
  exact ⟨t, fz, (hb.block _ (blk_lt h)).trans h⟩
theorem MTab.cell {w : World} (h : MTab w) (i : Nat) : w.cell? ⟨0, i, none⟩ = mCells[i]? := by
  obtain ⟨t, fz, h⟩ := h
  exact cell_of_row w _ i mCells t fz h
def mRz (mode : Int) : Int × Int × Int × Int := if mOk mode = true then mRow mode else (0, 0, 0, 0)
set_option maxHeartbeats 4000000 in
set_option maxRecDepth 100000 in
theorem impl_modeAt_calls (mode : Int) (w : World) (ht : MTab w) :
    Calls Tryd.prog 61 #[.int .i64 mode] w fun e w' => e = .returned (.tuple #[.agg #[.int .i64 (mRz mode).1, .int .i64 (mRz mode).2.1, .int .i64 (mRz mode).2.2.1, .int .i64 (mRz mode).2.2.2], .bool (mOk mode)]) ∧ Below w.heap.size w w' := by
  have hu := Tryd.underlying75
  by_cases h1 : mode < 1
  · have d1 : decide (mode < 1) = true := decide_eq_true h1
    have e : mOk mode = false := decide_eq_false (by omega)
    have ez : mRz mode = (0, 0, 0, 0) := by unfold mRz; rw [e]; rfl
    rw [e, ez]
    clear h1 e ez
    go_enter Tryd.func61, Tryd.ntmps61
    go_wp2
    (try simp only [Exit.inBlock, Exit.then])
    refine bodyPost_ret (results_ct rfl _ _ w.heap.size 75 #[.int .i64 0, .int .i64 0, .int .i64 0, .int .i64 0] (0, 0) _ rfl (blk_new w _) Tryd.underlying75 rfl (by kernel_rfl)) rfl ?_
    exact ⟨rfl, below_alloc (Below.refl _ _) _⟩
  have d1 : decide (mode < 1) = false := decide_eq_false h1
  by_cases h2 : mode > 8
  · have d2 : decide (8 < mode) = true := decide_eq_true h2
    have e : mOk mode = false := decide_eq_false (by omega)
    have ez : mRz mode = (0, 0, 0, 0) := by unfold mRz; rw [e]; rfl
    rw [e, ez]
    clear h1 h2 e ez
    go_enter Tryd.func61, Tryd.ntmps61
    go_wp2
    (try simp only [Exit.inBlock, Exit.then])
    refine bodyPost_ret (results_ct rfl _ _ w.heap.size 75 #[.int .i64 0, .int .i64 0, .int .i64 0, .int .i64 0] (0, 0) _ rfl (blk_new w _) Tryd.underlying75 rfl (by kernel_rfl)) rfl ?_
    exact ⟨rfl, below_alloc (Below.refl _ _) _⟩
  have e : mOk mode = true := decide_eq_true (by omega)
  have hc := mOk_cases e
  have ez : mRz mode = mRow mode := by unfold mRz; rw [e]; rfl
  rw [e, ez]
  clear h1 h2 d1 e ez
  have hn := fun (i : Nat) (v : Value) (h : w.cell? ⟨0, i, none⟩ = some v) => pw_cell_below (below_alloc (Below.refl w.heap.size w) (.cells #[.int .i64 0, .int .i64 0, .int .i64 0, .int .i64 0] 75 (0, 0))) h
  rcases hc with rfl | rfl | rfl | rfl | rfl | rfl | rfl | rfl
  · have c0 := hn 0 (.int .i64 4) ((ht.cell 0).trans rfl)
    have c1 := hn 1 (.int .i64 8) ((ht.cell 1).trans rfl)
    have c2 := hn 2 (.int .i64 3) ((ht.cell 2).trans rfl)
    have c3 := hn 3 (.int .i64 12) ((ht.cell 3).trans rfl)
    clear hn
    go_enter Tryd.func61, Tryd.ntmps61
    go_wp2
    (try simp only [Exit.inBlock, Exit.then])
    refine bodyPost_ret (results_ct rfl _ _ w.heap.size 75 #[.int .i64 4, .int .i64 8, .int .i64 3, .int .i64 12] (0, 0) _ rfl (blk_new w _) Tryd.underlying75 rfl (by kernel_rfl)) rfl ?_
    exact ⟨rfl, below_alloc (Below.refl _ _) _⟩
  · have c0 := hn 4 (.int .i64 4) ((ht.cell 4).trans rfl)
    have c1 := hn 5 (.int .i64 6) ((ht.cell 5).trans rfl)
    have c2 := hn 6 (.int .i64 0) ((ht.cell 6).trans rfl)
    have c3 := hn 7 (.int .i64 9) ((ht.cell 7).trans rfl)
    clear hn
    go_enter Tryd.func61, Tryd.ntmps61
    go_wp2
    (try simp only [Exit.inBlock, Exit.then])
    refine bodyPost_ret (results_ct rfl _ _ w.heap.size 75 #[.int .i64 4, .int .i64 6, .int .i64 0, .int .i64 9] (0, 0) _ rfl (blk_new w _) Tryd.underlying75 rfl (by kernel_rfl)) rfl ?_
    exact ⟨rfl, below_alloc (Below.refl _ _) _⟩
  · have c0 := hn 8 (.int .i64 5) ((ht.cell 8).trans rfl)
    have c1 := hn 9 (.int .i64 10) ((ht.cell 9).trans rfl)
    have c2 := hn 10 (.int .i64 4) ((ht.cell 10).trans rfl)
    have c3 := hn 11 (.int .i64 13) ((ht.cell 11).trans rfl)
    clear hn
    go_enter Tryd.func61, Tryd.ntmps61
    go_wp2
    (try simp only [Exit.inBlock, Exit.then])
    refine bodyPost_ret (results_ct rfl _ _ w.heap.size 75 #[.int .i64 5, .int .i64 10, .int .i64 4, .int .i64 13] (0, 0) _ rfl (blk_new w _) Tryd.underlying75 rfl (by kernel_rfl)) rfl ?_
    exact ⟨rfl, below_alloc (Below.refl _ _) _⟩
  · have c0 := hn 12 (.int .i64 5) ((ht.cell 12).trans rfl)
    have c1 := hn 13 (.int .i64 8) ((ht.cell 13).trans rfl)
    have c2 := hn 14 (.int .i64 1) ((ht.cell 14).trans rfl)
    have c3 := hn 15 (.int .i64 10) ((ht.cell 15).trans rfl)
    clear hn
    go_enter Tryd.func61, Tryd.ntmps61
    go_wp2
    (try simp only [Exit.inBlock, Exit.then])
    refine bodyPost_ret (results_ct rfl _ _ w.heap.size 75 #[.int .i64 5, .int .i64 8, .int .i64 1, .int .i64 10] (0, 0) _ rfl (blk_new w _) Tryd.underlying75 rfl (by kernel_rfl)) rfl ?_
    exact ⟨rfl, below_alloc (Below.refl _ _) _⟩
  · have c0 := hn 16 (.int .i64 6) ((ht.cell 16).trans rfl)
    have c1 := hn 17 (.int .i64 10) ((ht.cell 17).trans rfl)
    have c2 := hn 18 (.int .i64 5) ((ht.cell 18).trans rfl)
    have c3 := hn 19 (.int .i64 14) ((ht.cell 19).trans rfl)
    clear hn
    go_enter Tryd.func61, Tryd.ntmps61
    go_wp2
    (try simp only [Exit.inBlock, Exit.then])
    refine bodyPost_ret (results_ct rfl _ _ w.heap.size 75 #[.int .i64 6, .int .i64 10, .int .i64 5, .int .i64 14] (0, 0) _ rfl (blk_new w _) Tryd.underlying75 rfl (by kernel_rfl)) rfl ?_
    exact ⟨rfl, below_alloc (Below.refl _ _) _⟩
  · have c0 := hn 20 (.int .i64 6) ((ht.cell 20).trans rfl)
    have c1 := hn 21 (.int .i64 8) ((ht.cell 21).trans rfl)
    have c2 := hn 22 (.int .i64 2) ((ht.cell 22).trans rfl)
    have c3 := hn 23 (.int .i64 11) ((ht.cell 23).trans rfl)
    clear hn
    go_enter Tryd.func61, Tryd.ntmps61
    go_wp2
    (try simp only [Exit.inBlock, Exit.then])
    refine bodyPost_ret (results_ct rfl _ _ w.heap.size 75 #[.int .i64 6, .int .i64 8, .int .i64 2, .int .i64 11] (0, 0) _ rfl (blk_new w _) Tryd.underlying75 rfl (by kernel_rfl)) rfl ?_
    exact ⟨rfl, below_alloc (Below.refl _ _) _⟩
  · have c0 := hn 24 (.int .i64 7) ((ht.cell 24).trans rfl)
    have c1 := hn 25 (.int .i64 11) ((ht.cell 25).trans rfl)
    have c2 := hn 26 (.int .i64 6) ((ht.cell 26).trans rfl)
    have c3 := hn 27 (.int .i64 15) ((ht.cell 27).trans rfl)
    clear hn
    go_enter Tryd.func61, Tryd.ntmps61
    go_wp2
    (try simp only [Exit.inBlock, Exit.then])
    refine bodyPost_ret (results_ct rfl _ _ w.heap.size 75 #[.int .i64 7, .int .i64 11, .int .i64 6, .int .i64 15] (0, 0) _ rfl (blk_new w _) Tryd.underlying75 rfl (by kernel_rfl)) rfl ?_
    exact ⟨rfl, below_alloc (Below.refl _ _) _⟩
  · have c0 := hn 28 (.int .i64 7) ((ht.cell 28).trans rfl)
    have c1 := hn 29 (.int .i64 10) ((ht.cell 29).trans rfl)
    have c2 := hn 30 (.int .i64 3) ((ht.cell 30).trans rfl)
    have c3 := hn 31 (.int .i64 12) ((ht.cell 31).trans rfl)
    clear hn
    go_enter Tryd.func61, Tryd.ntmps61
    go_wp2
    (try simp only [Exit.inBlock, Exit.then])
    refine bodyPost_ret (results_ct rfl _ _ w.heap.size 75 #[.int .i64 7, .int .i64 10, .int .i64 3, .int .i64 12] (0, 0) _ rfl (blk_new w _) Tryd.underlying75 rfl (by kernel_rfl)) rfl ?_
    exact ⟨rfl, below_alloc (Below.refl _ _) _⟩

/-! a linked melody -/
def Lk (w : World) (B : Nat) : Value → List S29 → Prop
  | v, [] => v = .pointer none
  | v, x :: xs => ∃ b nx, v = .pointer (some ⟨b, 0, none⟩) ∧ B ≤ b ∧ w.heap[b]? = some (.cells #[.int .i64 x.f0, .bool x.f1, nx] 103 (0, 0)) ∧ Lk w B nx xs
theorem Lk.below {w w' : World} {B : Nat} (hb : Below w.heap.size w w') : ∀ {xs : List S29} {v : Value}, Lk w B v xs → Lk w' B v xs
  | [], _, h => h
  | x :: xs, _, ⟨b, nx, h1, h2, h3, h4⟩ => ⟨b, nx, h1, h2, (hb.block _ (blk_lt h3)).trans h3, Lk.below hb h4⟩
theorem Lk.ptr {w : World} {B : Nat} : ∀ {xs : List S29} {v : Value}, Lk w B v xs → ∃ p, v = .pointer p
  | [], _, h => ⟨_, h⟩
  | x :: xs, _, ⟨b, nx, h1, _⟩ => ⟨_, h1⟩
set_option maxHeartbeats 4000000 in
set_option maxRecDepth 100000 in
theorem impl_linked_calls (m : List S29) (A0 : Option Addr) (c0 : Nat) (w : World) (hr0 : Kd.C k29 w A0 m.length m) (hc0 : m.length ≤ c0) (hm : m.length ≤ 1000000000000) :
    Calls Tryd.prog 96 #[.slice A0 m.length c0] w fun e w' => ∃ v, e = .returned v ∧ Lk w' w.heap.size v m ∧ Below w.heap.size w w' := by
  have HR0 := Aside0.mk hr0
  have HC0 := Aside0.mk hc0
  clear hr0 hc0
  have hu := Tryd.underlying103
  have hu1 := Tryd.underlying29
  go_enter Tryd.func96, Tryd.ntmps96
  go_wp2
  go_loopg [3, 4] m.length (fun kq v3 v4 w' => ∃ (i : Int), v4 = .int .i64 i ∧ Aside0 (kq = (i + 1).toNat ∧ -1 ≤ i ∧ i < (m.length : Int)) ∧ Aside0 (Lk w' w.heap.size v3 (m.drop (i + 1).toNat)) ∧ Aside0 (Below w.heap.size w w'))
  case atStart =>
    have e : ((m.length : Int) - 1 + 1).toNat = m.length := by omega
    have hL : Lk w w.heap.size (.pointer none) (m.drop ((m.length : Int) - 1 + 1).toNat) := by rw [e, List.drop_length]; rfl
    exact ⟨(m.length : Int) - 1, rfl, ⟨by omega, by omega, by omega⟩, ⟨hL⟩, ⟨by repeat (first | exact Below.refl _ _ | apply below_alloc | apply pw_below_drewN | apply below_drew1)⟩⟩
  case round =>
    obtain ⟨i, rfl, HX, HL, HB⟩ := hrel
    obtain ⟨hk, hi0, hi1⟩ := HX.out
    obtain ⟨p, rfl⟩ := HL.out.ptr
    by_cases h : 0 ≤ i
    · have d1 : decide (0 ≤ i) = true := decide_eq_true h
      obtain ⟨ad, e1, ux0, ux1⟩ := at_T29 HR0.out i h hi1
      subst e1
      have hx0 := (HB.out.cell (World.block_lt_of_cell? w _ ux0)).trans ux0
      have hx1 := (HB.out.cell (World.block_lt_of_cell? w _ ux1)).trans ux1
      obtain ⟨X, hX⟩ : ∃ X, X = rd_T29 m i := ⟨_, rfl⟩
      rw [← hX] at hx0 hx1
      have hdr : Aside0 (m.drop (i - 1 + 1).toNat = X :: m.drop (i + 1).toNat) := by
        have e0 : (i - 1 + 1).toNat = i.toNat := by omega
        have e1 : (i + 1).toNat = i.toNat + 1 := by omega
        refine ⟨?_⟩
        rw [e0, e1, List.drop_eq_getElem_cons (by omega), hX]
        unfold rd_T29
        rw [List.getD_eq_getElem?_getD, List.getElem?_eq_getElem (by omega)]; rfl
      have NX : Aside0 ((i - 1 + 1).toNat < gk ∧ -1 ≤ i - 1 ∧ i - 1 < (m.length : Int)) := ⟨by omega, by omega, by omega⟩
      have j0 := eq_true h
      have j1 := eq_true hi1
      clear hX ux0 ux1 hk
      go_wp2_with ((with_reducible refine gate_dst (N := 18) rfl ?_); refine box_event ?hg (N := 18) ?hd (cs := #[.int .i64 X.f0, .bool X.f1, .pointer p]) (t := 103) ?hr ?_; (case hd => rfl); (case hg => rfl); (case hr => first | (go_simp; done) | (go_simp; rfl)); intro gb hg w3 hbox hb3; have HBX := Aside0.mk hbox; have HL3 := Aside0.mk (HL.out.below hb3); have HB3 := Aside0.mk (below_step HB.out hb3); have GW := Aside0.mk (show w.heap.size ≤ gb from (by rw [hg]; exact HB.out.size)); clear hg hbox hb3)
      go_roundg ((i - 1 + 1).toNat)
      case measure => exact NX.out.1
      case rel => exact ⟨i - 1, rfl, ⟨rfl, NX.out.2⟩, ⟨by rw [hdr.out]; exact ⟨gb, _, rfl, GW.out, HBX.out, HL3.out⟩⟩, HB3⟩
    · have d1 : decide (0 ≤ i) = false := decide_eq_false h
      obtain rfl : i = -1 := by omega
      have HL' := HL.out
      go_wp2
      go_ret
      exact ⟨_, rfl, HL', HB.out⟩

theorem mlo_step {a v : Int} {x : S29} {xs : List S29} {r : Int} (h : mlo a (x :: xs) = r) (hv : (v = a ∧ a ≤ x.f0) ∨ (v = x.f0 ∧ x.f0 ≤ a)) : mlo v xs = r := by
  have := mn_le a x.f0
  have e : v = mn a x.f0 := by omega
  rw [e]; exact h
theorem mhi_step {a v : Int} {x : S29} {xs : List S29} {r : Int} (h : mhi a (x :: xs) = r) (hv : (v = a ∧ x.f0 ≤ a) ∨ (v = x.f0 ∧ a ≤ x.f0)) : mhi v xs = r := by
  have := mx_le a x.f0
  have e : v = mx a x.f0 := by omega
  rw [e]; exact h
attribute [local go_sem] max2_int min2_int max_two min_two max_three min_three max_four min_four
set_option maxHeartbeats 4000000 in
set_option maxRecDepth 100000 in
theorem impl_MelodyRange_calls (m : List S29) (A0 : Option Addr) (c0 : Nat) (w : World) (hr0 : Kd.C k29 w A0 m.length m) (hc0 : m.length ≤ c0) (hm : m.length ≤ 1000000000000) :
    Calls Tryd.prog 62 #[.slice A0 m.length c0] w fun e w' => e = .returned (.tuple #[.int .i64 (mrange m).1, .int .i64 (mrange m).2.1, .bool (mrange m).2.2]) ∧ Below w.heap.size w w' := by
  obtain ⟨kk, hv⟩ := Ev.rounds (impl_MelodyValid_ev m)
  have HR0 := Aside0.mk hr0
  have HC0 := Aside0.mk hc0
  have HV := Aside0.mk hv
  clear hr0 hc0 hv
  cases hok : melOk m
  · have e : mrange m = (0, 0, false) := by unfold mrange mSome; rw [hok]; rfl
    rw [e]
    rw [hok] at HV
    clear hok e
    go_enter Tryd.func62, Tryd.ntmps62
    go_wp2_with (go_at_call 71; refine (impl_MelodyValid.calls kk _ _ m false _ HR0.out HC0.out HV.out).mono ?_; rintro e w1 ⟨rfl, hb1⟩)
    go_ret3
    exact ⟨rfl, hb1⟩
  rw [hok] at HV
  by_cases h0 : 0 < m.length
  · have e : mrange m = (mlo (rd_T29 m 0).f0 m, mhi (rd_T29 m 0).f0 m, true) := by unfold mrange mSome; rw [hok, decide_eq_true h0]; rfl
    rw [e]
    have hne : ((m.length : Int) == 0) = false := by rw [beq_eq_false_iff_ne]; omega
    have hne' : (m.length == 0) = false := by rw [beq_eq_false_iff_ne]; omega
    obtain ⟨LO, hLO⟩ : ∃ x, x = mlo (rd_T29 m 0).f0 m := ⟨_, rfl⟩
    obtain ⟨HI, hHI⟩ : ∃ x, x = mhi (rd_T29 m 0).f0 m := ⟨_, rfl⟩
    rw [← hLO, ← hHI]
    have HX := Aside0.mk (And.intro hLO hHI)
    obtain ⟨ad, e1, ux0, ux1⟩ := at_T29 HR0.out 0 (by omega) (by omega)
    subst e1
    obtain ⟨X, hX⟩ : ∃ X, X = (rd_T29 m 0).f0 := ⟨_, rfl⟩
    have HXX := Aside0.mk hX
    rw [← hX] at ux0
    have UX := Aside0.mk ux0
    have i1 := eq_true (show 0 < (m.length : Int) by omega)
    have i2 := eq_true h0
    clear hok e hLO hHI h0 ux0 ux1 hX
    go_enter Tryd.func62, Tryd.ntmps62
    have UY : Aside0 (w.cell? ad = some (.int .i64 X)) := ⟨UX.out⟩
    go_upto_region 3 with (go_at_call 71; refine (impl_MelodyValid.calls kk _ _ m true _ HR0.out HC0.out HV.out).mono ?_; rintro e w1 ⟨rfl, hb1⟩; have hx0 := pw_cell_below hb1 UY.out)
    go_region
    go_wp2_with (go_at_call 96; refine (impl_linked_calls m _ _ w1.drew (Kd.C_below HR0.out (below_drew1 hb1)) HC0.out hm).mono ?_; rintro e w2 ⟨v, rfl, hl2, hb2⟩; have HL := Aside0.mk hl2; have HB := Aside0.mk (below_step (below_drew1 hb1) hb2); clear hl2)
    go_loopg [5, 6, 7] m.length (fun kq v5 v6 v7 w' => ∃ (a b : Int) (l : List S29), v5 = .int .i64 a ∧ v6 = .int .i64 b ∧ Aside0 (kq = l.length ∧ mlo a l = LO ∧ mhi b l = HI) ∧ Aside0 (Lk w' w1.drew.heap.size v7 l) ∧ Aside0 (Below w.heap.size w w'))
    case atStart => exact ⟨X, X, m, rfl, rfl, ⟨rfl, by rw [HX.out.1, HXX.out], by rw [HX.out.2, HXX.out]⟩, ⟨HL.out⟩, ⟨HB.out⟩⟩
    case round =>
      obtain ⟨a, b, l, rfl, rfl, HY, HL1, HB1⟩ := hrel
      obtain ⟨hk, hlo, hhi⟩ := HY.out
      cases l with
      | nil =>
        obtain rfl := HL1.out
        simp only [mlo] at hlo
        simp only [mhi] at hhi
        subst hlo; subst hhi
        go_wp2
        go_ret3
        exact ⟨rfl, HB1.out⟩
      | cons x xs =>
        obtain ⟨g, nx, e1, _, hbx, hnx⟩ := HL1.out
        subst e1
        have hx1 : wr.cell? ⟨g, 0, none⟩ = some (.int .i64 x.f0) := (blk_cell hbx 0).trans rfl
        have hx2 : wr.cell? ⟨g, 2, none⟩ = some nx := (blk_cell hbx 2).trans rfl
        obtain ⟨p, rfl⟩ := hnx.ptr
        have HN := Aside0.mk hnx
        have HK := Aside0.mk hk
        have HZ := Aside0.mk (And.intro hlo hhi)
        clear hk hlo hhi hbx hnx
        go_wp2
        all_goals
          go_roundg xs.length
          case measure => rw [HK.out]; simp
          case rel => exact ⟨_, _, xs, rfl, rfl, ⟨rfl, mlo_step HZ.out.1 (by omega), mhi_step HZ.out.2 (by omega)⟩, HN, HB1⟩
  · have e : mrange m = (0, 0, false) := by unfold mrange mSome; rw [hok, decide_eq_false h0]; rfl
    rw [e]
    have e2 : m = [] := List.eq_nil_of_length_eq_zero (by omega)
    subst e2
    clear hok e h0
    go_enter Tryd.func62, Tryd.ntmps62
    go_wp2_with (go_at_call 71; refine (impl_MelodyValid.calls kk _ _ [] true _ HR0.out HC0.out HV.out).mono ?_; rintro e w1 ⟨rfl, hb1⟩)
    go_ret3
    exact ⟨rfl, hb1⟩

set_option maxHeartbeats 8000000 in
set_option maxRecDepth 100000 in
theorem impl_ModeIn_calls (m : List S29) (mode : Int) (A0 : Option Addr) (c0 : Nat) (w : World) (ht : MTab w) (hr0 : Kd.C k29 w A0 m.length m) (hc0 : m.length ≤ c0) (hm : m.length ≤ 1000000000000) :
    Calls Tryd.prog 15 #[.slice A0 m.length c0, .int .i64 mode] w fun e w' => e = .returned (.bool (mIn m mode)) ∧ Below w.heap.size w w' := by
  have HT := Aside0.mk ht
  have HR0 := Aside0.mk hr0
  have HC0 := Aside0.mk hc0
  clear ht hr0 hc0
  have hu := Tryd.underlying75
  have hu1 := Tryd.underlying29
  have hout : mIn m mode = (mSome m && (mOk mode && ((rd_T29 m ((m.length : Int) - 1)).f0 == (mRz mode).1 && (!(rd_T29 m ((m.length : Int) - 1)).f1 && (decide ((mRz mode).2.2.1 ≤ mlo (rd_T29 m 0).f0 m) && decide (mhi (rd_T29 m 0).f0 m ≤ (mRz mode).2.2.2)))))) := by
    unfold mIn mRz
    cases mOk mode <;> simp
  have hrange : mrange m = if mSome m = true then (mlo (rd_T29 m 0).f0 m, mhi (rd_T29 m 0).f0 m, true) else (0, 0, false) := rfl
  obtain ⟨a, b, c, d, hz⟩ : ∃ a b c d, mRz mode = (a, b, c, d) := ⟨_, _, _, _, rfl⟩
  rw [hz] at hout
  simp only [] at hout
  obtain ⟨lo, hi, so, hg⟩ : ∃ lo hi so, mrange m = (lo, hi, so) := ⟨_, _, _, rfl⟩
  have HA := Aside0.mk (show ∀ w, MTab w → Calls Tryd.prog 61 #[.int .i64 mode] w fun e w' => e = .returned (.tuple #[.agg #[.int .i64 a, .int .i64 b, .int .i64 c, .int .i64 d], .bool (mOk mode)]) ∧ Below w.heap.size w w' from fun w h => by have := impl_modeAt_calls mode w h; rw [hz] at this; exact this)
  have HM := Aside0.mk (show ∀ w, Kd.C k29 w A0 m.length m → Calls Tryd.prog 62 #[.slice A0 m.length c0] w fun e w' => e = .returned (.tuple #[.int .i64 lo, .int .i64 hi, .bool so]) ∧ Below w.heap.size w w' from fun w h => by have := impl_MelodyRange_calls m A0 c0 w h HC0.out hm; rw [hg] at this; exact this)
  obtain ⟨ok, hok⟩ : ∃ ok, ok = mOk mode := ⟨_, rfl⟩
  rw [← hok] at hout HA
  clear hok hz
  cases hs : mSome m
  · rw [hs] at hout hrange
    rw [hout]
    rw [hg] at hrange
    simp only [Bool.false_eq_true, if_false, Prod.mk.injEq] at hrange
    obtain ⟨rfl, rfl, rfl⟩ := hrange
    clear hout hs hg
    cases ok
    · go_enter Tryd.func15, Tryd.ntmps15
      go_wp2_with (first
        | (go_at_call 61; refine (HA.out _ HT.out).mono ?_; rintro e w1 ⟨rfl, hb1⟩)
        | (go_at_call 62; refine (HM.out _ (Kd.C_below HR0.out (below_alloc hb1 _))).mono ?_; rintro e w2 ⟨rfl, hb2⟩))
      go_ret
      exact ⟨rfl, below_step (below_alloc hb1 _) hb2⟩
    · go_enter Tryd.func15, Tryd.ntmps15
      go_wp2_with (first
        | (go_at_call 61; refine (HA.out _ HT.out).mono ?_; rintro e w1 ⟨rfl, hb1⟩)
        | (go_at_call 62; refine (HM.out _ (Kd.C_below HR0.out (below_alloc hb1 _))).mono ?_; rintro e w2 ⟨rfl, hb2⟩))
      go_ret
      exact ⟨rfl, below_step (below_alloc hb1 _) hb2⟩
  rw [hs] at hout hrange
  rw [hg] at hrange
  simp only [if_true, Prod.mk.injEq] at hrange
  obtain ⟨h1, h2, rfl⟩ := hrange
  rw [← h1, ← h2] at hout
  have h0 : 0 < m.length := by unfold mSome at hs; simp at hs; exact hs.2
  clear hs hg h1 h2
  cases ok
  · rw [hout]
    clear hout
    go_enter Tryd.func15, Tryd.ntmps15
    go_wp2_with (first
      | (go_at_call 61; refine (HA.out _ HT.out).mono ?_; rintro e w1 ⟨rfl, hb1⟩)
      | (go_at_call 62; refine (HM.out _ (Kd.C_below HR0.out (below_alloc hb1 _))).mono ?_; rintro e w2 ⟨rfl, hb2⟩))
    go_ret
    exact ⟨rfl, below_step (below_alloc hb1 _) hb2⟩
  obtain ⟨ad, e1, ux0, ux1⟩ := at_T29 HR0.out ((m.length : Int) - 1) (by omega) (by omega)
  subst e1
  obtain ⟨X, hX⟩ : ∃ X, X = rd_T29 m ((m.length : Int) - 1) := ⟨_, rfl⟩
  rw [← hX] at ux0 ux1 hout
  have en : ((m.length : Int) - 1).toNat = m.length - 1 := by omega
  rw [en] at ux0 ux1
  have U0 := Aside0.mk ux0
  have U1 := Aside0.mk ux1
  simp only [Bool.true_and] at hout
  have i1 := eq_true (show (m.length : Int) - 1 < (m.length : Int) by omega)
  have i2 := eq_true (show 0 ≤ (m.length : Int) - 1 by omega)
  clear hX ux0 ux1
  cases h1 : (X.f0 == a)
  · rw [hout, h1]
    clear hout
    simp only [Bool.false_and]
    go_enter Tryd.func15, Tryd.ntmps15
    go_wp2_with (first
      | (go_at_call 61; refine (HA.out _ HT.out).mono ?_; rintro e w1 ⟨rfl, hb1⟩)
      | (go_at_call 62; refine (HM.out _ (Kd.C_below HR0.out (below_alloc hb1 _))).mono ?_; rintro e w2 ⟨rfl, hb2⟩; have hq0 : (w2.alloc (Obj.cells #[.int .i64 X.f0, .bool X.f1] 29)).cell? ⟨w1.heap.size, 0, none⟩ = some (.int .i64 a) := pw_cell_below (below_alloc (Below.refl _ _) _) (pw_cell_below hb2 ((blk_cell (blk_new w1 _) 0).trans rfl)); have hq2 : (w2.alloc (Obj.cells #[.int .i64 X.f0, .bool X.f1] 29)).cell? ⟨w1.heap.size, 2, none⟩ = some (.int .i64 c) := pw_cell_below (below_alloc (Below.refl _ _) _) (pw_cell_below hb2 ((blk_cell (blk_new w1 _) 2).trans rfl)); have hq3 : (w2.alloc (Obj.cells #[.int .i64 X.f0, .bool X.f1] 29)).cell? ⟨w1.heap.size, 3, none⟩ = some (.int .i64 d) := pw_cell_below (below_alloc (Below.refl _ _) _) (pw_cell_below hb2 ((blk_cell (blk_new w1 _) 3).trans rfl)); have HB := Aside0.mk (below_step (below_alloc hb1 _) hb2); have hx0 := pw_cell_below (below_step (below_alloc hb1 _) hb2) U0.out; have hx1 := pw_cell_below (below_step (below_alloc hb1 _) hb2) U1.out))
    go_ret
    exact ⟨rfl, below_alloc HB.out _⟩
  cases h2 : X.f1
  · rw [h2] at U1
    by_cases h3 : c ≤ lo
    · have d3 : decide (c ≤ lo) = true := decide_eq_true h3
      by_cases h4 : hi ≤ d
      · have d4 : decide (hi ≤ d) = true := decide_eq_true h4
        have e : mIn m mode = true := by rw [hout, h1, h2, d3, d4]; rfl
        rw [e]
        clear hout h3 h4 e
        go_enter Tryd.func15, Tryd.ntmps15
        go_wp2_with (first
          | (go_at_call 61; refine (HA.out _ HT.out).mono ?_; rintro e w1 ⟨rfl, hb1⟩)
          | (go_at_call 62; refine (HM.out _ (Kd.C_below HR0.out (below_alloc hb1 _))).mono ?_; rintro e w2 ⟨rfl, hb2⟩; have hq0 : (w2.alloc (Obj.cells #[.int .i64 X.f0, .bool false] 29)).cell? ⟨w1.heap.size, 0, none⟩ = some (.int .i64 a) := pw_cell_below (below_alloc (Below.refl _ _) _) (pw_cell_below hb2 ((blk_cell (blk_new w1 _) 0).trans rfl)); have hq2 : (w2.alloc (Obj.cells #[.int .i64 X.f0, .bool false] 29)).cell? ⟨w1.heap.size, 2, none⟩ = some (.int .i64 c) := pw_cell_below (below_alloc (Below.refl _ _) _) (pw_cell_below hb2 ((blk_cell (blk_new w1 _) 2).trans rfl)); have hq3 : (w2.alloc (Obj.cells #[.int .i64 X.f0, .bool false] 29)).cell? ⟨w1.heap.size, 3, none⟩ = some (.int .i64 d) := pw_cell_below (below_alloc (Below.refl _ _) _) (pw_cell_below hb2 ((blk_cell (blk_new w1 _) 3).trans rfl)); have HB := Aside0.mk (below_step (below_alloc hb1 _) hb2); have hx0 := pw_cell_below (below_step (below_alloc hb1 _) hb2) U0.out; have hx1 := pw_cell_below (below_step (below_alloc hb1 _) hb2) U1.out))
        go_ret
        exact ⟨rfl, below_alloc HB.out _⟩
      · have d4 : decide (hi ≤ d) = false := decide_eq_false h4
        have e : mIn m mode = false := by rw [hout, h1, h2, d3, d4]; rfl
        rw [e]
        clear hout h3 h4 e
        go_enter Tryd.func15, Tryd.ntmps15
        go_wp2_with (first
          | (go_at_call 61; refine (HA.out _ HT.out).mono ?_; rintro e w1 ⟨rfl, hb1⟩)
          | (go_at_call 62; refine (HM.out _ (Kd.C_below HR0.out (below_alloc hb1 _))).mono ?_; rintro e w2 ⟨rfl, hb2⟩; have hq0 : (w2.alloc (Obj.cells #[.int .i64 X.f0, .bool false] 29)).cell? ⟨w1.heap.size, 0, none⟩ = some (.int .i64 a) := pw_cell_below (below_alloc (Below.refl _ _) _) (pw_cell_below hb2 ((blk_cell (blk_new w1 _) 0).trans rfl)); have hq2 : (w2.alloc (Obj.cells #[.int .i64 X.f0, .bool false] 29)).cell? ⟨w1.heap.size, 2, none⟩ = some (.int .i64 c) := pw_cell_below (below_alloc (Below.refl _ _) _) (pw_cell_below hb2 ((blk_cell (blk_new w1 _) 2).trans rfl)); have hq3 : (w2.alloc (Obj.cells #[.int .i64 X.f0, .bool false] 29)).cell? ⟨w1.heap.size, 3, none⟩ = some (.int .i64 d) := pw_cell_below (below_alloc (Below.refl _ _) _) (pw_cell_below hb2 ((blk_cell (blk_new w1 _) 3).trans rfl)); have HB := Aside0.mk (below_step (below_alloc hb1 _) hb2); have hx0 := pw_cell_below (below_step (below_alloc hb1 _) hb2) U0.out; have hx1 := pw_cell_below (below_step (below_alloc hb1 _) hb2) U1.out))
        go_ret
        exact ⟨rfl, below_alloc HB.out _⟩
    · have d3 : decide (c ≤ lo) = false := decide_eq_false h3
      have e : mIn m mode = false := by rw [hout, h1, h2, d3]; rfl
      rw [e]
      clear hout h3 e
      go_enter Tryd.func15, Tryd.ntmps15
      go_wp2_with (first
        | (go_at_call 61; refine (HA.out _ HT.out).mono ?_; rintro e w1 ⟨rfl, hb1⟩)
        | (go_at_call 62; refine (HM.out _ (Kd.C_below HR0.out (below_alloc hb1 _))).mono ?_; rintro e w2 ⟨rfl, hb2⟩; have hq0 : (w2.alloc (Obj.cells #[.int .i64 X.f0, .bool false] 29)).cell? ⟨w1.heap.size, 0, none⟩ = some (.int .i64 a) := pw_cell_below (below_alloc (Below.refl _ _) _) (pw_cell_below hb2 ((blk_cell (blk_new w1 _) 0).trans rfl)); have hq2 : (w2.alloc (Obj.cells #[.int .i64 X.f0, .bool false] 29)).cell? ⟨w1.heap.size, 2, none⟩ = some (.int .i64 c) := pw_cell_below (below_alloc (Below.refl _ _) _) (pw_cell_below hb2 ((blk_cell (blk_new w1 _) 2).trans rfl)); have hq3 : (w2.alloc (Obj.cells #[.int .i64 X.f0, .bool false] 29)).cell? ⟨w1.heap.size, 3, none⟩ = some (.int .i64 d) := pw_cell_below (below_alloc (Below.refl _ _) _) (pw_cell_below hb2 ((blk_cell (blk_new w1 _) 3).trans rfl)); have HB := Aside0.mk (below_step (below_alloc hb1 _) hb2); have hx0 := pw_cell_below (below_step (below_alloc hb1 _) hb2) U0.out; have hx1 := pw_cell_below (below_step (below_alloc hb1 _) hb2) U1.out))
      go_ret
      exact ⟨rfl, below_alloc HB.out _⟩
  · rw [h2] at U1
    have e : mIn m mode = false := by rw [hout, h1, h2]; rfl
    rw [e]
    clear hout e
    go_enter Tryd.func15, Tryd.ntmps15
    go_wp2_with (first
      | (go_at_call 61; refine (HA.out _ HT.out).mono ?_; rintro e w1 ⟨rfl, hb1⟩)
      | (go_at_call 62; refine (HM.out _ (Kd.C_below HR0.out (below_alloc hb1 _))).mono ?_; rintro e w2 ⟨rfl, hb2⟩; have hq0 : (w2.alloc (Obj.cells #[.int .i64 X.f0, .bool true] 29)).cell? ⟨w1.heap.size, 0, none⟩ = some (.int .i64 a) := pw_cell_below (below_alloc (Below.refl _ _) _) (pw_cell_below hb2 ((blk_cell (blk_new w1 _) 0).trans rfl)); have hq2 : (w2.alloc (Obj.cells #[.int .i64 X.f0, .bool true] 29)).cell? ⟨w1.heap.size, 2, none⟩ = some (.int .i64 c) := pw_cell_below (below_alloc (Below.refl _ _) _) (pw_cell_below hb2 ((blk_cell (blk_new w1 _) 2).trans rfl)); have hq3 : (w2.alloc (Obj.cells #[.int .i64 X.f0, .bool true] 29)).cell? ⟨w1.heap.size, 3, none⟩ = some (.int .i64 d) := pw_cell_below (below_alloc (Below.refl _ _) _) (pw_cell_below hb2 ((blk_cell (blk_new w1 _) 3).trans rfl)); have HB := Aside0.mk (below_step (below_alloc hb1 _) hb2); have hx0 := pw_cell_below (below_step (below_alloc hb1 _) hb2) U0.out; have hx1 := pw_cell_below (below_step (below_alloc hb1 _) hb2) U1.out))
    go_ret
    exact ⟨rfl, below_alloc HB.out _⟩

set_option maxHeartbeats 4000000 in
set_option maxRecDepth 100000 in
theorem impl_ModeAll_calls (m : List S29) (A0 : Option Addr) (c0 : Nat) (w : World) (ht : MTab w) (hr0 : Kd.C k29 w A0 m.length m) (hc0 : m.length ≤ c0) (hm : m.length ≤ 1000000000000) :
    Calls Tryd.prog 28 #[.slice A0 m.length c0] w fun e w' => ∃ v, e = .returned v ∧ Kd.R (Kd.int .i64) 3 w' w.heap.size (fun _ => True) v (mUp m 8) ∧ Below w.heap.size w w' := by
  have HT := Aside0.mk ht
  have HR0 := Aside0.mk hr0
  have HC0 := Aside0.mk hc0
  clear ht hr0 hc0
  have hinf : (Tryd.prog.info? 3).map (fun i => (i.zero, i.size, i.bytes)) = some (some (.int .i64 0), 1, 8) := by kernel_rfl
  have HI := Aside0.mk hinf
  clear hinf
  go_enter Tryd.func28, Tryd.ntmps28
  go_wp2_with ((with_reducible refine gate_dst (N := 5) rfl ?_); refine Kd.R_lit (Kd.int .i64) _ 3 ?hg (N := 5) ?hd (xs := ([] : List Int)) (inner := []) (ok := fun _ => True) (okp := fun _ => True) ?hr (Reps.none _ _) (fun _ hk => hk) trivial (Below.refl _ _) (Nat.le_refl _) (by simp) ?_; (case hd => rfl); (case hg => rfl); (case hr => first | (go_simp; done) | (go_simp; rfl)); intro v2 w2 ho2 hb2 _ _; have HO := Aside0.mk ho2; have HB := Aside0.mk hb2; clear ho2 hb2)
  go_loopg [3, 4] 8 (fun kq v3 v4 w' => ∃ (i : Int), v4 = .int .i64 i ∧ Aside0 (kq = (9 - i).toNat ∧ 1 ≤ i ∧ i ≤ 9) ∧ Aside0 (Kd.R (Kd.int .i64) 3 w' w.heap.size (fun _ => True) v3 (mUp m (i - 1).toNat)) ∧ Aside0 (Below w.heap.size w w'))
  case atStart => exact ⟨1, rfl, ⟨by decide⟩, ⟨HO.out⟩, ⟨HB.out⟩⟩
  case round =>
    clear HO HB
    obtain ⟨i, rfl, HX, HO, HB⟩ := hrel
    obtain ⟨hk, h1, h9⟩ := HX.out
    by_cases h : i ≤ 8
    · have d1 : decide (i ≤ 8) = true := decide_eq_true h
      have NX : Aside0 ((9 - (i + 1)).toNat < gk ∧ 1 ≤ i + 1 ∧ i + 1 ≤ 9) := ⟨by omega, by omega, by omega⟩
      have hu : mUp m (i + 1 - 1).toNat = if mIn m i = true then mUp m (i - 1).toNat ++ [i] else mUp m (i - 1).toNat := by
        have e1 : (i + 1 - 1).toNat = (i - 1).toNat + 1 := by omega
        have e2 : (((i - 1).toNat : Nat) : Int) + 1 = i := by omega
        rw [e1]
        simp only [mUp]
        rw [e2]
      have hl := mUp_len m (i - 1).toNat
      obtain ⟨J, hJ⟩ : ∃ J, J = mUp m (i - 1).toNat := ⟨_, rfl⟩
      rw [← hJ] at hu hl HO
      have hl2 : J.length ≤ 8 := by omega
      clear hJ hl hk
      cases hin : mIn m i
      · rw [hin] at hu
        have HU := Aside0.mk hu
        clear hu
        go_wp2_with (go_at_call 15; refine (impl_ModeIn_calls m i _ _ wr (HT.out.below HB.out) (Kd.C_below HR0.out HB.out) HC0.out hm).mono ?_; rw [hin]; rintro e w3 ⟨rfl, hb3⟩)
        go_roundg ((9 - (i + 1)).toNat)
        case measure => exact NX.out.1
        case rel => exact ⟨i + 1, rfl, ⟨rfl, NX.out.2⟩, ⟨by rw [HU.out]; exact Kd.R_below HO.out hb3⟩, ⟨below_step HB.out hb3⟩⟩
      · rw [hin] at hu
        have HU := Aside0.mk hu
        clear hu
        go_wp2_with (first
          | (go_at_call 15; refine (impl_ModeIn_calls m i _ _ wr (HT.out.below HB.out) (Kd.C_below HR0.out HB.out) HC0.out hm).mono ?_; rw [hin]; rintro e w3 ⟨rfl, hb3⟩; have HO3 := Aside0.mk (Kd.R_below HO.out hb3); have HB3 := Aside0.mk (below_step HB.out hb3))
          | ((with_reducible refine gate_builtin (b := .append) (xs := #[.tmp 13, .tmp 15]) rfl ?_); at_builtin; refine Kd.R_append (Kd.int .i64) (w0 := w) w.heap.size rfl (.tmp 13) (.tmp 15) 42 3 (.int .i64 0) 8 rfl Tryd.underlying42 HI.out rfl (by decide) (by omega) _ J i [.int .i64 i] (fun _ => True) (fun _ => False) rfl rfl ?aP (fun _ hk => hk.elim) (fun _ _ => trivial) HO3.out HB3.out HB3.out.size (by omega) ?_; (case aP => exact rfl); intro v4 w4 ho4 hb4 hg4 hat4))
        go_roundg ((9 - (i + 1)).toNat)
        case measure => exact NX.out.1
        case rel => exact ⟨i + 1, rfl, ⟨rfl, NX.out.2⟩, ⟨by rw [HU.out]; exact ho4⟩, ⟨hb4⟩⟩
    · have d1 : decide (i ≤ 8) = false := decide_eq_false h
      obtain rfl : i = 9 := by omega
      go_wp2
      go_ret
      exact ⟨_, rfl, HO.out, HB.out⟩

set_option maxHeartbeats 4000000 in
set_option maxRecDepth 100000 in
theorem impl_ModeTenor_calls (mode : Int) (w : World) (ht : MTab w) :
    Calls Tryd.prog 77 #[.int .i64 mode] w fun e w' => e = .returned (.int .i64 (mTen mode)) ∧ Below w.heap.size w w' := by
  have HT := Aside0.mk ht
  clear ht
  have hu := Tryd.underlying75
  have hout : mTen mode = if mOk mode = true then (mRz mode).2.1 else -1 := by
    unfold mTen mRz
    cases mOk mode <;> simp
  obtain ⟨a, b, c, d, hz⟩ : ∃ a b c d, mRz mode = (a, b, c, d) := ⟨_, _, _, _, rfl⟩
  rw [hz] at hout
  simp only [] at hout
  have HA := Aside0.mk (show ∀ w, MTab w → Calls Tryd.prog 61 #[.int .i64 mode] w fun e w' => e = .returned (.tuple #[.agg #[.int .i64 a, .int .i64 b, .int .i64 c, .int .i64 d], .bool (mOk mode)]) ∧ Below w.heap.size w w' from fun w h => by have := impl_modeAt_calls mode w h; rw [hz] at this; exact this)
  obtain ⟨ok, hok⟩ : ∃ ok, ok = mOk mode := ⟨_, rfl⟩
  rw [← hok] at hout HA
  clear hok hz
  cases ok
  · rw [hout]
    clear hout
    simp only [Bool.false_eq_true, if_false]
    go_enter Tryd.func77, Tryd.ntmps77
    go_wp2_with (go_at_call 61; refine (HA.out _ HT.out).mono ?_; rintro e w1 ⟨rfl, hb1⟩)
    go_ret
    exact ⟨rfl, below_alloc hb1 _⟩
  · rw [hout]
    clear hout
    simp only [if_true]
    go_enter Tryd.func77, Tryd.ntmps77
    go_wp2_with (go_at_call 61; refine (HA.out _ HT.out).mono ?_; rintro e w1 ⟨rfl, hb1⟩)
    go_ret
    exact ⟨rfl, below_alloc hb1 _⟩
set_option maxHeartbeats 4000000 in
set_option maxRecDepth 100000 in
theorem impl_tenorTones_calls (m : List S29) (mode : Int) (A0 : Option Addr) (c0 : Nat) (w : World) (ht : MTab w) (hr0 : Kd.C k29 w A0 m.length m) (hc0 : m.length ≤ c0) (hm : m.length ≤ 1000000000000) :
    Calls Tryd.prog 75 #[.slice A0 m.length c0, .int .i64 mode] w fun e w' => e = .returned (.int .i64 (mCount mode m)) ∧ Below w.heap.size w w' := by
  have HT := Aside0.mk ht
  have HR0 := Aside0.mk hr0
  have HC0 := Aside0.mk hc0
  clear ht hr0 hc0
  have hu1 := Tryd.underlying29
  obtain ⟨T, hT⟩ : ∃ T, T = mTen mode := ⟨_, rfl⟩
  have HA := Aside0.mk (show ∀ w, MTab w → Calls Tryd.prog 77 #[.int .i64 mode] w fun e w' => e = .returned (.int .i64 T) ∧ Below w.heap.size w w' from fun w h => by rw [hT]; exact impl_ModeTenor_calls mode w h)
  go_enter Tryd.func75, Tryd.ntmps75
  go_wp2
  go_loopg [5, 10] m.length (fun kq v5 v10 w' => ∃ (i : Nat) (n : Int), v10 = .int .i64 (i : Int) ∧ v5 = .int .i64 n ∧ Aside0 (kq = m.length - i ∧ i ≤ m.length ∧ n + mCount mode (m.drop i) = mCount mode m ∧ 0 ≤ n ∧ n ≤ i) ∧ Aside0 (Below w.heap.size w w'))
  case atStart => exact ⟨0, 0, rfl, rfl, ⟨by simp⟩, ⟨by repeat (first | exact Below.refl _ _ | apply below_alloc | apply pw_below_drewN | apply below_drew1)⟩⟩
  case round =>
    obtain ⟨i, n, rfl, rfl, HX, HB⟩ := hrel
    obtain ⟨hk, hil, hn, hn0, hn1⟩ := HX.out
    by_cases hi : (i : Int) < (m.length : Int)
    · have d1 : decide ((i : Int) < (m.length : Int)) = true := decide_eq_true hi
      have p0 : (0 : Int) ≤ (i : Int) := by omega
      obtain ⟨ad, e1, ux0, ux1⟩ := at_T29 HR0.out (i : Int) p0 hi
      subst e1
      obtain ⟨X, hX⟩ : ∃ X, X = rd_T29 m (i : Int) := ⟨_, rfl⟩
      rw [← hX] at ux0 ux1
      have hx0 := (HB.out.cell (World.block_lt_of_cell? w _ ux0)).trans ux0
      have hx1 := (HB.out.cell (World.block_lt_of_cell? w _ ux1)).trans ux1
      simp only [Int.toNat_natCast] at hx0 hx1
      have hdr : m.drop i = X :: m.drop (i + 1) := by
        rw [List.drop_eq_getElem_cons (by omega), hX]
        unfold rd_T29
        rw [Int.toNat_natCast, List.getD_eq_getElem?_getD, List.getElem?_eq_getElem (by omega)]; rfl
      rw [hdr] at hn
      simp only [mCount] at hn
      rw [← hT] at hn
      have q0 := eq_true p0
      have q1 := eq_true hi
      have bi : i ≤ 1000000000000 := by omega
      have bn : n ≤ 1000000000000 := by omega
      cases hc : (X.f0 == T)
      · have hne : X.f0 ≠ T := by simpa using hc
        rw [if_neg hne] at hn
        have NX : Aside0 (m.length - (i + 1) < gk ∧ i + 1 ≤ m.length ∧ n + mCount mode (m.drop (i + 1)) = mCount mode m ∧ 0 ≤ n ∧ n ≤ ((i + 1 : Nat) : Int)) := ⟨by omega, by omega, by omega, by omega, by omega⟩
        clear hn hne hk hX ux0 ux1 hdr
        go_upto_region 5 with ((with_reducible refine gate_dst (N := 7) rfl ?_); refine box_event ?hg (N := 7) ?hd (cs := #[.int .i64 0, .bool false]) (t := 29) ?hr ?_; (case hd => rfl); (case hg => rfl); (case hr => first | (go_simp; done) | (go_simp; rfl)); intro gb hg w3 hbox hb3; have HBX := Aside0.mk hbox; have HB3 := Aside0.mk (below_step HB.out hb3); have GW := Aside0.mk (show w.heap.size ≤ gb from (by rw [hg]; exact HB.out.size)); have hcz0 : w3.cell? ⟨gb, 0, none⟩ = some (.int .i64 0) := (blk_cell hbox 0).trans rfl; have hcz1 : w3.cell? ⟨gb, 1, none⟩ = some (.bool false) := (blk_cell hbox 1).trans rfl; have hfz0 := blk_frozen hbox 0; have hfz1 := blk_frozen hbox 1; clear hg hbox)
        have HBK : Aside0 (((w3.setCell ⟨gb, 0, none⟩ (.int .i64 X.f0)).setCell ⟨gb, 1, none⟩ (.bool X.f1)).heap[gb]? = some (.cells #[.int .i64 X.f0, .bool X.f1] 29 (0, 0))) := ⟨blk_put (cs := #[.int .i64 X.f0, .bool false]) (blk_put (cs := #[.int .i64 0, .bool false]) HBX.out 0 _ rfl) 1 _ rfl⟩
        have HB9 : Aside0 (Below w.heap.size w ((w3.setCell ⟨gb, 0, none⟩ (.int .i64 X.f0)).setCell ⟨gb, 1, none⟩ (.bool X.f1))) := ⟨below_set (below_set HB3.out GW.out) GW.out⟩
        clear HB3 GW HBX hcz0 hcz1 hfz0 hfz1 hx0 hx1
        generalize ((w3.setCell ⟨gb, 0, none⟩ (.int .i64 X.f0)).setCell ⟨gb, 1, none⟩ (.bool X.f1)) = w9 at HBK HB9 ⊢
        replace HB9 := Aside0.mk (below_drew1 HB9.out)
        have hc0 : w9.cell? ⟨gb, 0, none⟩ = some (.int .i64 X.f0) := (blk_cell HBK.out 0).trans rfl
        have hc0' : w9.drew.cell? ⟨gb, 0, none⟩ = some (.int .i64 X.f0) := hc0
        go_region_held3 (fun w' => w'.cell? ⟨gb, 0, none⟩ = some (.int .i64 X.f0))
          (first
            | go_keep
            | exact pw_cell_below hb4 hc0'
            | fail)
          (first
            | (go_at_call 77; refine (HA.out w9.drew (HT.out.below HB9.out)).mono ?_; rintro e w4 ⟨rfl, hb4⟩)
            | fail)
        go_wp2
        go_roundg (m.length - (i + 1))
        case measure => exact NX.out.1
        case rel => exact ⟨i + 1, n, by simp, rfl, ⟨rfl, NX.out.2⟩, ⟨below_step HB9.out hb4⟩⟩
      · have hne : X.f0 = T := by simpa using hc
        rw [if_pos hne] at hn
        have NX : Aside0 (m.length - (i + 1) < gk ∧ i + 1 ≤ m.length ∧ n + 1 + mCount mode (m.drop (i + 1)) = mCount mode m ∧ 0 ≤ n + 1 ∧ n + 1 ≤ ((i + 1 : Nat) : Int)) := ⟨by omega, by omega, by omega, by omega, by omega⟩
        clear hn hne hk hX ux0 ux1 hdr
        go_upto_region 5 with ((with_reducible refine gate_dst (N := 7) rfl ?_); refine box_event ?hg (N := 7) ?hd (cs := #[.int .i64 0, .bool false]) (t := 29) ?hr ?_; (case hd => rfl); (case hg => rfl); (case hr => first | (go_simp; done) | (go_simp; rfl)); intro gb hg w3 hbox hb3; have HBX := Aside0.mk hbox; have HB3 := Aside0.mk (below_step HB.out hb3); have GW := Aside0.mk (show w.heap.size ≤ gb from (by rw [hg]; exact HB.out.size)); have hcz0 : w3.cell? ⟨gb, 0, none⟩ = some (.int .i64 0) := (blk_cell hbox 0).trans rfl; have hcz1 : w3.cell? ⟨gb, 1, none⟩ = some (.bool false) := (blk_cell hbox 1).trans rfl; have hfz0 := blk_frozen hbox 0; have hfz1 := blk_frozen hbox 1; clear hg hbox)
        have HBK : Aside0 (((w3.setCell ⟨gb, 0, none⟩ (.int .i64 X.f0)).setCell ⟨gb, 1, none⟩ (.bool X.f1)).heap[gb]? = some (.cells #[.int .i64 X.f0, .bool X.f1] 29 (0, 0))) := ⟨blk_put (cs := #[.int .i64 X.f0, .bool false]) (blk_put (cs := #[.int .i64 0, .bool false]) HBX.out 0 _ rfl) 1 _ rfl⟩
        have HB9 : Aside0 (Below w.heap.size w ((w3.setCell ⟨gb, 0, none⟩ (.int .i64 X.f0)).setCell ⟨gb, 1, none⟩ (.bool X.f1))) := ⟨below_set (below_set HB3.out GW.out) GW.out⟩
        clear HB3 GW HBX hcz0 hcz1 hfz0 hfz1 hx0 hx1
        generalize ((w3.setCell ⟨gb, 0, none⟩ (.int .i64 X.f0)).setCell ⟨gb, 1, none⟩ (.bool X.f1)) = w9 at HBK HB9 ⊢
        replace HB9 := Aside0.mk (below_drew1 HB9.out)
        have hc0 : w9.cell? ⟨gb, 0, none⟩ = some (.int .i64 X.f0) := (blk_cell HBK.out 0).trans rfl
        have hc0' : w9.drew.cell? ⟨gb, 0, none⟩ = some (.int .i64 X.f0) := hc0
        go_region_held3 (fun w' => w'.cell? ⟨gb, 0, none⟩ = some (.int .i64 X.f0))
          (first
            | go_keep
            | exact pw_cell_below hb4 hc0'
            | fail)
          (first
            | (go_at_call 77; refine (HA.out w9.drew (HT.out.below HB9.out)).mono ?_; rintro e w4 ⟨rfl, hb4⟩)
            | fail)
        go_wp2
        go_roundg (m.length - (i + 1))
        case measure => exact NX.out.1
        case rel => exact ⟨i + 1, n + 1, by simp, rfl, ⟨rfl, NX.out.2⟩, ⟨below_step HB9.out hb4⟩⟩
    · have d1 : decide ((i : Int) < (m.length : Int)) = false := decide_eq_false hi
      obtain rfl : i = m.length := by omega
      rw [List.drop_length] at hn
      simp only [mCount] at hn
      obtain rfl : n = mCount mode m := by omega
      go_wp2
      go_ret
      exact ⟨rfl, HB.out⟩

set_option maxHeartbeats 4000000 in
set_option maxRecDepth 100000 in
theorem impl_ModeLikely_calls (m : List S29) (A0 : Option Addr) (c0 : Nat) (w : World) (ht : MTab w) (hr0 : Kd.C k29 w A0 m.length m) (hc0 : m.length ≤ c0) (hm : m.length ≤ 1000000000000) :
    Calls Tryd.prog 26 #[.slice A0 m.length c0] w fun e w' => e = .returned (.tuple #[.int .i64 (mLikely m).1, .bool (mLikely m).2]) ∧ Below w.heap.size w w' := by
  have HT := Aside0.mk ht
  have HR0 := Aside0.mk hr0
  have HC0 := Aside0.mk hc0
  clear ht hr0 hc0
  rw [mGo_likely]
  have HA := Aside0.mk (show ∀ w, MTab w → Kd.C k29 w A0 m.length m → Calls Tryd.prog 28 #[.slice A0 m.length c0] w fun e w' => ∃ v, e = .returned v ∧ Kd.R (Kd.int .i64) 3 w' w.heap.size (fun _ => True) v (mUp m 8) ∧ Below w.heap.size w w' from fun w h h2 => impl_ModeAll_calls m A0 c0 w h h2 HC0.out hm)
  have hbd := mUp_len m 8
  obtain ⟨L, hL⟩ : ∃ L, L = mUp m 8 := ⟨_, rfl⟩
  rw [← hL] at hbd HA ⊢
  obtain ⟨R, hR⟩ : ∃ R, R = mGo m 0 (-1) L := ⟨_, rfl⟩
  rw [← hR]
  have HRR := Aside0.mk hR
  clear hL hR
  go_enter Tryd.func26, Tryd.ntmps26
  go_wp2_with (go_at_call 28; refine (HA.out _ HT.out HR0.out).mono ?_; rintro e w1 ⟨v, rfl, ho1, hb1⟩; obtain ⟨A1, c1, rfl, hc1, hr1⟩ := Kd.R_reads ho1; have HO := Aside0.mk hr1; have HB := Aside0.mk hb1; clear ho1 hr1 hb1)
  go_loopg [4, 5, 12] L.length (fun kq v4 v5 v12 w' => ∃ (i : Nat) (b c : Int), v12 = .int .i64 (i : Int) ∧ v4 = .int .i64 b ∧ v5 = .int .i64 c ∧ Aside0 (kq = L.length - i ∧ i ≤ L.length ∧ mGo m b c (L.drop i) = R) ∧ Aside0 (Kd.C (Kd.int .i64) w' A1 L.length L) ∧ Aside0 (Below w.heap.size w w'))
  case atStart => exact ⟨0, 0, -1, rfl, rfl, rfl, ⟨by rw [HRR.out]; simp⟩, HO, HB⟩
  case round =>
    clear HO HB
    obtain ⟨i, b, c, rfl, rfl, rfl, HX, HO, HB⟩ := hrel
    obtain ⟨hk, hil, hn⟩ := HX.out
    by_cases hi : (i : Int) < (L.length : Int)
    · have d1 : decide ((i : Int) < (L.length : Int)) = true := decide_eq_true hi
      have p0 : (0 : Int) ≤ (i : Int) := by omega
      obtain ⟨ad, e1, hx0⟩ := Kd.at_int HO.out (i : Int) p0 hi
      subst e1
      obtain ⟨X, hX⟩ : ∃ X, X = rd L (i : Int) := ⟨_, rfl⟩
      rw [← hX] at hx0
      simp only [Int.toNat_natCast] at hx0
      have hdr : L.drop i = X :: L.drop (i + 1) := by
        rw [List.drop_eq_getElem_cons (by omega), hX]
        unfold rd
        rw [Int.toNat_natCast, List.getD_eq_getElem?_getD, List.getElem?_eq_getElem (by omega)]; rfl
      rw [hdr] at hn
      simp only [mGo] at hn
      obtain ⟨N, hN⟩ : ∃ N, N = mCount X m := ⟨_, rfl⟩
      rw [← hN] at hn
      have HC := Aside0.mk (show ∀ w, MTab w → Kd.C k29 w A0 m.length m → Calls Tryd.prog 75 #[.slice A0 m.length c0, .int .i64 X] w fun e w' => e = .returned (.int .i64 N) ∧ Below w.heap.size w w' from fun w h h2 => by rw [hN]; exact impl_tenorTones_calls m X A0 c0 w h h2 HC0.out hm)
      have q0 := eq_true p0
      have q1 := eq_true hi
      have bi : i ≤ 1000000000000 := by omega
      by_cases hc : N > c
      · have d2 : decide (c < N) = true := decide_eq_true hc
        rw [if_pos hc] at hn
        have NX : Aside0 (L.length - (i + 1) < gk ∧ i + 1 ≤ L.length ∧ mGo m X N (L.drop (i + 1)) = R) := ⟨by omega, by omega, hn⟩
        clear hn hc hk hX hN hdr
        go_wp2_with (go_at_call 75; refine (HC.out wr (HT.out.below HB.out) (Kd.C_below HR0.out HB.out)).mono ?_; rintro e w3 ⟨rfl, hb3⟩)
        go_roundg (L.length - (i + 1))
        case measure => exact NX.out.1
        case rel => exact ⟨i + 1, _, _, by simp, rfl, rfl, ⟨rfl, NX.out.2⟩, ⟨Kd.C_below HO.out hb3⟩, ⟨below_step HB.out hb3⟩⟩
      · have d2 : decide (c < N) = false := decide_eq_false hc
        rw [if_neg hc] at hn
        have NX : Aside0 (L.length - (i + 1) < gk ∧ i + 1 ≤ L.length ∧ mGo m b c (L.drop (i + 1)) = R) := ⟨by omega, by omega, hn⟩
        clear hn hc hk hX hN hdr
        go_wp2_with (go_at_call 75; refine (HC.out wr (HT.out.below HB.out) (Kd.C_below HR0.out HB.out)).mono ?_; rintro e w3 ⟨rfl, hb3⟩)
        go_roundg (L.length - (i + 1))
        case measure => exact NX.out.1
        case rel => exact ⟨i + 1, _, _, by simp, rfl, rfl, ⟨rfl, NX.out.2⟩, ⟨Kd.C_below HO.out hb3⟩, ⟨below_step HB.out hb3⟩⟩
    · have d1 : decide ((i : Int) < (L.length : Int)) = false := decide_eq_false hi
      obtain rfl : i = L.length := by omega
      rw [List.drop_length] at hn
      simp only [mGo] at hn
      subst hn
      go_wp2
      go_ret2
      exact ⟨rfl, HB.out⟩
theorem spec_ModeLikely_calls (m : List S29) (A0 : Option Addr) (c0 : Nat) (w : World) (hr0 : Kd.C k29 w A0 m.length m) (hc0 : m.length ≤ c0) (hm : m.length ≤ 1000000000000) :
    Calls Tryd.prog 27 #[.slice A0 m.length c0] w fun e w' => e = .returned (.tuple #[.int .i64 (mLikely m).1, .bool (mLikely m).2]) ∧ Below w.heap.size w w' := by
  obtain ⟨kk, h⟩ := Ev.rounds (spec_ModeLikely_ev m hm)
  exact spec_ModeLikely.calls kk _ _ m _ _ w hr0 hc0 h

end Go.Proofs.YtclpnaaagajhiaaDoor.Pure
