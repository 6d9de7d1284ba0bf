/- Lemmas for the law FnTonaryDrop. -/
import Derived.Test.YtmacedbpdhkagaaDoorSFnTonaryDrops3
namespace Go.Proofs.YtmacedbpdhkagaaDoor.PFnTonaryDrop
open Go.RowKit Go.Proofs.YtmacedbpdhkagaaDoorW.PrintWords Go.Proofs.YtmacedbpdhkagaaDoorW.PrintLast Go.Proofs.YtmacedbpdhkagaaDoorW.PrintMore
attribute [local go_sem] max2_int min2_int max_two min_two max_three min_three max_four min_four   -- for this text's walks alone
set_option linter.unusedVariables false
set_option linter.unusedSimpArgs false

def spec_l92Tonary.l0 : Nat → List (S38) → Int → Int → List Int → Int → Option ((List (S38)) × Int)
 | 0, _, _, _, _, _ => none
 | k + 1, x3, x4, x5, x1000, x1001 => if x5 < x4 then ((spec_l92Entry.f k x1000 x1001).bind fun bt316 => ((spec_TonaryAdd.f k x3 bt316.1 bt316.2.1 bt316.2.2.1).bind fun bt322 => (if bt322.2 = true then (spec_l92Tonary.l0 k bt322.1 x4 (wrap64 (x5 + 1)) x1000 bt316.2.2.2) else (spec_l92Tonary.l0 k x3 x4 (wrap64 (x5 + 1)) x1000 bt316.2.2.2)))) else (if (x3.length : Int) > 1 then ((spec_l6Rd_pick.f k x1000 x1001 30).bind fun bt312 => (if bt312.1 = 0 then (if 1 < (x3.length : Int) then (if 0 < (x3.length : Int) then (some ((x3.set (0 : Int).toNat (⟨(rd_T38 x3 1).f0, (rd_T38 x3 1).f1, (rd_T38 x3 1).f2⟩ : S38)), bt312.2)) else (none)) else (none)) else (some (x3, bt312.2)))) else (some (x3, x1001)))
def spec_l92Tonary.f (k : Nat) (s0_0 : List Int) (s0_1 : Int) : Option ((List (S38)) × Int) := (spec_l6Rd_pick.f k s0_0 s0_1 6).bind fun bt310 => (spec_l92Tonary.l0 k (([] : List (S38))) bt310.1 0 s0_0 bt310.2)
set_option maxHeartbeats 8000000 in
set_option maxRecDepth 100000 in
theorem spec_l92Tonary.calls (k : Nat) (g : Nat) (s0_0 : List Int) (s0_1 : Int) (r1 : List (S38)) (r2 : Int) (w0 w : World) (hI : IsS112 w0 w g s0_0 s0_1) (hB : Below w0.heap.size w0 w) (h : spec_l92Tonary.f k s0_0 s0_1 = some (r1, r2)) :
 Calls Tryd.prog 62 #[.pointer (some ⟨g, 0, none⟩)] w fun e w' => ∃ v0_ : Value, e = .returned (v0_) ∧ Kd.N k38 38 w' w.heap.size (fun k_ => (w.heap.size ≤ k_)) v0_ r1 ∧ IsS112 w0 w' g s0_0 r2 ∧ Below w0.heap.size w0 w' ∧ KeepBut w w' g none := by
 have hu38 := Tryd.underlying38; have HI0 := Aside0.mk hI; have HK := Aside0.mk (KeepBut.refl w g none); have HL := Aside0.mk hB.size; clear hI; have HW0 := Aside0.mk hB.size; have HB := Aside0.mk hB; clear hB; have H : ((spec_l6Rd_pick.f k s0_0 s0_1 6).bind fun bt310 => (spec_l92Tonary.l0 k (([] : List (S38))) bt310.1 0 s0_0 bt310.2)) = some (r1, r2) := h; clear h; obtain ⟨y307, hy307⟩ : ∃ y_ : List (S38), y_ = (([] : List (S38))) := ⟨_, rfl⟩
 replace H : ((spec_l6Rd_pick.f k s0_0 s0_1 6).bind fun bt310 => (spec_l92Tonary.l0 k y307 bt310.1 0 s0_0 bt310.2)) = some (r1, r2) := by first | (rw [hy307]; with_reducible exact H) | (have H2_ := (Option.bind_some _ _).symm.trans H; rw [hy307]; with_reducible exact H2_) | (have H2_ := (Option.bind_some _ _).symm.trans H; with_reducible exact H2_) | with_reducible exact H | (rw [hy307]; exact H) | exact H
 have Ny307 := Aside0.mk hy307; clear hy307; replace H := Option.bind_eq_some_iff.mp H; obtain ⟨⟨t310, t311⟩, A20, H⟩ := H; replace H : (spec_l92Tonary.l0 k y307 t310 0 s0_0 t311) = some (r1, r2) := H; have A2 := Aside0.mk A20; clear A20; have H' := Aside0.mk H; clear H; go_enter Tryd.func62, Tryd.ntmps62
 go_wp2_with (first | ((with_reducible refine gate_dst (N := 8) rfl ?_); refine Kd.N_lit k38 _ 38 ?hg (N' := 8) ?hd (xs := ([] : List (S38))) (inner := []) (ok := (fun k_ => (w.heap.size ≤ k_) ∧ k_ ≠ g)) (okp := (fun k_ => (w.heap.size ≤ k_) ∧ k_ ≠ g)) ?hr ?hp (fun _ hk => hk) ((show ∀ k_, w.heap.size ≤ k_ → (fun k_ => (w.heap.size ≤ k_) ∧ k_ ≠ g) k_ from fun k_ hk => ⟨(Nat.le_trans (keep_size (w := w) (g := g) (row := none) (by repeat (first | (with_reducible first | exact HK.out | apply KeepBut.set_ | apply keep_drewN | apply keep_drew | apply keep_alloc) | exact HK.out))) hk), IsS112.fresh (by repeat (first | (with_reducible first | exact HI0.out | apply IsS112.alloc | apply IsS112.drewN | apply IsS112.drew | apply IsS112.set_1) | exact HI0.out)) k_ hk⟩) _ (Nat.le_refl _)) (Below.refl _ _) (Nat.le_refl _) (by simp) ?_; (case hd => rfl); (case hg => rfl); (case hr => first | (go_simp; done) | (go_simp; rfl)); (case hp => exact (Reps.none _ _)); intro v308 w3 ho4 hb hg_ hnew_; clear hg_ hnew_; (first | rw [← Ny307.out] at ho4 | (simp only [Int.reduceToNat] at ho4; rw [← Ny307.out] at ho4)); have n0_ := Aside0.mk (Kd.N_lower ho4 (keep_size (w := w) (g := g) (row := none) (by repeat (first | (with_reducible first | exact HK.out | apply KeepBut.set_ | apply keep_drewN | apply keep_drew | apply keep_alloc) | exact HK.out)))); have n1_ := Aside0.mk (IsS112.below (by repeat (first | (with_reducible first | exact HI0.out | apply IsS112.alloc | apply IsS112.drewN | apply IsS112.drew | apply IsS112.set_1) | exact HI0.out)) hb); have n2_ := Aside0.mk (KeepBut.trans (by repeat (first | (with_reducible first | exact HK.out | apply KeepBut.set_ | apply keep_drewN | apply keep_drew | apply keep_alloc) | exact HK.out)) (KeepBut.of_below hb g none) (.inl rfl)); have n3_ := Aside0.mk (below_step (by repeat (first | (with_reducible first | exact HB.out | apply below_alloc | apply pw_below_drewN | apply below_drew1 | refine below_set ?_ (IsS112.ge HI0.out)) | exact HB.out)) hb); clear HI0; clear HK; clear HB; have HO309 := n0_; have HI0 := n1_; have HK := n2_; have HB := n3_; clear n0_ n1_ n2_ n3_; clear hb ho4) | ((with_reducible refine gate_callee (f := 63) rfl ?_); refine goesL_ (some 10) rfl rfl Tryd.func63 (by kernel_rfl) rfl #[.pointer (some ⟨g, 0, none⟩), .int .i64 6] rfl (by (try simp only [List.map_toArray, List.map_cons, List.map_nil]); first | done | rfl | (simp only [List.length_drop, List.length_take]; rfl)) ?_; (with_reducible refine (spec_l6Rd_pick.calls k g s0_0 s0_1 6 t310 t311 w0 _ ?side1 ?side2 A2.out).mono ?_); (case side1 => repeat (first | (with_reducible first | exact HI0.out | apply IsS112.alloc | apply IsS112.drewN | apply IsS112.drew | apply IsS112.set_1) | exact HI0.out)); (case side2 => repeat (first | (with_reducible first | exact HB.out | apply below_alloc | apply pw_below_drewN | apply below_drew1 | refine below_set ?_ (IsS112.ge HI0.out)) | exact HB.out)); rintro e w5 ⟨rfl, hi, hb, hk⟩; refine ⟨_, rfl, ?_⟩; have n0_ := Aside0.mk (Kd.N_mono (Kd.N_keep (Kd.N_mono (ok := fun k_ => (((w.heap.size ≤ k_)) ∧ k_ ≠ g)) (by (with_reducible repeat (first | apply Kd.N_alloc | apply Kd.N_drewN | apply Kd.N_drew)); exact HO309.out) (fun k_ hk_ => (⟨hk_, hk_.2⟩ : _ ∧ k_ ≠ g))) hk (fun _ h => h.2)) (fun _ h => h.1)); have n1_ := Aside0.mk (KeepBut.trans (by repeat (first | (with_reducible first | exact HK.out | apply KeepBut.set_ | apply keep_drewN | apply keep_drew | apply keep_alloc) | exact HK.out)) hk (.inl rfl)); have n2_ := Aside0.mk (hb); have n3_ := Aside0.mk (hi); clear HO309; clear HK; clear HB; clear HI0; have HO309 := n0_; have HK := n1_; have HB := n2_; have HI0 := n3_; clear n0_ n1_ n2_ n3_; (try clear hb); (try clear hb2); (try clear hk); (try clear hi)))
 go_loopg [3, 5] k (fun kq v3 v5 w' => ∃ (x3_1 : List (S38)) (x5_1 : Int) (x1001_1 : Int), v5 = .int .i64 x5_1 ∧ Aside0 (spec_l92Tonary.l0 kq x3_1 t310 x5_1 s0_0 x1001_1 = some (r1, r2)) ∧ Aside0 (kq ≤ k) ∧ Aside0 (Kd.N k38 38 w' w.heap.size (fun k_ => (w.heap.size ≤ k_) ∧ k_ ≠ g) v3 x3_1) ∧ Aside0 (IsS112 w0 w' g s0_0 x1001_1) ∧ Aside0 (KeepBut w w' g none) ∧ Aside0 (Below w0.heap.size w0 w'))
 case atStart => exact ⟨(y307), (0), (t311), (by first | rfl | (simp; done) | (simp [*]; done)), H', ⟨Nat.le_refl _⟩, ⟨by (with_reducible repeat (first | apply Kd.N_alloc | apply Kd.N_drewN | apply Kd.N_drew)); exact HO309.out⟩, ⟨by repeat (first | (with_reducible first | exact HI0.out | apply IsS112.alloc | apply IsS112.drewN | apply IsS112.drew | apply IsS112.set_1) | exact HI0.out)⟩, ⟨by repeat (first | (with_reducible first | exact HK.out | apply KeepBut.set_ | apply keep_drewN | apply keep_drew | apply keep_alloc) | exact HK.out)⟩, ⟨by repeat (first | (with_reducible first | exact HB.out | apply below_alloc | apply pw_below_drewN | apply below_drew1 | refine below_set ?_ (IsS112.ge HI0.out)) | exact HB.out)⟩⟩
 case round =>
  clear H'; try clear p2
  obtain ⟨x3_1, x5_1, x1001_1, rfl, HA, HK1, HO_3, HI0, HK, HB⟩ := hrel; cases gk with
  | zero => exact absurd HA.out (by simp [spec_l92Tonary.l0])
  | succ k1 =>
   have H := HA.out; clear HA; simp only [spec_l92Tonary.l0] at H; by_cases c6 : x5_1 < t310
   ·
    rw [if_pos c6] at H; have c6b0 : decide (x5_1 < t310) = true := decide_eq_true c6; clear c6; replace H := Option.bind_eq_some_iff.mp H; obtain ⟨⟨t316, t317, t318, t321⟩, A70, H⟩ := H; replace H : ((spec_TonaryAdd.f k1 x3_1 t316 t317 t318).bind fun bt322 => (if bt322.2 = true then (spec_l92Tonary.l0 k1 bt322.1 t310 (wrap64 (x5_1 + 1)) s0_0 t321) else (spec_l92Tonary.l0 k1 x3_1 t310 (wrap64 (x5_1 + 1)) s0_0 t321))) = some (r1, r2) := H; have A7 := Aside0.mk A70; clear A70; replace H := Option.bind_eq_some_iff.mp H; obtain ⟨⟨t322, t325⟩, A80, H⟩ := H; replace H : (if t325 = true then (spec_l92Tonary.l0 k1 t322 t310 (wrap64 (x5_1 + 1)) s0_0 t321) else (spec_l92Tonary.l0 k1 x3_1 t310 (wrap64 (x5_1 + 1)) s0_0 t321)) = some (r1, r2) := H; have A8 := Aside0.mk A80; clear A80; by_cases c9 : t325 = true
    ·
     subst c9; have H1 : (spec_l92Tonary.l0 k1 t322 t310 (wrap64 (x5_1 + 1)) s0_0 t321) = some (r1, r2) := by rw [if_pos rfl] at H; exact H
     clear H; have H := H1; clear H1; have H' := Aside0.mk H; clear H; go_wp2_with (first | ((with_reducible refine gate_callee (f := 64) rfl ?_); refine goesL_ (some 19) rfl rfl Tryd.func64 (by kernel_rfl) rfl #[.pointer (some ⟨g, 0, none⟩)] rfl (by (try simp only [List.map_toArray, List.map_cons, List.map_nil]); first | done | rfl | (simp only [List.length_drop, List.length_take]; rfl)) ?_; (with_reducible refine (spec_l92Entry.calls k1 g s0_0 x1001_1 t316 t317 t318 t321 w0 _ ?side1 ?side2 A7.out).mono ?_); (case side1 => repeat (first | (with_reducible first | exact HI0.out | apply IsS112.alloc | apply IsS112.drewN | apply IsS112.drew | apply IsS112.set_1) | exact HI0.out)); (case side2 => repeat (first | (with_reducible first | exact HB.out | apply below_alloc | apply pw_below_drewN | apply below_drew1 | refine below_set ?_ (IsS112.ge HI0.out)) | exact HB.out)); rintro e w10 ⟨v319, rfl, ho0, hi, hb, hk⟩; refine ⟨_, rfl, ?_⟩; have n0_ := Aside0.mk (Kd.N_mono (Kd.N_told (Kd.N_oldK (Kd.N_mono (ok := fun k_ => (((w.heap.size ≤ k_)) ∧ k_ ≠ g)) (by (with_reducible repeat (first | apply Kd.N_alloc | apply Kd.N_drewN | apply Kd.N_drew)); exact HO_3.out) (fun k_ hk_ => (⟨hk_, hk_.2⟩ : _ ∧ k_ ≠ g))) hk) (Kd.R_base ho0)) (fun _ h_ => h_.1)); have n1_ := Aside0.mk (Kd.R_lower (Kd.R_newM (M := fun k_ => (w.heap.size ≤ k_)) ho0 (keep_size (w := w) (g := g) (row := none) (by repeat (first | (with_reducible first | exact HK.out | apply KeepBut.set_ | apply keep_drewN | apply keep_drew | apply keep_alloc) | exact HK.out))) (fun k_ h_ => h_)) (keep_size (w := w) (g := g) (row := none) (by repeat (first | (with_reducible first | exact HK.out | apply KeepBut.set_ | apply keep_drewN | apply keep_drew | apply keep_alloc) | exact HK.out)))); have n2_ := Aside0.mk (KeepBut.trans (by repeat (first | (with_reducible first | exact HK.out | apply KeepBut.set_ | apply keep_drewN | apply keep_drew | apply keep_alloc) | exact HK.out)) hk (.inl rfl)); have n3_ := Aside0.mk (hb); have n4_ := Aside0.mk (hi); clear HO_3; clear HK; clear HB; clear HI0; have HO_3 := n0_; have HO320 := n1_; have HK := n2_; have HB := n3_; have HI0 := n4_; clear n0_ n1_ n2_ n3_ n4_; (try clear hb); (try clear hb2); (try clear hk); (try clear hi); (try clear ho0); obtain ⟨Ao11, co11, eo11⟩ := Kd.N_slice HO_3.out; subst eo11; obtain ⟨Ao12, co12, eo12⟩ := Kd.R_slice HO320.out; subst eo12) | ((with_reducible refine gate_callee (f := 44) rfl ?_); refine goesL_ (some 20) rfl rfl Tryd.func44 (by kernel_rfl) rfl #[.slice Ao11 x3_1.length co11, .agg #[.string t316, .int .i64 t317, .slice Ao12 t318.length co12]] rfl (by (try simp only [List.map_toArray, List.map_cons, List.map_nil]); first | done | rfl | (simp only [List.length_drop, List.length_take]; rfl)) ?_; (with_reducible refine (spec_TonaryAdd.calls k1 _ _ x3_1 t316 t317 _ _ t318 t322 true _ ?side1 ?side2 ?side3 ?side4 A8.out).mono ?_); (case side1 => repeat (first | exact (Kd.N_reads' HO_3.out).2.2 | (with_reducible refine Kd.C_alloc ?_ _) | (with_reducible refine Kd.C_drewN ?_ _) | (with_reducible refine Kd.C_drew ?_))); (case side2 => exact (Kd.N_reads' HO_3.out).2.1); (case side3 => repeat (first | exact (Kd.R_reads' HO320.out).2.2 | (with_reducible refine Kd.C_alloc ?_ _) | (with_reducible refine Kd.C_drewN ?_ _) | (with_reducible refine Kd.C_drew ?_))); (case side4 => exact (Kd.R_reads' HO320.out).2.1); rintro e w13 ⟨v323, rfl, ho0, hb⟩; refine ⟨_, rfl, ?_⟩; have n0_ := Aside0.mk (Kd.N_elder' (by (with_reducible repeat (first | apply Kd.N_alloc | apply Kd.N_drewN | apply Kd.N_drew)); exact HO_3.out) (by first | exact Kd.N_base ho0 | exact Kd.N_base (Kd.S_N ho0) | exact Kd.N_base (Kd.S_N (Kd.S_bound ho0))) hb); have n1_ := Aside0.mk (Kd.R_below (by (with_reducible repeat (first | apply Kd.R_alloc | apply Kd.R_drewN | apply Kd.R_drew)); exact HO320.out) hb); have n2_ := Aside0.mk (Kd.N_lower (Kd.N_mono (ok' := fun k_ => (w.heap.size ≤ k_) ∧ some k_ ≠ (.slice Ao11 x3_1.length co11 : Value).ownBlock ∧ some k_ ≠ (.slice Ao12 t318.length co12 : Value).ownBlock ∧ k_ ≠ g) (Kd.S_N (Kd.S_bound ho0)) (fun k_ hk_ => ⟨(Nat.le_trans (keep_size (w := w) (g := g) (row := none) (by repeat (first | (with_reducible first | exact HK.out | apply KeepBut.set_ | apply keep_drewN | apply keep_drew | apply keep_alloc) | exact HK.out))) hk_.2.1), (Kd.fresh' (Kd.N_lt (by (with_reducible repeat (first | apply Kd.N_alloc | apply Kd.N_drewN | apply Kd.N_drew)); exact HO_3.out)) k_ hk_.2.1), (Kd.fresh' (Kd.R_lt (by (with_reducible repeat (first | apply Kd.R_alloc | apply Kd.R_drewN | apply Kd.R_drew)); exact HO320.out)) k_ hk_.2.1), (IsS112.fresh (by repeat (first | (with_reducible first | exact HI0.out | apply IsS112.alloc | apply IsS112.drewN | apply IsS112.drew | apply IsS112.set_1) | exact HI0.out)) k_ hk_.2.1)⟩)) (keep_size (w := w) (g := g) (row := none) (by repeat (first | (with_reducible first | exact HK.out | apply KeepBut.set_ | apply keep_drewN | apply keep_drew | apply keep_alloc) | exact HK.out)))); have n3_ := Aside0.mk (IsS112.below (by repeat (first | (with_reducible first | exact HI0.out | apply IsS112.alloc | apply IsS112.drewN | apply IsS112.drew | apply IsS112.set_1) | exact HI0.out)) hb); have n4_ := Aside0.mk (KeepBut.trans (by repeat (first | (with_reducible first | exact HK.out | apply KeepBut.set_ | apply keep_drewN | apply keep_drew | apply keep_alloc) | exact HK.out)) (KeepBut.of_below hb g none) (.inl rfl)); have n5_ := Aside0.mk (below_step (by repeat (first | (with_reducible first | exact HB.out | apply below_alloc | apply pw_below_drewN | apply below_drew1 | refine below_set ?_ (IsS112.ge HI0.out)) | exact HB.out)) hb); clear HO_3; clear HO320; clear HI0; clear HK; clear HB; have HO_3 := n0_; have HO320 := n1_; have HO324 := n2_; have HI0 := n3_; have HK := n4_; have HB := n5_; clear n0_ n1_ n2_ n3_ n4_ n5_; (try clear hb); (try clear hb2); (try clear hk); (try clear hi); (try clear ho0)))
     go_roundg k1
     case measure => have := HK1.out; omega
     case rel => exact ⟨(t322), (wrap64 (x5_1 + 1)), (t321), (by first | rfl | (simp; done) | (simp [*]; done)), H', ⟨by have := HK1.out; omega⟩, ⟨by (with_reducible repeat (first | apply Kd.N_alloc | apply Kd.N_drewN | apply Kd.N_drew)); exact Kd.N_mono HO324.out (fun _ hk => ⟨hk.1, hk.2.2.2⟩)⟩, ⟨by repeat (first | (with_reducible first | exact HI0.out | apply IsS112.alloc | apply IsS112.drewN | apply IsS112.drew | apply IsS112.set_1) | exact HI0.out)⟩, ⟨by repeat (first | (with_reducible first | exact HK.out | apply KeepBut.set_ | apply keep_drewN | apply keep_drew | apply keep_alloc) | exact HK.out)⟩, ⟨by repeat (first | (with_reducible first | exact HB.out | apply below_alloc | apply pw_below_drewN | apply below_drew1 | refine below_set ?_ (IsS112.ge HI0.out)) | exact HB.out)⟩⟩
    ·
     replace c9 := Bool.eq_false_iff.mpr c9; subst c9; have H1 : (spec_l92Tonary.l0 k1 x3_1 t310 (wrap64 (x5_1 + 1)) s0_0 t321) = some (r1, r2) := by rw [if_neg (show ¬ (false = true) by decide)] at H; exact H
     clear H; have H := H1; clear H1; have H' := Aside0.mk H; clear H; go_wp2_with (first | ((with_reducible refine gate_callee (f := 64) rfl ?_); refine goesL_ (some 19) rfl rfl Tryd.func64 (by kernel_rfl) rfl #[.pointer (some ⟨g, 0, none⟩)] rfl (by (try simp only [List.map_toArray, List.map_cons, List.map_nil]); first | done | rfl | (simp only [List.length_drop, List.length_take]; rfl)) ?_; (with_reducible refine (spec_l92Entry.calls k1 g s0_0 x1001_1 t316 t317 t318 t321 w0 _ ?side1 ?side2 A7.out).mono ?_); (case side1 => repeat (first | (with_reducible first | exact HI0.out | apply IsS112.alloc | apply IsS112.drewN | apply IsS112.drew | apply IsS112.set_1) | exact HI0.out)); (case side2 => repeat (first | (with_reducible first | exact HB.out | apply below_alloc | apply pw_below_drewN | apply below_drew1 | refine below_set ?_ (IsS112.ge HI0.out)) | exact HB.out)); rintro e w14 ⟨v319, rfl, ho0, hi, hb, hk⟩; refine ⟨_, rfl, ?_⟩; have n0_ := Aside0.mk (Kd.N_mono (Kd.N_told (Kd.N_oldK (Kd.N_mono (ok := fun k_ => (((w.heap.size ≤ k_)) ∧ k_ ≠ g)) (by (with_reducible repeat (first | apply Kd.N_alloc | apply Kd.N_drewN | apply Kd.N_drew)); exact HO_3.out) (fun k_ hk_ => (⟨hk_, hk_.2⟩ : _ ∧ k_ ≠ g))) hk) (Kd.R_base ho0)) (fun _ h_ => h_.1)); have n1_ := Aside0.mk (Kd.R_lower (Kd.R_newM (M := fun k_ => (w.heap.size ≤ k_)) ho0 (keep_size (w := w) (g := g) (row := none) (by repeat (first | (with_reducible first | exact HK.out | apply KeepBut.set_ | apply keep_drewN | apply keep_drew | apply keep_alloc) | exact HK.out))) (fun k_ h_ => h_)) (keep_size (w := w) (g := g) (row := none) (by repeat (first | (with_reducible first | exact HK.out | apply KeepBut.set_ | apply keep_drewN | apply keep_drew | apply keep_alloc) | exact HK.out)))); have n2_ := Aside0.mk (KeepBut.trans (by repeat (first | (with_reducible first | exact HK.out | apply KeepBut.set_ | apply keep_drewN | apply keep_drew | apply keep_alloc) | exact HK.out)) hk (.inl rfl)); have n3_ := Aside0.mk (hb); have n4_ := Aside0.mk (hi); clear HO_3; clear HK; clear HB; clear HI0; have HO_3 := n0_; have HO320 := n1_; have HK := n2_; have HB := n3_; have HI0 := n4_; clear n0_ n1_ n2_ n3_ n4_; (try clear hb); (try clear hb2); (try clear hk); (try clear hi); (try clear ho0); obtain ⟨Ao15, co15, eo15⟩ := Kd.N_slice HO_3.out; subst eo15; obtain ⟨Ao16, co16, eo16⟩ := Kd.R_slice HO320.out; subst eo16) | ((with_reducible refine gate_callee (f := 44) rfl ?_); refine goesL_ (some 20) rfl rfl Tryd.func44 (by kernel_rfl) rfl #[.slice Ao15 x3_1.length co15, .agg #[.string t316, .int .i64 t317, .slice Ao16 t318.length co16]] rfl (by (try simp only [List.map_toArray, List.map_cons, List.map_nil]); first | done | rfl | (simp only [List.length_drop, List.length_take]; rfl)) ?_; (with_reducible refine (spec_TonaryAdd.calls k1 _ _ x3_1 t316 t317 _ _ t318 t322 false _ ?side1 ?side2 ?side3 ?side4 A8.out).mono ?_); (case side1 => repeat (first | exact (Kd.N_reads' HO_3.out).2.2 | (with_reducible refine Kd.C_alloc ?_ _) | (with_reducible refine Kd.C_drewN ?_ _) | (with_reducible refine Kd.C_drew ?_))); (case side2 => exact (Kd.N_reads' HO_3.out).2.1); (case side3 => repeat (first | exact (Kd.R_reads' HO320.out).2.2 | (with_reducible refine Kd.C_alloc ?_ _) | (with_reducible refine Kd.C_drewN ?_ _) | (with_reducible refine Kd.C_drew ?_))); (case side4 => exact (Kd.R_reads' HO320.out).2.1); rintro e w17 ⟨v323, rfl, ho0, hb⟩; refine ⟨_, rfl, ?_⟩; have n0_ := Aside0.mk (Kd.N_elder' (by (with_reducible repeat (first | apply Kd.N_alloc | apply Kd.N_drewN | apply Kd.N_drew)); exact HO_3.out) (by first | exact Kd.N_base ho0 | exact Kd.N_base (Kd.S_N ho0) | exact Kd.N_base (Kd.S_N (Kd.S_bound ho0))) hb); have n1_ := Aside0.mk (Kd.R_below (by (with_reducible repeat (first | apply Kd.R_alloc | apply Kd.R_drewN | apply Kd.R_drew)); exact HO320.out) hb); have n2_ := Aside0.mk (Kd.N_lower (Kd.N_mono (ok' := fun k_ => (w.heap.size ≤ k_) ∧ some k_ ≠ (.slice Ao15 x3_1.length co15 : Value).ownBlock ∧ some k_ ≠ (.slice Ao16 t318.length co16 : Value).ownBlock ∧ k_ ≠ g) (Kd.S_N (Kd.S_bound ho0)) (fun k_ hk_ => ⟨(Nat.le_trans (keep_size (w := w) (g := g) (row := none) (by repeat (first | (with_reducible first | exact HK.out | apply KeepBut.set_ | apply keep_drewN | apply keep_drew | apply keep_alloc) | exact HK.out))) hk_.2.1), (Kd.fresh' (Kd.N_lt (by (with_reducible repeat (first | apply Kd.N_alloc | apply Kd.N_drewN | apply Kd.N_drew)); exact HO_3.out)) k_ hk_.2.1), (Kd.fresh' (Kd.R_lt (by (with_reducible repeat (first | apply Kd.R_alloc | apply Kd.R_drewN | apply Kd.R_drew)); exact HO320.out)) k_ hk_.2.1), (IsS112.fresh (by repeat (first | (with_reducible first | exact HI0.out | apply IsS112.alloc | apply IsS112.drewN | apply IsS112.drew | apply IsS112.set_1) | exact HI0.out)) k_ hk_.2.1)⟩)) (keep_size (w := w) (g := g) (row := none) (by repeat (first | (with_reducible first | exact HK.out | apply KeepBut.set_ | apply keep_drewN | apply keep_drew | apply keep_alloc) | exact HK.out)))); have n3_ := Aside0.mk (IsS112.below (by repeat (first | (with_reducible first | exact HI0.out | apply IsS112.alloc | apply IsS112.drewN | apply IsS112.drew | apply IsS112.set_1) | exact HI0.out)) hb); have n4_ := Aside0.mk (KeepBut.trans (by repeat (first | (with_reducible first | exact HK.out | apply KeepBut.set_ | apply keep_drewN | apply keep_drew | apply keep_alloc) | exact HK.out)) (KeepBut.of_below hb g none) (.inl rfl)); have n5_ := Aside0.mk (below_step (by repeat (first | (with_reducible first | exact HB.out | apply below_alloc | apply pw_below_drewN | apply below_drew1 | refine below_set ?_ (IsS112.ge HI0.out)) | exact HB.out)) hb); clear HO_3; clear HO320; clear HI0; clear HK; clear HB; have HO_3 := n0_; have HO320 := n1_; have HO324 := n2_; have HI0 := n3_; have HK := n4_; have HB := n5_; clear n0_ n1_ n2_ n3_ n4_ n5_; (try clear hb); (try clear hb2); (try clear hk); (try clear hi); (try clear ho0)))
     go_roundg k1
     case measure => have := HK1.out; omega
     case rel => exact ⟨(x3_1), (wrap64 (x5_1 + 1)), (t321), (by first | rfl | (simp; done) | (simp [*]; done)), H', ⟨by have := HK1.out; omega⟩, ⟨by (with_reducible repeat (first | apply Kd.N_alloc | apply Kd.N_drewN | apply Kd.N_drew)); exact Kd.N_mono HO_3.out (fun _ hk => ⟨hk.1.1.1, hk.1.1.2⟩)⟩, ⟨by repeat (first | (with_reducible first | exact HI0.out | apply IsS112.alloc | apply IsS112.drewN | apply IsS112.drew | apply IsS112.set_1) | exact HI0.out)⟩, ⟨by repeat (first | (with_reducible first | exact HK.out | apply KeepBut.set_ | apply keep_drewN | apply keep_drew | apply keep_alloc) | exact HK.out)⟩, ⟨by repeat (first | (with_reducible first | exact HB.out | apply below_alloc | apply pw_below_drewN | apply below_drew1 | refine below_set ?_ (IsS112.ge HI0.out)) | exact HB.out)⟩⟩
   ·
    rw [if_neg c6] at H; have c6b0 : decide (x5_1 < t310) = false := decide_eq_false c6; clear c6; by_cases c18 : (x3_1.length : Int) > 1
    ·
     rw [if_pos c18] at H; have c18b0 : decide (1 < (x3_1.length : Int)) = true := decide_eq_true c18; have c18b1 : decide (1 < x3_1.length) = true := decide_eq_true (by omega); clear c18; replace H := Option.bind_eq_some_iff.mp H; obtain ⟨⟨t312, t313⟩, A190, H⟩ := H; replace H : (if t312 = 0 then (if 1 < (x3_1.length : Int) then (if 0 < (x3_1.length : Int) then (some ((x3_1.set (0 : Int).toNat (⟨(rd_T38 x3_1 1).f0, (rd_T38 x3_1 1).f1, (rd_T38 x3_1 1).f2⟩ : S38)), t313)) else (none)) else (none)) else (some (x3_1, t313))) = some (r1, r2) := H; have A19 := Aside0.mk A190; clear A190; by_cases c20 : t312 = 0
     ·
      rw [if_pos c20] at H; have c20b0 : (t312 == 0) = true := beq_iff_eq.mpr c20; have c20b1 : (t312 != 0) = false := bne_eq_false_iff_eq.mpr c20; clear c20; by_cases c21 : 1 < (x3_1.length : Int)
      ·
       rw [if_pos c21] at H; have c21b0 : decide (1 < (x3_1.length : Int)) = true := decide_eq_true c21; have c21b1 : decide (1 < x3_1.length) = true := decide_eq_true (by omega); clear c21; by_cases c22 : 0 < (x3_1.length : Int)
       ·
        rw [if_pos c22] at H; have c22b0 : decide (0 < (x3_1.length : Int)) = true := decide_eq_true c22; have c22b1 : decide (0 < x3_1.length) = true := decide_eq_true (by omega); clear c22; obtain ⟨y315, hy315⟩ : ∃ y_ : List (S38), y_ = (x3_1.set (0 : Int).toNat (⟨(rd_T38 x3_1 1).f0, (rd_T38 x3_1 1).f1, (rd_T38 x3_1 1).f2⟩ : S38)) := ⟨_, rfl⟩
        replace H : (some (y315, t313)) = some (r1, r2) := by first | (rw [hy315]; with_reducible exact H) | (have H2_ := (Option.bind_some _ _).symm.trans H; rw [hy315]; with_reducible exact H2_) | (have H2_ := (Option.bind_some _ _).symm.trans H; with_reducible exact H2_) | with_reducible exact H | (rw [hy315]; exact H) | exact H
        have Ny315 := Aside0.mk hy315; clear hy315; simp only [Option.some.injEq, Prod.mk.injEq] at H; obtain ⟨rfl, rfl⟩ := H; obtain ⟨Ao24, co24, eo24⟩ := Kd.N_slice HO_3.out; subst eo24; go_wp2_with (first | (go_at_call 63; (with_reducible refine (spec_l6Rd_pick.calls k1 g s0_0 x1001_1 30 t312 t313 w0 _ ?side1 ?side2 A19.out).mono ?_); (case side1 => repeat (first | (with_reducible first | exact HI0.out | apply IsS112.alloc | apply IsS112.drewN | apply IsS112.drew | apply IsS112.set_1) | exact HI0.out)); (case side2 => repeat (first | (with_reducible first | exact HB.out | apply below_alloc | apply pw_below_drewN | apply below_drew1 | refine below_set ?_ (IsS112.ge HI0.out)) | exact HB.out)); rintro e w25 ⟨rfl, hi, hb, hk⟩; have n0_ := Aside0.mk (Kd.N_mono (Kd.N_keep (Kd.N_mono (ok := fun k_ => (((w.heap.size ≤ k_)) ∧ k_ ≠ g)) (by (with_reducible repeat (first | apply Kd.N_alloc | apply Kd.N_drewN | apply Kd.N_drew)); exact HO_3.out) (fun k_ hk_ => (⟨hk_, hk_.2⟩ : _ ∧ k_ ≠ g))) hk (fun _ h => h.2)) (fun _ h => h.1)); have n1_ := Aside0.mk (KeepBut.trans (by repeat (first | (with_reducible first | exact HK.out | apply KeepBut.set_ | apply keep_drewN | apply keep_drew | apply keep_alloc) | exact HK.out)) hk (.inl rfl)); have n2_ := Aside0.mk (hb); have n3_ := Aside0.mk (hi); clear HO_3; clear HK; clear HB; clear HI0; have HO_3 := n0_; have HK := n1_; have HB := n2_; have HI0 := n3_; clear n0_ n1_ n2_ n3_; (try clear hb); (try clear hb2); (try clear hk); (try clear hi); have p314 : 0 ≤ (1 : Int) := (by omega); have q314 : 1 < (x3_1.length : Int) := of_decide_eq_true (by first | (with_reducible assumption) | assumption); obtain ⟨ad314, A314_2, c314_2, e314, hx314_0, hx314_1, hx314_2, hl314_2, hi314_2⟩ := at_T38 (Kd.N_reads' HO_3.out).2.2 1 p314 q314; cases e314; obtain ⟨ce314, hce314, hMe314, hcc314⟩ := Kd.N_get HO_3.out z38 1 p314 (by first | exact q314 | exact of_decide_eq_true (by first | (with_reducible assumption) | assumption) | (have e_ := (Kd.N_reads' HO_3.out).1; omega)); obtain ⟨ua314_2, uc314_2, rfl, ul314_2, ge314_2⟩ := k38_openF hMe314; have hv314_2 := hcc314 2 _ rfl; rw [add_field _ _ 2 (by omega)] at hv314_2; replace hv314_2 := Option.some.inj (hv314_2.symm.trans hx314_2); injection hv314_2 with hva_ hvn_ hvc_; rw [hva_] at ge314_2; rw [hvc_] at ul314_2; have HL314_2 := Aside0.mk (show Kd.V k90 90 _ w.heap.size _ _ ((rd_T38 x3_1 1).f2) from Kd.V_mk ul314_2 ge314_2); clear hva_ hvn_ hvc_ ge314_2 ul314_2; clear hcc314 hce314; (try simp only [show (1 : Int).toNat = 1 from rfl, Nat.reduceMul, Nat.reduceEqDiff, Go.Addr.add, ↓reduceIte] at hx314_0); (try simp only [show (1 : Int).toNat = 1 from rfl, Nat.reduceMul, Nat.reduceEqDiff, Go.Addr.add, ↓reduceIte] at hx314_1); (try simp only [show (1 : Int).toNat = 1 from rfl, Nat.reduceMul, Nat.reduceEqDiff, Go.Addr.add, ↓reduceIte] at hx314_2); have qi314 : (1 < x3_1.length) = True := eq_true (by omega); (try rw [show ((1 : Int)).toNat = 1 from rfl] at hx314_0); (try rw [show 1 * 3 = 3 from rfl] at hx314_0); (try rw [show ((1 : Int)).toNat = 1 from rfl] at hx314_1); (try rw [show 1 * 3 = 3 from rfl] at hx314_1); (try rw [show ((1 : Int)).toNat = 1 from rfl] at hx314_2); (try rw [show 1 * 3 = 3 from rfl] at hx314_2); have HR314_2 := Aside0.mk hi314_2; have HC314_2 := Aside0.mk hl314_2; clear hi314_2 hl314_2; replace p314 := eq_true p314; replace q314 := eq_true q314; have p23 : 0 ≤ (0 : Int) := (by omega); have q23 : (0 : Int) < ((x3_1.length : Int) : Int) := of_decide_eq_true (by first | (with_reducible assumption) | assumption); have qi23 : (0 < x3_1.length) = True := eq_true (by omega); obtain ⟨go23, co23, eo23, gb23, gl23, cl23, HG23⟩ := Kd.N_form HO_3.out (by omega); (first | cases eo23 | (injection eo23 with ea_ en_ ec_; (first | subst ea_ | (injection ea_ with ea_; subst ea_)); subst ec_; clear en_)); have GB23 := Aside0.mk gb23; have GG23 := Aside0.mk HG23; clear gb23 gl23 HG23; (first | simp only [add_plain] at hx314_0 | skip); (first | simp only [add_plain] at hx314_1 | skip); (first | simp only [add_plain] at hx314_2 | skip); obtain ⟨ce23, hcl23, hM23, hcc23, hfr23⟩ := Kd.N_elem HO_3.out z38 (0 : Int) p23 q23; obtain ⟨ua23_2, uc23_2, rfl, ul23_2, ge23_2⟩ := k38_openF hM23; have hx23_0 : w25.cell? ⟨go23, (0 : Int).toNat * 3, none⟩ = some (.string ((rd_T38 x3_1 0).f0)) := hcc23 0 _ rfl; have hx23_1 : w25.cell? ⟨go23, (0 : Int).toNat * 3 + 1, none⟩ = some (.int .i64 ((rd_T38 x3_1 0).f1)) := hcc23 1 _ rfl; have hx23_2 : w25.cell? ⟨go23, (0 : Int).toNat * 3 + 2, none⟩ = some (.slice ua23_2 ((rd_T38 x3_1 0).f2).length uc23_2) := hcc23 2 _ rfl; have hf23_0 : w25.frozen? ⟨go23, (0 : Int).toNat * 3, none⟩ = false := hfr23 0; have hf23_1 : w25.frozen? ⟨go23, (0 : Int).toNat * 3 + 1, none⟩ = false := hfr23 1; have hf23_2 : w25.frozen? ⟨go23, (0 : Int).toNat * 3 + 2, none⟩ = false := hfr23 2; clear hcl23 hcc23 hfr23 hM23; (try rw [show ((0 : Int)).toNat = 0 from rfl] at hx23_0); (try simp only [Nat.reduceMul, Nat.zero_mul, Nat.zero_add, Nat.reduceAdd] at hx23_0); (try rw [show ((0 : Int)).toNat = 0 from rfl] at hf23_0); (try simp only [Nat.reduceMul, Nat.zero_mul, Nat.zero_add, Nat.reduceAdd] at hf23_0); (try rw [show ((0 : Int)).toNat = 0 from rfl] at hx23_1); (try simp only [Nat.reduceMul, Nat.zero_mul, Nat.zero_add, Nat.reduceAdd] at hx23_1); (try rw [show ((0 : Int)).toNat = 0 from rfl] at hf23_1); (try simp only [Nat.reduceMul, Nat.zero_mul, Nat.zero_add, Nat.reduceAdd] at hf23_1); (try rw [show ((0 : Int)).toNat = 0 from rfl] at hx23_2); (try simp only [Nat.reduceMul, Nat.zero_mul, Nat.zero_add, Nat.reduceAdd] at hx23_2); (try rw [show ((0 : Int)).toNat = 0 from rfl] at hf23_2); (try simp only [Nat.reduceMul, Nat.zero_mul, Nat.zero_add, Nat.reduceAdd] at hf23_2); replace p23 := eq_true p23; replace q23 := eq_true q23; have HX26 := Aside0.mk (show Kd.N k38 38 w25 w.heap.size (fun k_ => (w.heap.size ≤ k_) ∧ k_ ≠ g) (.slice (some ⟨go23, 0, none⟩) x3_1.length co24) x3_1 from (by (with_reducible repeat (first | apply Kd.N_alloc | apply Kd.N_drewN | apply Kd.N_drew)); exact HO_3.out)); obtain ⟨ce26, hcl26, hM26, hcc26, hfr26⟩ := Kd.N_elem HX26.out z38 (0 : Int) (by omega) (by have h_ : (0 : Int) < ((x3_1.length : Int) : Int) := of_decide_eq_true (by first | (with_reducible assumption) | assumption); first | exact h_ | (have e_ := (Kd.N_reads' HO_3.out).1; omega) | simpa using h_); obtain ⟨ua26_2, uc26_2, rfl, ul26_2, ge26_2⟩ := k38_openF hM26; have HP26 := Kd.N_seg HX26.out (0 : Int) (by omega) (by have h_ : (0 : Int) < ((x3_1.length : Int) : Int) := of_decide_eq_true (by first | (with_reducible assumption) | assumption); first | exact h_ | (have e_ := (Kd.N_reads' HO_3.out).1; omega) | simpa using h_) (seg := [.string ((rd_T38 x3_1 1).f0), .int .i64 ((rd_T38 x3_1 1).f1), .slice A314_2 ((rd_T38 x3_1 1).f2).length c314_2]) (j := 0) hcl26 hcc26 (show 3 ≤ 3 from by decide) (x' := (⟨(rd_T38 x3_1 1).f0, (rd_T38 x3_1 1).f1, (rd_T38 x3_1 1).f2⟩ : S38)) (k38_mkF _ _ (⟨(rd_T38 x3_1 1).f0, (rd_T38 x3_1 1).f1, (rd_T38 x3_1 1).f2⟩ : S38) (Kd.V_reads' (Kd.V_mono (ok' := (fun k_ => ((fun k_ => (w.heap.size ≤ k_) ∧ k_ ≠ g)) k_ ∧ k_ ≠ go23)) (HL314_2.out) (fun k_ hk => ⟨⟨hk.1.1, hk.1.2⟩, fun e_ => (hk.2) (by rw [e_]; rfl)⟩))).2.1 (Kd.V_F (Kd.V_mono (ok' := (fun k_ => ((fun k_ => (w.heap.size ≤ k_) ∧ k_ ≠ g)) k_ ∧ k_ ≠ go23)) (HL314_2.out) (fun k_ hk => ⟨⟨hk.1.1, hk.1.2⟩, fun e_ => (hk.2) (by rw [e_]; rfl)⟩)))) (fun _ hk => hk); have hx26_0 := hcc26 0 _ rfl; (try simp only [show (k38).sz = 3 from rfl, Nat.mul_one, Nat.add_zero] at hx26_0); (try rw [show ((0 : Int)).toNat = 0 from rfl] at hx26_0); (try simp only [Nat.reduceMul, Nat.zero_mul, Nat.zero_add, Nat.reduceAdd] at hx26_0); have hf26_0 := hfr26 0; (try simp only [show (k38).sz = 3 from rfl, Nat.mul_one, Nat.add_zero] at hf26_0); (try rw [show ((0 : Int)).toNat = 0 from rfl] at hf26_0); (try simp only [Nat.reduceMul, Nat.zero_mul, Nat.zero_add, Nat.reduceAdd] at hf26_0); have hx26_1 := hcc26 1 _ rfl; (try simp only [show (k38).sz = 3 from rfl, Nat.mul_one, Nat.add_zero] at hx26_1); (try rw [show ((0 : Int)).toNat = 0 from rfl] at hx26_1); (try simp only [Nat.reduceMul, Nat.zero_mul, Nat.zero_add, Nat.reduceAdd] at hx26_1); have hf26_1 := hfr26 1; (try simp only [show (k38).sz = 3 from rfl, Nat.mul_one, Nat.add_zero] at hf26_1); (try rw [show ((0 : Int)).toNat = 0 from rfl] at hf26_1); (try simp only [Nat.reduceMul, Nat.zero_mul, Nat.zero_add, Nat.reduceAdd] at hf26_1); have hx26_2 := hcc26 2 _ rfl; (try simp only [show (k38).sz = 3 from rfl, Nat.mul_one, Nat.add_zero] at hx26_2); (try rw [show ((0 : Int)).toNat = 0 from rfl] at hx26_2); (try simp only [Nat.reduceMul, Nat.zero_mul, Nat.zero_add, Nat.reduceAdd] at hx26_2); have hf26_2 := hfr26 2; (try simp only [show (k38).sz = 3 from rfl, Nat.mul_one, Nat.add_zero] at hf26_2); (try rw [show ((0 : Int)).toNat = 0 from rfl] at hf26_2); (try simp only [Nat.reduceMul, Nat.zero_mul, Nat.zero_add, Nat.reduceAdd] at hf26_2); clear hcl26 hcc26 hfr26 hM26) | ((with_reducible refine gate_store (t := 38) (p := 37) rfl ?_); refine store_event (t := 38) (p := 37) (v := ?vo_w27) (w1 := (((w25.setCell ⟨go23, 0, none⟩ (.string ((rd_T38 x3_1 1).f0))).setCell ⟨go23, 1, none⟩ (.int .i64 ((rd_T38 x3_1 1).f1))).setCell ⟨go23, 2, none⟩ (.slice A314_2 ((rd_T38 x3_1 1).f2).length c314_2))) ?hg ?ho ?hn ?hr ?_; (case ho => rfl); (case hg => rfl); (case hn => rfl); (case hr => first | (go_simp; done) | (go_simp; rfl)); intro w27 hw; have hg : w25.grownBy w27 (some go23) := (by rw [hw]; exact HP26.2); have hp_ : Kd.N k38 38 w27 w.heap.size (fun k_ => (w.heap.size ≤ k_) ∧ k_ ≠ g) (.slice (some ⟨go23, 0, none⟩) x3_1.length co24) y315 := (by rw [hw, Ny315.out]; exact HP26.1); clear HP26; have n0_ := Aside0.mk (hp_); have n1_ := Aside0.mk (IsS112.grown (by repeat (first | (with_reducible first | exact HI0.out | apply IsS112.alloc | apply IsS112.drewN | apply IsS112.drew | apply IsS112.set_1) | exact HI0.out)) hg (IsS112.own_neN HI0.out HO_3.out (by decide))); have n2_ := Aside0.mk (Kd.V_afterv (v := (.slice (some ⟨go23, 0, none⟩) x3_1.length co24)) (v1 := (.slice (some ⟨go23, 0, none⟩) x3_1.length co24)) (ok := (fun k_ => (w.heap.size ≤ k_) ∧ k_ ≠ g)) (by (with_reducible repeat (first | apply Kd.V_alloc | apply Kd.V_drewN | apply Kd.V_drew)); exact HL314_2.out) hg (.inl rfl)); have n3_ := Aside0.mk ((by rw [hw]; exact below_set (below_set (below_set (HB.out) (Nat.le_trans HL.out GB23.out)) (Nat.le_trans HL.out GB23.out)) (Nat.le_trans HL.out GB23.out) : Below w0.heap.size w0 w27)); have n4_ := Aside0.mk (KeepBut.trans (by repeat (first | (with_reducible first | exact HK.out | apply KeepBut.set_ | apply keep_drewN | apply keep_drew | apply keep_alloc) | exact HK.out)) (KeepBut.of_grown hg g) (Kd.N_base2 HO_3.out)); clear HO_3; clear HI0; clear HL314_2; clear HB; clear HK; have HO_3 := n0_; have HI0 := n1_; have HL314_2 := n2_; have HB := n3_; have HK := n4_; clear n0_ n1_ n2_ n3_ n4_; clear hg hw hp_))
        go_ret
        exact ⟨_, by first | rfl | (simp [errW_none, errW_some] <;> rfl) | (simp [*, errW_none, errW_some] <;> rfl), by (with_reducible repeat (first | apply Kd.N_alloc | apply Kd.N_drewN | apply Kd.N_drew)); exact Kd.N_mono HO_3.out (fun _ hk => hk.1), by repeat (first | (with_reducible first | exact HI0.out | apply IsS112.alloc | apply IsS112.drewN | apply IsS112.drew | apply IsS112.set_1) | exact HI0.out), by repeat (first | (with_reducible first | exact HB.out | apply below_alloc | apply pw_below_drewN | apply below_drew1 | refine below_set ?_ (IsS112.ge HI0.out)) | exact HB.out), by repeat (first | (with_reducible first | exact HK.out | apply KeepBut.set_ | apply keep_drewN | apply keep_drew | apply keep_alloc) | exact HK.out)⟩
       ·
        rw [if_neg c22] at H; exact absurd H (by simp)
      ·
       rw [if_neg c21] at H; exact absurd H (by simp)
     ·
      rw [if_neg c20] at H; have c20b0 : (t312 == 0) = false := beq_eq_false_iff_ne.mpr c20; have c20b1 : (t312 != 0) = true := bne_iff_ne.mpr c20; simp only [Option.some.injEq, Prod.mk.injEq] at H; obtain ⟨rfl, rfl⟩ := H; obtain ⟨Ao28, co28, eo28⟩ := Kd.N_slice HO_3.out; subst eo28; go_wp2_with (first | (go_at_call 63; (with_reducible refine (spec_l6Rd_pick.calls k1 g s0_0 x1001_1 30 t312 t313 w0 _ ?side1 ?side2 A19.out).mono ?_); (case side1 => repeat (first | (with_reducible first | exact HI0.out | apply IsS112.alloc | apply IsS112.drewN | apply IsS112.drew | apply IsS112.set_1) | exact HI0.out)); (case side2 => repeat (first | (with_reducible first | exact HB.out | apply below_alloc | apply pw_below_drewN | apply below_drew1 | refine below_set ?_ (IsS112.ge HI0.out)) | exact HB.out)); rintro e w29 ⟨rfl, hi, hb, hk⟩; have n0_ := Aside0.mk (Kd.N_mono (Kd.N_keep (Kd.N_mono (ok := fun k_ => (((w.heap.size ≤ k_)) ∧ k_ ≠ g)) (by (with_reducible repeat (first | apply Kd.N_alloc | apply Kd.N_drewN | apply Kd.N_drew)); exact HO_3.out) (fun k_ hk_ => (⟨hk_, hk_.2⟩ : _ ∧ k_ ≠ g))) hk (fun _ h => h.2)) (fun _ h => h.1)); have n1_ := Aside0.mk (KeepBut.trans (by repeat (first | (with_reducible first | exact HK.out | apply KeepBut.set_ | apply keep_drewN | apply keep_drew | apply keep_alloc) | exact HK.out)) hk (.inl rfl)); have n2_ := Aside0.mk (hb); have n3_ := Aside0.mk (hi); clear HO_3; clear HK; clear HB; clear HI0; have HO_3 := n0_; have HK := n1_; have HB := n2_; have HI0 := n3_; clear n0_ n1_ n2_ n3_; (try clear hb); (try clear hb2); (try clear hk); (try clear hi)))
      go_ret
      exact ⟨_, by first | rfl | (simp [errW_none, errW_some] <;> rfl) | (simp [*, errW_none, errW_some] <;> rfl), by (with_reducible repeat (first | apply Kd.N_alloc | apply Kd.N_drewN | apply Kd.N_drew)); exact Kd.N_mono HO_3.out (fun _ hk => hk.1), by repeat (first | (with_reducible first | exact HI0.out | apply IsS112.alloc | apply IsS112.drewN | apply IsS112.drew | apply IsS112.set_1) | exact HI0.out), by repeat (first | (with_reducible first | exact HB.out | apply below_alloc | apply pw_below_drewN | apply below_drew1 | refine below_set ?_ (IsS112.ge HI0.out)) | exact HB.out), by repeat (first | (with_reducible first | exact HK.out | apply KeepBut.set_ | apply keep_drewN | apply keep_drew | apply keep_alloc) | exact HK.out)⟩
    ·
     rw [if_neg c18] at H; have c18b0 : decide (1 < (x3_1.length : Int)) = false := decide_eq_false c18; have c18b1 : decide (1 < x3_1.length) = false := decide_eq_false (by omega); clear c18; simp only [Option.some.injEq, Prod.mk.injEq] at H; obtain ⟨rfl, rfl⟩ := H; obtain ⟨Ao30, co30, eo30⟩ := Kd.N_slice HO_3.out; subst eo30; go_wp2; go_ret
     exact ⟨_, by first | rfl | (simp [errW_none, errW_some] <;> rfl) | (simp [*, errW_none, errW_some] <;> rfl), by (with_reducible repeat (first | apply Kd.N_alloc | apply Kd.N_drewN | apply Kd.N_drew)); exact Kd.N_mono HO_3.out (fun _ hk => hk.1), by repeat (first | (with_reducible first | exact HI0.out | apply IsS112.alloc | apply IsS112.drewN | apply IsS112.drew | apply IsS112.set_1) | exact HI0.out), by repeat (first | (with_reducible first | exact HB.out | apply below_alloc | apply pw_below_drewN | apply below_drew1 | refine below_set ?_ (IsS112.ge HI0.out)) | exact HB.out), by repeat (first | (with_reducible first | exact HK.out | apply KeepBut.set_ | apply keep_drewN | apply keep_drew | apply keep_alloc) | exact HK.out)⟩

end Go.Proofs.YtmacedbpdhkagaaDoor.PFnTonaryDrop
namespace Go.Proofs.YtmacedbpdhkagaaDoor.PFnTonaryDrop
open Go.RowKit Go.Proofs.YtmacedbpdhkagaaDoorW.PrintWords Go.Proofs.YtmacedbpdhkagaaDoorW.PrintLast Go.Proofs.YtmacedbpdhkagaaDoorW.PrintMore
attribute [local go_sem] max2_int min2_int max_two min_two max_three min_three max_four min_four   -- for this text's walks alone
set_option linter.unusedVariables false
set_option linter.unusedSimpArgs false

def spec_DrawTonaryDrop.j0 : Nat → List (S38) → Bool → List Int → Int → Option ((List (S38)) × Int × ByteArray)
 | 0, _, _, _, _ => none
 | k + 1, x6, x19, x329000, x329001 => if x19 = true then ((spec_l6Rd_pick.f k x329000 x329001 (x6.length : Int)).bind fun bt335 => (if 0 ≤ bt335.1 then (if bt335.1 < (x6.length : Int) then (some (x6, (rd_T38 x6 bt335.1).f1, (rd_T38 x6 bt335.1).f0)) else (none)) else (none))) else ((spec_l6Rd_pick.f k x329000 x329001 3).bind fun bt339 => ((spec_l6Rd_of.f k x329000 bt339.2 (([(⟨#[97]⟩ : ByteArray), (⟨#[122, 122]⟩ : ByteArray)] : List ByteArray))).bind fun bt344 => (some (x6, wrap64 (1 + bt339.1), bt344.1))))
def spec_DrawTonaryDrop.f (k : Nat) (l0 : List Int) : Option ((List (S38)) × Int × ByteArray) := (spec_l6Open.f l0).bind fun bt326 => ((spec_l92Tonary.f k bt326.1 bt326.2).bind fun bt329 => (if (bt329.1.length : Int) > 0 then ((spec_l6Rd_pick.f k bt326.1 bt329.2 4).bind fun bt333 => (spec_DrawTonaryDrop.j0 k bt329.1 (decide (bt333.1 > 0)) bt326.1 bt333.2)) else (spec_DrawTonaryDrop.j0 k bt329.1 false bt326.1 bt329.2)))
set_option maxHeartbeats 8000000 in
set_option maxRecDepth 100000 in
theorem spec_DrawTonaryDrop.calls (k : Nat) (A0 : Option Addr) (c0 : Nat) (l0 : List Int) (r1 : List (S38)) (r2 : Int) (r3 : ByteArray) (w : World) (hr0 : Kd.C (Kd.int .u8) w A0 l0.length l0) (hc0 : l0.length ≤ c0) (h : spec_DrawTonaryDrop.f k l0 = some (r1, r2, r3)) :
 Calls Tryd.prog 37 #[.slice A0 l0.length c0] w fun e w' => ∃ v0_ : Value, e = .returned (.tuple #[v0_, .int .i64 r2, .string r3]) ∧ Kd.N k38 38 w' w.heap.size (fun k_ => (w.heap.size ≤ k_)) v0_ r1 ∧ Below w.heap.size w w' := by
 have hu38 := Tryd.underlying38; have HR0 := Aside0.mk hr0; have HC0 := Aside0.mk hc0; clear hr0 hc0; have HB := Aside0.mk (Below.refl w.heap.size w); have H : ((spec_l6Open.f l0).bind fun bt326 => ((spec_l92Tonary.f k bt326.1 bt326.2).bind fun bt329 => (if (bt329.1.length : Int) > 0 then ((spec_l6Rd_pick.f k bt326.1 bt329.2 4).bind fun bt333 => (spec_DrawTonaryDrop.j0 k bt329.1 (decide (bt333.1 > 0)) bt326.1 bt333.2)) else (spec_DrawTonaryDrop.j0 k bt329.1 false bt326.1 bt329.2)))) = some (r1, r2, r3) := h; clear h; replace H := Option.bind_eq_some_iff.mp H; obtain ⟨⟨t326, t327⟩, A20, H⟩ := H; replace H : ((spec_l92Tonary.f k t326 t327).bind fun bt329 => (if (bt329.1.length : Int) > 0 then ((spec_l6Rd_pick.f k t326 bt329.2 4).bind fun bt333 => (spec_DrawTonaryDrop.j0 k bt329.1 (decide (bt333.1 > 0)) t326 bt333.2)) else (spec_DrawTonaryDrop.j0 k bt329.1 false t326 bt329.2))) = some (r1, r2, r3) := H; have A2 := Aside0.mk A20; clear A20; replace H := Option.bind_eq_some_iff.mp H; obtain ⟨⟨t329, t332⟩, A30, H⟩ := H; replace H : (if (t329.length : Int) > 0 then ((spec_l6Rd_pick.f k t326 t332 4).bind fun bt333 => (spec_DrawTonaryDrop.j0 k t329 (decide (bt333.1 > 0)) t326 bt333.2)) else (spec_DrawTonaryDrop.j0 k t329 false t326 t332)) = some (r1, r2, r3) := H; have A3 := Aside0.mk A30; clear A30; have HC4 := Aside0.mk H; clear H; go_enter Tryd.func37, Tryd.ntmps37
 go_upto_region 3 with (first | (go_at_call 61; (with_reducible refine (spec_l6Open.calls _ _ l0 t326 t327 w _ ?side1 ?side2 ?side3 A2.out).mono ?_); (case side1 => repeat (first | (with_reducible first | exact HB.out | apply below_alloc | apply pw_below_drewN | apply below_drew1) | exact HB.out)); (case side2 => exact HR0.out); (case side3 => exact HC0.out); rintro e w5 ⟨g328, rfl, hi, hb, hb2⟩; have n0_ := Aside0.mk (hb); have n1_ := Aside0.mk (hi); clear HB; have HB := n0_; have HI328 := n1_; clear n0_ n1_; (try clear hb); (try clear hb2); (try clear hk); (try clear hi)) | (go_at_call 62; (with_reducible refine (spec_l92Tonary.calls k g328 t326 t327 t329 t332 w _ ?side1 ?side2 A3.out).mono ?_); (case side1 => repeat (first | (with_reducible first | exact HI328.out | apply IsS112.alloc | apply IsS112.drewN | apply IsS112.drew | apply IsS112.set_1) | exact HI328.out)); (case side2 => repeat (first | (with_reducible first | exact HB.out | apply below_alloc | apply pw_below_drewN | apply below_drew1 | refine below_set ?_ (IsS112.ge HI328.out)) | exact HB.out)); rintro e w6 ⟨v330, rfl, ho0, hi, hb, hk⟩; have n0_ := Aside0.mk (Kd.N_lower (Kd.N_mono (ok' := fun k_ => (w.heap.size ≤ k_) ∧ k_ ≠ g328) ho0 (fun k_ hk_ => ⟨(Nat.le_trans (below_size (by repeat (first | (with_reducible first | exact HB.out | apply below_alloc | apply pw_below_drewN | apply below_drew1 | refine below_set ?_ (IsS112.ge HI328.out)) | exact HB.out))) hk_), (IsS112.fresh (by repeat (first | (with_reducible first | exact HI328.out | apply IsS112.alloc | apply IsS112.drewN | apply IsS112.drew | apply IsS112.set_1) | exact HI328.out)) k_ hk_)⟩)) (below_size (by repeat (first | (with_reducible first | exact HB.out | apply below_alloc | apply pw_below_drewN | apply below_drew1 | refine below_set ?_ (IsS112.ge HI328.out)) | exact HB.out)))); have n1_ := Aside0.mk (hb); have n2_ := Aside0.mk (hi); clear HB; clear HI328; have HO331 := n0_; have HB := n1_; have HI328 := n2_; clear n0_ n1_ n2_; (try clear hb); (try clear hb2); (try clear hk); (try clear hi); (try clear ho0)))
 repeat (go_quiet (first | (go_at_call 61; (with_reducible refine (spec_l6Open.calls _ _ l0 t326 t327 w _ ?side1 ?side2 ?side3 A2.out).mono ?_); (case side1 => repeat (first | (with_reducible first | exact HB.out | apply below_alloc | apply pw_below_drewN | apply below_drew1) | exact HB.out)); (case side2 => exact HR0.out); (case side3 => exact HC0.out); rintro e w5 ⟨g328, rfl, hi, hb, hb2⟩; have n0_ := Aside0.mk (hb); have n1_ := Aside0.mk (hi); clear HB; have HB := n0_; have HI328 := n1_; clear n0_ n1_; (try clear hb); (try clear hb2); (try clear hk); (try clear hi)) | (go_at_call 62; (with_reducible refine (spec_l92Tonary.calls k g328 t326 t327 t329 t332 w _ ?side1 ?side2 A3.out).mono ?_); (case side1 => repeat (first | (with_reducible first | exact HI328.out | apply IsS112.alloc | apply IsS112.drewN | apply IsS112.drew | apply IsS112.set_1) | exact HI328.out)); (case side2 => repeat (first | (with_reducible first | exact HB.out | apply below_alloc | apply pw_below_drewN | apply below_drew1 | refine below_set ?_ (IsS112.ge HI328.out)) | exact HB.out)); rintro e w6 ⟨v330, rfl, ho0, hi, hb, hk⟩; have n0_ := Aside0.mk (Kd.N_lower (Kd.N_mono (ok' := fun k_ => (w.heap.size ≤ k_) ∧ k_ ≠ g328) ho0 (fun k_ hk_ => ⟨(Nat.le_trans (below_size (by repeat (first | (with_reducible first | exact HB.out | apply below_alloc | apply pw_below_drewN | apply below_drew1 | refine below_set ?_ (IsS112.ge HI328.out)) | exact HB.out))) hk_), (IsS112.fresh (by repeat (first | (with_reducible first | exact HI328.out | apply IsS112.alloc | apply IsS112.drewN | apply IsS112.drew | apply IsS112.set_1) | exact HI328.out)) k_ hk_)⟩)) (below_size (by repeat (first | (with_reducible first | exact HB.out | apply below_alloc | apply pw_below_drewN | apply below_drew1 | refine below_set ?_ (IsS112.ge HI328.out)) | exact HB.out)))); have n1_ := Aside0.mk (hb); have n2_ := Aside0.mk (hi); clear HB; clear HI328; have HO331 := n0_; have HB := n1_; have HI328 := n2_; clear n0_ n1_ n2_; (try clear hb); (try clear hb2); (try clear hk); (try clear hi); (try clear ho0))); go_upto_region 3 with (first | (go_at_call 61; (with_reducible refine (spec_l6Open.calls _ _ l0 t326 t327 w _ ?side1 ?side2 ?side3 A2.out).mono ?_); (case side1 => repeat (first | (with_reducible first | exact HB.out | apply below_alloc | apply pw_below_drewN | apply below_drew1) | exact HB.out)); (case side2 => exact HR0.out); (case side3 => exact HC0.out); rintro e w5 ⟨g328, rfl, hi, hb, hb2⟩; have n0_ := Aside0.mk (hb); have n1_ := Aside0.mk (hi); clear HB; have HB := n0_; have HI328 := n1_; clear n0_ n1_; (try clear hb); (try clear hb2); (try clear hk); (try clear hi)) | (go_at_call 62; (with_reducible refine (spec_l92Tonary.calls k g328 t326 t327 t329 t332 w _ ?side1 ?side2 A3.out).mono ?_); (case side1 => repeat (first | (with_reducible first | exact HI328.out | apply IsS112.alloc | apply IsS112.drewN | apply IsS112.drew | apply IsS112.set_1) | exact HI328.out)); (case side2 => repeat (first | (with_reducible first | exact HB.out | apply below_alloc | apply pw_below_drewN | apply below_drew1 | refine below_set ?_ (IsS112.ge HI328.out)) | exact HB.out)); rintro e w6 ⟨v330, rfl, ho0, hi, hb, hk⟩; have n0_ := Aside0.mk (Kd.N_lower (Kd.N_mono (ok' := fun k_ => (w.heap.size ≤ k_) ∧ k_ ≠ g328) ho0 (fun k_ hk_ => ⟨(Nat.le_trans (below_size (by repeat (first | (with_reducible first | exact HB.out | apply below_alloc | apply pw_below_drewN | apply below_drew1 | refine below_set ?_ (IsS112.ge HI328.out)) | exact HB.out))) hk_), (IsS112.fresh (by repeat (first | (with_reducible first | exact HI328.out | apply IsS112.alloc | apply IsS112.drewN | apply IsS112.drew | apply IsS112.set_1) | exact HI328.out)) k_ hk_)⟩)) (below_size (by repeat (first | (with_reducible first | exact HB.out | apply below_alloc | apply pw_below_drewN | apply below_drew1 | refine below_set ?_ (IsS112.ge HI328.out)) | exact HB.out)))); have n1_ := Aside0.mk (hb); have n2_ := Aside0.mk (hi); clear HB; clear HI328; have HO331 := n0_; have HB := n1_; have HI328 := n2_; clear n0_ n1_ n2_; (try clear hb); (try clear hb2); (try clear hk); (try clear hi); (try clear ho0))))
 (try simp only [Act.put, List.setIfInBounds_toArray, List.set_cons_zero, List.set_cons_succ])
 go_cut [19] (fun v19 wc => ∃ (kq : Nat) (x19_3 : Bool) (x329001_3 : Int), v19 = .bool x19_3 ∧ Aside0 (spec_DrawTonaryDrop.j0 kq t329 x19_3 t326 x329001_3 = some (r1, r2, r3)) ∧ Aside0 (kq ≤ k) ∧ Aside0 (Kd.N k38 38 wc w.heap.size (fun k_ => (w.heap.size ≤ k_) ∧ k_ ≠ g328) v330 t329) ∧ Aside0 (IsS112 w wc g328 t326 x329001_3) ∧ Aside0 (Below w.heap.size w wc))
 case first =>
  have H := HC4.out; clear HC4; by_cases c7 : (t329.length : Int) > 0
  ·
   rw [if_pos c7] at H; have c7b0 : decide (0 < (t329.length : Int)) = true := decide_eq_true c7; have c7b1 : decide (0 < t329.length) = true := decide_eq_true (by omega); clear c7; (first | rw [c7b0] | (simp only [i64_w, i32_w]; rw [c7b0]) | skip)
   replace H := Option.bind_eq_some_iff.mp H; obtain ⟨⟨t333, t334⟩, A80, H⟩ := H; replace H : (spec_DrawTonaryDrop.j0 k t329 (decide (t333 > 0)) t326 t334) = some (r1, r2, r3) := H; have A8 := Aside0.mk A80; clear A80; have H' := Aside0.mk H; clear H; obtain ⟨Ao9, co9, eo9⟩ := Kd.N_slice HO331.out; subst eo9; go_wp2_with (first | (go_at_call 63; (with_reducible refine (spec_l6Rd_pick.calls k g328 t326 t332 4 t333 t334 w _ ?side1 ?side2 A8.out).mono ?_); (case side1 => repeat (first | (with_reducible first | exact HI328.out | apply IsS112.alloc | apply IsS112.drewN | apply IsS112.drew | apply IsS112.set_1) | exact HI328.out)); (case side2 => repeat (first | (with_reducible first | exact HB.out | apply below_alloc | apply pw_below_drewN | apply below_drew1 | refine below_set ?_ (IsS112.ge HI328.out)) | exact HB.out)); rintro e w10 ⟨rfl, hi, hb, hk⟩; have n0_ := Aside0.mk (Kd.N_mono (Kd.N_keep (Kd.N_mono (ok := fun k_ => (((w.heap.size ≤ k_)) ∧ k_ ≠ g328)) (by (with_reducible repeat (first | apply Kd.N_alloc | apply Kd.N_drewN | apply Kd.N_drew)); exact HO331.out) (fun k_ hk_ => (⟨hk_, hk_.2⟩ : _ ∧ k_ ≠ g328))) hk (fun _ h => h.2)) (fun _ h => h.1)); have n1_ := Aside0.mk (hb); have n2_ := Aside0.mk (hi); clear HO331; clear HB; clear HI328; have HO331 := n0_; have HB := n1_; have HI328 := n2_; clear n0_ n1_ n2_; (try clear hb); (try clear hb2); (try clear hk); (try clear hi)))
   repeat (go_quiet (first | (go_at_call 63; (with_reducible refine (spec_l6Rd_pick.calls k g328 t326 t332 4 t333 t334 w _ ?side1 ?side2 A8.out).mono ?_); (case side1 => repeat (first | (with_reducible first | exact HI328.out | apply IsS112.alloc | apply IsS112.drewN | apply IsS112.drew | apply IsS112.set_1) | exact HI328.out)); (case side2 => repeat (first | (with_reducible first | exact HB.out | apply below_alloc | apply pw_below_drewN | apply below_drew1 | refine below_set ?_ (IsS112.ge HI328.out)) | exact HB.out)); rintro e w10 ⟨rfl, hi, hb, hk⟩; have n0_ := Aside0.mk (Kd.N_mono (Kd.N_keep (Kd.N_mono (ok := fun k_ => (((w.heap.size ≤ k_)) ∧ k_ ≠ g328)) (by (with_reducible repeat (first | apply Kd.N_alloc | apply Kd.N_drewN | apply Kd.N_drew)); exact HO331.out) (fun k_ hk_ => (⟨hk_, hk_.2⟩ : _ ∧ k_ ≠ g328))) hk (fun _ h => h.2)) (fun _ h => h.1)); have n1_ := Aside0.mk (hb); have n2_ := Aside0.mk (hi); clear HO331; clear HB; clear HI328; have HO331 := n0_; have HB := n1_; have HI328 := n2_; clear n0_ n1_ n2_; (try clear hb); (try clear hb2); (try clear hk); (try clear hi))); try go_wp2_with (first | (go_at_call 63; (with_reducible refine (spec_l6Rd_pick.calls k g328 t326 t332 4 t333 t334 w _ ?side1 ?side2 A8.out).mono ?_); (case side1 => repeat (first | (with_reducible first | exact HI328.out | apply IsS112.alloc | apply IsS112.drewN | apply IsS112.drew | apply IsS112.set_1) | exact HI328.out)); (case side2 => repeat (first | (with_reducible first | exact HB.out | apply below_alloc | apply pw_below_drewN | apply below_drew1 | refine below_set ?_ (IsS112.ge HI328.out)) | exact HB.out)); rintro e w10 ⟨rfl, hi, hb, hk⟩; have n0_ := Aside0.mk (Kd.N_mono (Kd.N_keep (Kd.N_mono (ok := fun k_ => (((w.heap.size ≤ k_)) ∧ k_ ≠ g328)) (by (with_reducible repeat (first | apply Kd.N_alloc | apply Kd.N_drewN | apply Kd.N_drew)); exact HO331.out) (fun k_ hk_ => (⟨hk_, hk_.2⟩ : _ ∧ k_ ≠ g328))) hk (fun _ h => h.2)) (fun _ h => h.1)); have n1_ := Aside0.mk (hb); have n2_ := Aside0.mk (hi); clear HO331; clear HB; clear HI328; have HO331 := n0_; have HB := n1_; have HI328 := n2_; clear n0_ n1_ n2_; (try clear hb); (try clear hb2); (try clear hk); (try clear hi))))
   go_meet
   case rel => exact ⟨_, (decide (t333 > 0)), (t334), (by first | rfl | (simp; done) | (simp [*]; done)), H', ⟨by first | omega | exact Nat.le_refl _⟩, ⟨by (with_reducible repeat (first | apply Kd.N_alloc | apply Kd.N_drewN | apply Kd.N_drew)); exact HO331.out⟩, ⟨by repeat (first | (with_reducible first | exact HI328.out | apply IsS112.alloc | apply IsS112.drewN | apply IsS112.drew | apply IsS112.set_1) | exact HI328.out)⟩, ⟨by repeat (first | (with_reducible first | exact HB.out | apply below_alloc | apply pw_below_drewN | apply below_drew1 | refine below_set ?_ (IsS112.ge HI328.out)) | exact HB.out)⟩⟩
  ·
   rw [if_neg c7] at H; have c7b0 : decide (0 < (t329.length : Int)) = false := decide_eq_false c7; have c7b1 : decide (0 < t329.length) = false := decide_eq_false (by omega); clear c7; (first | rw [c7b0] | (simp only [i64_w, i32_w]; rw [c7b0]) | skip)
   have H' := Aside0.mk H; clear H; obtain ⟨Ao11, co11, eo11⟩ := Kd.N_slice HO331.out; subst eo11; go_wp2; repeat (go_quiet (fail); try go_wp2)
   go_meet
   case rel => exact ⟨_, (false), (t332), (by first | rfl | (simp; done) | (simp [*]; done)), H', ⟨by first | omega | exact Nat.le_refl _⟩, ⟨by (with_reducible repeat (first | apply Kd.N_alloc | apply Kd.N_drewN | apply Kd.N_drew)); exact HO331.out⟩, ⟨by repeat (first | (with_reducible first | exact HI328.out | apply IsS112.alloc | apply IsS112.drewN | apply IsS112.drew | apply IsS112.set_1) | exact HI328.out)⟩, ⟨by repeat (first | (with_reducible first | exact HB.out | apply below_alloc | apply pw_below_drewN | apply below_drew1 | refine below_set ?_ (IsS112.ge HI328.out)) | exact HB.out)⟩⟩
 case rest =>
  clear HC4; try clear p2
  try clear c3
  try clear c7
  try clear c7b0
  try clear c7b1
  obtain ⟨kq, x19_3, x329001_3, rfl, HA, HJ3, HO_6, HI328, HB⟩ := hcut; cases kq with
  | zero => exact absurd HA.out (by simp [spec_DrawTonaryDrop.j0])
  | succ kj3 =>
   have H := HA.out; clear HA; simp only [spec_DrawTonaryDrop.j0] at H; by_cases c12 : x19_3 = true
   ·
    subst c12; have H1 : ((spec_l6Rd_pick.f kj3 t326 x329001_3 (t329.length : Int)).bind fun bt335 => (if 0 ≤ bt335.1 then (if bt335.1 < (t329.length : Int) then (some (t329, (rd_T38 t329 bt335.1).f1, (rd_T38 t329 bt335.1).f0)) else (none)) else (none))) = some (r1, r2, r3) := by rw [if_pos rfl] at H; exact H
    clear H; have H := H1; clear H1; replace H := Option.bind_eq_some_iff.mp H; obtain ⟨⟨t335, t336⟩, A130, H⟩ := H; replace H : (if 0 ≤ t335 then (if t335 < (t329.length : Int) then (some (t329, (rd_T38 t329 t335).f1, (rd_T38 t329 t335).f0)) else (none)) else (none)) = some (r1, r2, r3) := H; have A13 := Aside0.mk A130; clear A130; by_cases c14 : 0 ≤ t335
    ·
     rw [if_pos c14] at H; have c14b0 : decide (0 ≤ t335) = true := decide_eq_true c14; clear c14; by_cases c15 : t335 < (t329.length : Int)
     ·
      rw [if_pos c15] at H; have c15b0 : decide (t335 < (t329.length : Int)) = true := decide_eq_true c15; clear c15; simp only [Option.some.injEq, Prod.mk.injEq] at H; obtain ⟨rfl, rfl, rfl⟩ := H; obtain ⟨Ao16, co16, eo16⟩ := Kd.N_slice HO_6.out; subst eo16; go_wp2_with (first | (go_at_call 63; (with_reducible refine (spec_l6Rd_pick.calls kj3 g328 t326 x329001_3 (t329.length : Int) t335 t336 w _ ?side1 ?side2 A13.out).mono ?_); (case side1 => repeat (first | (with_reducible first | exact HI328.out | apply IsS112.alloc | apply IsS112.drewN | apply IsS112.drew | apply IsS112.set_1) | exact HI328.out)); (case side2 => repeat (first | (with_reducible first | exact HB.out | apply below_alloc | apply pw_below_drewN | apply below_drew1 | refine below_set ?_ (IsS112.ge HI328.out)) | exact HB.out)); rintro e w17 ⟨rfl, hi, hb, hk⟩; have n0_ := Aside0.mk (Kd.N_mono (Kd.N_keep (Kd.N_mono (ok := fun k_ => (((w.heap.size ≤ k_)) ∧ k_ ≠ g328)) (by (with_reducible repeat (first | apply Kd.N_alloc | apply Kd.N_drewN | apply Kd.N_drew)); exact HO_6.out) (fun k_ hk_ => (⟨hk_, hk_.2⟩ : _ ∧ k_ ≠ g328))) hk (fun _ h => h.2)) (fun _ h => h.1)); have n1_ := Aside0.mk (hb); have n2_ := Aside0.mk (hi); clear HO_6; clear HB; clear HI328; have HO_6 := n0_; have HB := n1_; have HI328 := n2_; clear n0_ n1_ n2_; (try clear hb); (try clear hb2); (try clear hk); (try clear hi); have p337 : 0 ≤ (t335 : Int) := of_decide_eq_true (by first | (with_reducible assumption) | assumption); have q337 : t335 < (t329.length : Int) := of_decide_eq_true (by first | (with_reducible assumption) | assumption); obtain ⟨ad337, A337_2, c337_2, e337, hx337_0, hx337_1, hx337_2, hl337_2, hi337_2⟩ := at_T38 (Kd.N_reads' HO_6.out).2.2 t335 p337 q337; cases e337; obtain ⟨ce337, hce337, hMe337, hcc337⟩ := Kd.N_get HO_6.out z38 t335 p337 (by first | exact q337 | exact of_decide_eq_true (by first | (with_reducible assumption) | assumption) | (have e_ := (Kd.N_reads' HO_6.out).1; omega)); obtain ⟨ua337_2, uc337_2, rfl, ul337_2, ge337_2⟩ := k38_openF hMe337; have hv337_2 := hcc337 2 _ rfl; rw [add_field _ _ 2 (by omega)] at hv337_2; replace hv337_2 := Option.some.inj (hv337_2.symm.trans hx337_2); injection hv337_2 with hva_ hvn_ hvc_; rw [hva_] at ge337_2; rw [hvc_] at ul337_2; have HL337_2 := Aside0.mk (show Kd.V k90 90 _ w.heap.size _ _ ((rd_T38 t329 t335).f2) from Kd.V_mk ul337_2 ge337_2); clear hva_ hvn_ hvc_ ge337_2 ul337_2; clear hcc337 hce337; have HR337_2 := Aside0.mk hi337_2; have HC337_2 := Aside0.mk hl337_2; clear hi337_2 hl337_2; replace p337 := eq_true p337; replace q337 := eq_true q337) | ((with_reducible refine gate_dst (N := 7) rfl ?_); refine box_event ?hg (N := 7) ?hd (cs := #[.string (⟨#[]⟩ : ByteArray), .int .i64 0, .slice none 0 0]) (t := 38) ?hr ?_; (case hd => rfl); (case hg => rfl); (case hr => first | (go_simp; done) | (go_simp; rfl)); intro gb338 hg w18 hbox hb; have n0_ := Aside0.mk (Kd.N_below (Kd.N_elderB (by (with_reducible repeat (first | apply Kd.N_alloc | apply Kd.N_drewN | apply Kd.N_drew)); exact HO_6.out) gb338 (Nat.le_of_eq hg.symm)) hb); have n1_ := Aside0.mk (Kd.V_below (Kd.V_elderB (by (with_reducible repeat (first | apply Kd.V_alloc | apply Kd.V_drewN | apply Kd.V_drew)); exact HL337_2.out) gb338 (Nat.le_of_eq hg.symm)) hb); have n2_ := Aside0.mk (IsS112.below (by repeat (first | (with_reducible first | exact HI328.out | apply IsS112.alloc | apply IsS112.drewN | apply IsS112.drew | apply IsS112.set_1) | exact HI328.out)) hb); have n3_ := Aside0.mk (Kd.C_below (by repeat (first | (with_reducible exact HR337_2.out) | (with_reducible refine Kd.C_alloc ?_ _) | (with_reducible refine Kd.C_drewN ?_ _) | (with_reducible refine Kd.C_drew ?_) | exact HR337_2.out)) hb); have n4_ := Aside0.mk (below_step (by repeat (first | (with_reducible first | exact HB.out | apply below_alloc | apply pw_below_drewN | apply below_drew1 | refine below_set ?_ (IsS112.ge HI328.out)) | exact HB.out)) hb); have n5_ := Aside0.mk (hbox); have n6_ := Aside0.mk ((by rw [hg]; exact (below_size (by repeat (first | (with_reducible first | exact HB.out | apply below_alloc | apply pw_below_drewN | apply below_drew1 | refine below_set ?_ (IsS112.ge HI328.out)) | exact HB.out))) : w.heap.size ≤ gb338)); have n7_ := Aside0.mk ((by rw [hg]; exact (below_size (by repeat (first | (with_reducible first | exact HB.out | apply below_alloc | apply pw_below_drewN | apply below_drew1 | refine below_set ?_ (IsS112.ge HI328.out)) | exact HB.out))) : w.heap.size ≤ gb338)); have n8_ := Aside0.mk ((by rw [hg]; exact Nat.ne_of_lt (IsS112.lt (show IsS112 w _ g328 t326 t336 from by repeat (first | (with_reducible first | exact HI328.out | apply IsS112.alloc | apply IsS112.drewN | apply IsS112.drew | apply IsS112.set_1) | exact HI328.out))) : g328 ≠ gb338)); have n9_ := Aside0.mk ((by rw [hg]; exact Nat.ne_of_gt (IsS112.lt (show IsS112 w _ g328 t326 t336 from by repeat (first | (with_reducible first | exact HI328.out | apply IsS112.alloc | apply IsS112.drewN | apply IsS112.drew | apply IsS112.set_1) | exact HI328.out))) : gb338 ≠ g328)); clear HO_6; clear HL337_2; clear HI328; clear HR337_2; clear HB; have HO_6 := n0_; have HL337_2 := n1_; have HI328 := n2_; have HR337_2 := n3_; have HB := n4_; have BK338 := n5_; have GW338 := n6_; have GE338 := n7_; have NB328_338 := n8_; have NB338_328 := n9_; clear n0_ n1_ n2_ n3_ n4_ n5_ n6_ n7_ n8_ n9_; clear hb hbox hg; have hnb19 := NB338_328.out; have hnc19 := NB328_338.out; have hcz20_0 : w18.cell? ⟨gb338, 0, none⟩ = some (.string (⟨#[]⟩ : ByteArray)) := (blk_cell BK338.out 0).trans rfl; have hcz20_1 : w18.cell? ⟨gb338, 1, none⟩ = some (.int .i64 0) := (blk_cell BK338.out 1).trans rfl; have hcz20_2 : w18.cell? ⟨gb338, 2, none⟩ = some (.slice none 0 0) := (blk_cell BK338.out 2).trans rfl; have hfz20_0 := blk_frozen BK338.out 0; have hfz20_1 := blk_frozen BK338.out 1; have hfz20_2 := blk_frozen BK338.out 2))
      repeat (go_quiet (first | (go_at_call 63; (with_reducible refine (spec_l6Rd_pick.calls kj3 g328 t326 x329001_3 (t329.length : Int) t335 t336 w _ ?side1 ?side2 A13.out).mono ?_); (case side1 => repeat (first | (with_reducible first | exact HI328.out | apply IsS112.alloc | apply IsS112.drewN | apply IsS112.drew | apply IsS112.set_1) | exact HI328.out)); (case side2 => repeat (first | (with_reducible first | exact HB.out | apply below_alloc | apply pw_below_drewN | apply below_drew1 | refine below_set ?_ (IsS112.ge HI328.out)) | exact HB.out)); rintro e w17 ⟨rfl, hi, hb, hk⟩; have n0_ := Aside0.mk (Kd.N_mono (Kd.N_keep (Kd.N_mono (ok := fun k_ => (((w.heap.size ≤ k_)) ∧ k_ ≠ g328)) (by (with_reducible repeat (first | apply Kd.N_alloc | apply Kd.N_drewN | apply Kd.N_drew)); exact HO_6.out) (fun k_ hk_ => (⟨hk_, hk_.2⟩ : _ ∧ k_ ≠ g328))) hk (fun _ h => h.2)) (fun _ h => h.1)); have n1_ := Aside0.mk (hb); have n2_ := Aside0.mk (hi); clear HO_6; clear HB; clear HI328; have HO_6 := n0_; have HB := n1_; have HI328 := n2_; clear n0_ n1_ n2_; (try clear hb); (try clear hb2); (try clear hk); (try clear hi); have p337 : 0 ≤ (t335 : Int) := of_decide_eq_true (by first | (with_reducible assumption) | assumption); have q337 : t335 < (t329.length : Int) := of_decide_eq_true (by first | (with_reducible assumption) | assumption); obtain ⟨ad337, A337_2, c337_2, e337, hx337_0, hx337_1, hx337_2, hl337_2, hi337_2⟩ := at_T38 (Kd.N_reads' HO_6.out).2.2 t335 p337 q337; cases e337; obtain ⟨ce337, hce337, hMe337, hcc337⟩ := Kd.N_get HO_6.out z38 t335 p337 (by first | exact q337 | exact of_decide_eq_true (by first | (with_reducible assumption) | assumption) | (have e_ := (Kd.N_reads' HO_6.out).1; omega)); obtain ⟨ua337_2, uc337_2, rfl, ul337_2, ge337_2⟩ := k38_openF hMe337; have hv337_2 := hcc337 2 _ rfl; rw [add_field _ _ 2 (by omega)] at hv337_2; replace hv337_2 := Option.some.inj (hv337_2.symm.trans hx337_2); injection hv337_2 with hva_ hvn_ hvc_; rw [hva_] at ge337_2; rw [hvc_] at ul337_2; have HL337_2 := Aside0.mk (show Kd.V k90 90 _ w.heap.size _ _ ((rd_T38 t329 t335).f2) from Kd.V_mk ul337_2 ge337_2); clear hva_ hvn_ hvc_ ge337_2 ul337_2; clear hcc337 hce337; have HR337_2 := Aside0.mk hi337_2; have HC337_2 := Aside0.mk hl337_2; clear hi337_2 hl337_2; replace p337 := eq_true p337; replace q337 := eq_true q337) | ((with_reducible refine gate_dst (N := 7) rfl ?_); refine box_event ?hg (N := 7) ?hd (cs := #[.string (⟨#[]⟩ : ByteArray), .int .i64 0, .slice none 0 0]) (t := 38) ?hr ?_; (case hd => rfl); (case hg => rfl); (case hr => first | (go_simp; done) | (go_simp; rfl)); intro gb338 hg w18 hbox hb; have n0_ := Aside0.mk (Kd.N_below (Kd.N_elderB (by (with_reducible repeat (first | apply Kd.N_alloc | apply Kd.N_drewN | apply Kd.N_drew)); exact HO_6.out) gb338 (Nat.le_of_eq hg.symm)) hb); have n1_ := Aside0.mk (Kd.V_below (Kd.V_elderB (by (with_reducible repeat (first | apply Kd.V_alloc | apply Kd.V_drewN | apply Kd.V_drew)); exact HL337_2.out) gb338 (Nat.le_of_eq hg.symm)) hb); have n2_ := Aside0.mk (IsS112.below (by repeat (first | (with_reducible first | exact HI328.out | apply IsS112.alloc | apply IsS112.drewN | apply IsS112.drew | apply IsS112.set_1) | exact HI328.out)) hb); have n3_ := Aside0.mk (Kd.C_below (by repeat (first | (with_reducible exact HR337_2.out) | (with_reducible refine Kd.C_alloc ?_ _) | (with_reducible refine Kd.C_drewN ?_ _) | (with_reducible refine Kd.C_drew ?_) | exact HR337_2.out)) hb); have n4_ := Aside0.mk (below_step (by repeat (first | (with_reducible first | exact HB.out | apply below_alloc | apply pw_below_drewN | apply below_drew1 | refine below_set ?_ (IsS112.ge HI328.out)) | exact HB.out)) hb); have n5_ := Aside0.mk (hbox); have n6_ := Aside0.mk ((by rw [hg]; exact (below_size (by repeat (first | (with_reducible first | exact HB.out | apply below_alloc | apply pw_below_drewN | apply below_drew1 | refine below_set ?_ (IsS112.ge HI328.out)) | exact HB.out))) : w.heap.size ≤ gb338)); have n7_ := Aside0.mk ((by rw [hg]; exact (below_size (by repeat (first | (with_reducible first | exact HB.out | apply below_alloc | apply pw_below_drewN | apply below_drew1 | refine below_set ?_ (IsS112.ge HI328.out)) | exact HB.out))) : w.heap.size ≤ gb338)); have n8_ := Aside0.mk ((by rw [hg]; exact Nat.ne_of_lt (IsS112.lt (show IsS112 w _ g328 t326 t336 from by repeat (first | (with_reducible first | exact HI328.out | apply IsS112.alloc | apply IsS112.drewN | apply IsS112.drew | apply IsS112.set_1) | exact HI328.out))) : g328 ≠ gb338)); have n9_ := Aside0.mk ((by rw [hg]; exact Nat.ne_of_gt (IsS112.lt (show IsS112 w _ g328 t326 t336 from by repeat (first | (with_reducible first | exact HI328.out | apply IsS112.alloc | apply IsS112.drewN | apply IsS112.drew | apply IsS112.set_1) | exact HI328.out))) : gb338 ≠ g328)); clear HO_6; clear HL337_2; clear HI328; clear HR337_2; clear HB; have HO_6 := n0_; have HL337_2 := n1_; have HI328 := n2_; have HR337_2 := n3_; have HB := n4_; have BK338 := n5_; have GW338 := n6_; have GE338 := n7_; have NB328_338 := n8_; have NB338_328 := n9_; clear n0_ n1_ n2_ n3_ n4_ n5_ n6_ n7_ n8_ n9_; clear hb hbox hg; have hnb19 := NB338_328.out; have hnc19 := NB328_338.out; have hcz20_0 : w18.cell? ⟨gb338, 0, none⟩ = some (.string (⟨#[]⟩ : ByteArray)) := (blk_cell BK338.out 0).trans rfl; have hcz20_1 : w18.cell? ⟨gb338, 1, none⟩ = some (.int .i64 0) := (blk_cell BK338.out 1).trans rfl; have hcz20_2 : w18.cell? ⟨gb338, 2, none⟩ = some (.slice none 0 0) := (blk_cell BK338.out 2).trans rfl; have hfz20_0 := blk_frozen BK338.out 0; have hfz20_1 := blk_frozen BK338.out 1; have hfz20_2 := blk_frozen BK338.out 2)); try go_wp2_with (first | (go_at_call 63; (with_reducible refine (spec_l6Rd_pick.calls kj3 g328 t326 x329001_3 (t329.length : Int) t335 t336 w _ ?side1 ?side2 A13.out).mono ?_); (case side1 => repeat (first | (with_reducible first | exact HI328.out | apply IsS112.alloc | apply IsS112.drewN | apply IsS112.drew | apply IsS112.set_1) | exact HI328.out)); (case side2 => repeat (first | (with_reducible first | exact HB.out | apply below_alloc | apply pw_below_drewN | apply below_drew1 | refine below_set ?_ (IsS112.ge HI328.out)) | exact HB.out)); rintro e w17 ⟨rfl, hi, hb, hk⟩; have n0_ := Aside0.mk (Kd.N_mono (Kd.N_keep (Kd.N_mono (ok := fun k_ => (((w.heap.size ≤ k_)) ∧ k_ ≠ g328)) (by (with_reducible repeat (first | apply Kd.N_alloc | apply Kd.N_drewN | apply Kd.N_drew)); exact HO_6.out) (fun k_ hk_ => (⟨hk_, hk_.2⟩ : _ ∧ k_ ≠ g328))) hk (fun _ h => h.2)) (fun _ h => h.1)); have n1_ := Aside0.mk (hb); have n2_ := Aside0.mk (hi); clear HO_6; clear HB; clear HI328; have HO_6 := n0_; have HB := n1_; have HI328 := n2_; clear n0_ n1_ n2_; (try clear hb); (try clear hb2); (try clear hk); (try clear hi); have p337 : 0 ≤ (t335 : Int) := of_decide_eq_true (by first | (with_reducible assumption) | assumption); have q337 : t335 < (t329.length : Int) := of_decide_eq_true (by first | (with_reducible assumption) | assumption); obtain ⟨ad337, A337_2, c337_2, e337, hx337_0, hx337_1, hx337_2, hl337_2, hi337_2⟩ := at_T38 (Kd.N_reads' HO_6.out).2.2 t335 p337 q337; cases e337; obtain ⟨ce337, hce337, hMe337, hcc337⟩ := Kd.N_get HO_6.out z38 t335 p337 (by first | exact q337 | exact of_decide_eq_true (by first | (with_reducible assumption) | assumption) | (have e_ := (Kd.N_reads' HO_6.out).1; omega)); obtain ⟨ua337_2, uc337_2, rfl, ul337_2, ge337_2⟩ := k38_openF hMe337; have hv337_2 := hcc337 2 _ rfl; rw [add_field _ _ 2 (by omega)] at hv337_2; replace hv337_2 := Option.some.inj (hv337_2.symm.trans hx337_2); injection hv337_2 with hva_ hvn_ hvc_; rw [hva_] at ge337_2; rw [hvc_] at ul337_2; have HL337_2 := Aside0.mk (show Kd.V k90 90 _ w.heap.size _ _ ((rd_T38 t329 t335).f2) from Kd.V_mk ul337_2 ge337_2); clear hva_ hvn_ hvc_ ge337_2 ul337_2; clear hcc337 hce337; have HR337_2 := Aside0.mk hi337_2; have HC337_2 := Aside0.mk hl337_2; clear hi337_2 hl337_2; replace p337 := eq_true p337; replace q337 := eq_true q337) | ((with_reducible refine gate_dst (N := 7) rfl ?_); refine box_event ?hg (N := 7) ?hd (cs := #[.string (⟨#[]⟩ : ByteArray), .int .i64 0, .slice none 0 0]) (t := 38) ?hr ?_; (case hd => rfl); (case hg => rfl); (case hr => first | (go_simp; done) | (go_simp; rfl)); intro gb338 hg w18 hbox hb; have n0_ := Aside0.mk (Kd.N_below (Kd.N_elderB (by (with_reducible repeat (first | apply Kd.N_alloc | apply Kd.N_drewN | apply Kd.N_drew)); exact HO_6.out) gb338 (Nat.le_of_eq hg.symm)) hb); have n1_ := Aside0.mk (Kd.V_below (Kd.V_elderB (by (with_reducible repeat (first | apply Kd.V_alloc | apply Kd.V_drewN | apply Kd.V_drew)); exact HL337_2.out) gb338 (Nat.le_of_eq hg.symm)) hb); have n2_ := Aside0.mk (IsS112.below (by repeat (first | (with_reducible first | exact HI328.out | apply IsS112.alloc | apply IsS112.drewN | apply IsS112.drew | apply IsS112.set_1) | exact HI328.out)) hb); have n3_ := Aside0.mk (Kd.C_below (by repeat (first | (with_reducible exact HR337_2.out) | (with_reducible refine Kd.C_alloc ?_ _) | (with_reducible refine Kd.C_drewN ?_ _) | (with_reducible refine Kd.C_drew ?_) | exact HR337_2.out)) hb); have n4_ := Aside0.mk (below_step (by repeat (first | (with_reducible first | exact HB.out | apply below_alloc | apply pw_below_drewN | apply below_drew1 | refine below_set ?_ (IsS112.ge HI328.out)) | exact HB.out)) hb); have n5_ := Aside0.mk (hbox); have n6_ := Aside0.mk ((by rw [hg]; exact (below_size (by repeat (first | (with_reducible first | exact HB.out | apply below_alloc | apply pw_below_drewN | apply below_drew1 | refine below_set ?_ (IsS112.ge HI328.out)) | exact HB.out))) : w.heap.size ≤ gb338)); have n7_ := Aside0.mk ((by rw [hg]; exact (below_size (by repeat (first | (with_reducible first | exact HB.out | apply below_alloc | apply pw_below_drewN | apply below_drew1 | refine below_set ?_ (IsS112.ge HI328.out)) | exact HB.out))) : w.heap.size ≤ gb338)); have n8_ := Aside0.mk ((by rw [hg]; exact Nat.ne_of_lt (IsS112.lt (show IsS112 w _ g328 t326 t336 from by repeat (first | (with_reducible first | exact HI328.out | apply IsS112.alloc | apply IsS112.drewN | apply IsS112.drew | apply IsS112.set_1) | exact HI328.out))) : g328 ≠ gb338)); have n9_ := Aside0.mk ((by rw [hg]; exact Nat.ne_of_gt (IsS112.lt (show IsS112 w _ g328 t326 t336 from by repeat (first | (with_reducible first | exact HI328.out | apply IsS112.alloc | apply IsS112.drewN | apply IsS112.drew | apply IsS112.set_1) | exact HI328.out))) : gb338 ≠ g328)); clear HO_6; clear HL337_2; clear HI328; clear HR337_2; clear HB; have HO_6 := n0_; have HL337_2 := n1_; have HI328 := n2_; have HR337_2 := n3_; have HB := n4_; have BK338 := n5_; have GW338 := n6_; have GE338 := n7_; have NB328_338 := n8_; have NB338_328 := n9_; clear n0_ n1_ n2_ n3_ n4_ n5_ n6_ n7_ n8_ n9_; clear hb hbox hg; have hnb19 := NB338_328.out; have hnc19 := NB328_338.out; have hcz20_0 : w18.cell? ⟨gb338, 0, none⟩ = some (.string (⟨#[]⟩ : ByteArray)) := (blk_cell BK338.out 0).trans rfl; have hcz20_1 : w18.cell? ⟨gb338, 1, none⟩ = some (.int .i64 0) := (blk_cell BK338.out 1).trans rfl; have hcz20_2 : w18.cell? ⟨gb338, 2, none⟩ = some (.slice none 0 0) := (blk_cell BK338.out 2).trans rfl; have hfz20_0 := blk_frozen BK338.out 0; have hfz20_1 := blk_frozen BK338.out 1; have hfz20_2 := blk_frozen BK338.out 2)))
      go_ret3
      exact ⟨_, by first | rfl | (simp [errW_none, errW_some] <;> rfl) | (simp [*, errW_none, errW_some] <;> rfl), by (with_reducible repeat (first | apply Kd.N_alloc | apply Kd.N_drewN | apply Kd.N_drew)); exact Kd.N_mono (Kd.N_far (p := ⟨gb338, 2, none⟩) (Kd.N_far (p := ⟨gb338, 1, none⟩) (Kd.N_far (p := ⟨gb338, 0, none⟩) (Kd.N_mono HO_6.out (fun k_ hk => (⟨hk, hk.2⟩ : _ ∧ k_ ≠ gb338))) (fun _ hk => hk.2) (.string ((rd_T38 t329 t335).f0))) (fun _ hk => hk.2) (.int .i64 ((rd_T38 t329 t335).f1))) (fun _ hk => hk.2) (.slice A337_2 ((rd_T38 t329 t335).f2).length c337_2)) (fun _ hk => hk.1.1.1), by repeat (first | (with_reducible first | exact HB.out | apply below_alloc | apply pw_below_drewN | apply below_drew1 | refine below_set ?_ (IsS112.ge HI328.out) | refine below_set ?_ GE338.out) | exact HB.out)⟩
     ·
      rw [if_neg c15] at H; exact absurd H (by simp)
    ·
     rw [if_neg c14] at H; exact absurd H (by simp)
   ·
    replace c12 := Bool.eq_false_iff.mpr c12; subst c12; have H1 : ((spec_l6Rd_pick.f kj3 t326 x329001_3 3).bind fun bt339 => ((spec_l6Rd_of.f kj3 t326 bt339.2 (([(⟨#[97]⟩ : ByteArray), (⟨#[122, 122]⟩ : ByteArray)] : List ByteArray))).bind fun bt344 => (some (t329, wrap64 (1 + bt339.1), bt344.1)))) = some (r1, r2, r3) := by rw [if_neg (show ¬ (false = true) by decide)] at H; exact H
    clear H; have H := H1; clear H1; replace H := Option.bind_eq_some_iff.mp H; obtain ⟨⟨t339, t340⟩, A210, H⟩ := H; replace H : ((spec_l6Rd_of.f kj3 t326 t340 (([(⟨#[97]⟩ : ByteArray), (⟨#[122, 122]⟩ : ByteArray)] : List ByteArray))).bind fun bt344 => (some (t329, wrap64 (1 + t339), bt344.1))) = some (r1, r2, r3) := H; have A21 := Aside0.mk A210; clear A210; obtain ⟨y341, hy341⟩ : ∃ y_ : List ByteArray, y_ = (([(⟨#[97]⟩ : ByteArray), (⟨#[122, 122]⟩ : ByteArray)] : List ByteArray)) := ⟨_, rfl⟩
    replace H : ((spec_l6Rd_of.f kj3 t326 t340 y341).bind fun bt344 => (some (t329, wrap64 (1 + t339), bt344.1))) = some (r1, r2, r3) := by first | (rw [hy341]; with_reducible exact H) | (have H2_ := (Option.bind_some _ _).symm.trans H; rw [hy341]; with_reducible exact H2_) | (have H2_ := (Option.bind_some _ _).symm.trans H; with_reducible exact H2_) | with_reducible exact H | (rw [hy341]; exact H) | exact H
    have Ny341 := Aside0.mk hy341; clear hy341; replace H := Option.bind_eq_some_iff.mp H; obtain ⟨⟨t344, t345⟩, A220, H⟩ := H; replace H : (some (t329, wrap64 (1 + t339), t344)) = some (r1, r2, r3) := H; have A22 := Aside0.mk A220; clear A220; simp only [Option.some.injEq, Prod.mk.injEq] at H; obtain ⟨rfl, rfl, rfl⟩ := H; go_wp2_with (first | (go_at_call 63; (with_reducible refine (spec_l6Rd_pick.calls kj3 g328 t326 x329001_3 3 t339 t340 w _ ?side1 ?side2 A21.out).mono ?_); (case side1 => repeat (first | (with_reducible first | exact HI328.out | apply IsS112.alloc | apply IsS112.drewN | apply IsS112.drew | apply IsS112.set_1) | exact HI328.out)); (case side2 => repeat (first | (with_reducible first | exact HB.out | apply below_alloc | apply pw_below_drewN | apply below_drew1 | refine below_set ?_ (IsS112.ge HI328.out)) | exact HB.out)); rintro e w23 ⟨rfl, hi, hb, hk⟩; have n0_ := Aside0.mk (Kd.N_mono (Kd.N_keep (Kd.N_mono (ok := fun k_ => (((w.heap.size ≤ k_)) ∧ k_ ≠ g328)) (by (with_reducible repeat (first | apply Kd.N_alloc | apply Kd.N_drewN | apply Kd.N_drew)); exact HO_6.out) (fun k_ hk_ => (⟨hk_, hk_.2⟩ : _ ∧ k_ ≠ g328))) hk (fun _ h => h.2)) (fun _ h => h.1)); have n1_ := Aside0.mk (hb); have n2_ := Aside0.mk (hi); clear HO_6; clear HB; clear HI328; have HO_6 := n0_; have HB := n1_; have HI328 := n2_; clear n0_ n1_ n2_; (try clear hb); (try clear hb2); (try clear hk); (try clear hi)) | ((with_reducible refine gate_dst (N := 37) rfl ?_); refine Kd.R_lit Kd.string _ 9 ?hg (N := 37) ?hd (xs := ([(⟨#[97]⟩ : ByteArray), (⟨#[122, 122]⟩ : ByteArray)] : List ByteArray)) (inner := [.string (⟨#[97]⟩ : ByteArray), .string (⟨#[122, 122]⟩ : ByteArray)]) (ok := fun _ => True) (okp := fun _ => True) ?hr ?hp (fun _ hk => hk) trivial (Below.refl _ _) (Nat.le_refl _) (by simp) ?_; (case hd => rfl); (case hg => rfl); (case hr => first | (go_simp; done) | (go_simp; rfl)); (case hp => exact (Reps.one (show Kd.M Kd.string _ _ _ (⟨#[97]⟩ : ByteArray) [.string (⟨#[97]⟩ : ByteArray)] from rfl) (Reps.one (show Kd.M Kd.string _ _ _ (⟨#[122, 122]⟩ : ByteArray) [.string (⟨#[122, 122]⟩ : ByteArray)] from rfl) (Reps.none _ _)))); intro v342 w24 ho25 hb hg_ hnew_; clear hg_ hnew_; (first | rw [← Ny341.out] at ho25 | (simp only [Int.reduceToNat] at ho25; rw [← Ny341.out] at ho25)); have n0_ := Aside0.mk (Kd.N_elder' (by (with_reducible repeat (first | apply Kd.N_alloc | apply Kd.N_drewN | apply Kd.N_drew)); exact HO_6.out) (Kd.R_base ho25) hb); have n1_ := Aside0.mk (Kd.R_lower (Kd.R_newM (M := fun k_ => (w.heap.size ≤ k_)) ho25 (below_size (by repeat (first | (with_reducible first | exact HB.out | apply below_alloc | apply pw_below_drewN | apply below_drew1 | refine below_set ?_ (IsS112.ge HI328.out)) | exact HB.out))) (fun k_ h_ => h_)) (below_size (by repeat (first | (with_reducible first | exact HB.out | apply below_alloc | apply pw_below_drewN | apply below_drew1 | refine below_set ?_ (IsS112.ge HI328.out)) | exact HB.out)))); have n2_ := Aside0.mk (IsS112.below (by repeat (first | (with_reducible first | exact HI328.out | apply IsS112.alloc | apply IsS112.drewN | apply IsS112.drew | apply IsS112.set_1) | exact HI328.out)) hb); have n3_ := Aside0.mk (below_step (by repeat (first | (with_reducible first | exact HB.out | apply below_alloc | apply pw_below_drewN | apply below_drew1 | refine below_set ?_ (IsS112.ge HI328.out)) | exact HB.out)) hb); clear HO_6; clear HI328; clear HB; have HO_6 := n0_; have HO343 := n1_; have HI328 := n2_; have HB := n3_; clear n0_ n1_ n2_ n3_; clear hb ho25; obtain ⟨Ao26, co26, eo26⟩ := Kd.R_slice HO343.out; subst eo26) | (go_at_call 72; (with_reducible refine (spec_l6Rd_of.calls kj3 g328 t326 t340 _ _ y341 t344 t345 w _ ?side1 ?side2 ?side3 ?side4 ?side5 A22.out).mono ?_); (case side1 => repeat (first | (with_reducible first | exact HI328.out | apply IsS112.alloc | apply IsS112.drewN | apply IsS112.drew | apply IsS112.set_1) | exact HI328.out)); (case side2 => repeat (first | (with_reducible first | exact HB.out | apply below_alloc | apply pw_below_drewN | apply below_drew1 | refine below_set ?_ (IsS112.ge HI328.out)) | exact HB.out)); (case side3 => repeat (first | exact (Kd.R_reads' HO343.out).2.2 | (with_reducible refine Kd.C_alloc ?_ _) | (with_reducible refine Kd.C_drewN ?_ _) | (with_reducible refine Kd.C_drew ?_))); (case side4 => exact (Kd.R_reads' HO343.out).2.1); (case side5 => exact far_slice (IsS112.own_ne HI328.out HO343.out (by decide))); rintro e w27 ⟨rfl, hi, hb, hk⟩; have n0_ := Aside0.mk (Kd.N_mono (Kd.N_keep (Kd.N_mono (ok := fun k_ => ((((w.heap.size ≤ k_)) ∧ k_ ≠ g328) ∧ some k_ ≠ (.slice Ao26 y341.length co26 : Value).ownBlock)) (by (with_reducible repeat (first | apply Kd.N_alloc | apply Kd.N_drewN | apply Kd.N_drew)); exact HO_6.out) (fun k_ hk_ => (⟨hk_, hk_.1.2⟩ : _ ∧ k_ ≠ g328))) hk (fun _ h => h.2)) (fun _ h => h.1)); have n1_ := Aside0.mk (Kd.R_mono (Kd.R_keep (IsS112.apart (show IsS112 w _ g328 t326 t340 from by repeat (first | (with_reducible first | exact HI328.out | apply IsS112.alloc | apply IsS112.drewN | apply IsS112.drew | apply IsS112.set_1) | exact HI328.out)) (by (with_reducible repeat (first | apply Kd.R_alloc | apply Kd.R_drewN | apply Kd.R_drew)); exact HO343.out) (by decide)) hk (fun _ h => h.2)) (fun _ h => h.1)); have n2_ := Aside0.mk (hb); have n3_ := Aside0.mk (hi); clear HO_6; clear HO343; clear HB; clear HI328; have HO_6 := n0_; have HO343 := n1_; have HB := n2_; have HI328 := n3_; clear n0_ n1_ n2_ n3_; (try clear hb); (try clear hb2); (try clear hk); (try clear hi)))
    repeat (go_quiet (first | (go_at_call 63; (with_reducible refine (spec_l6Rd_pick.calls kj3 g328 t326 x329001_3 3 t339 t340 w _ ?side1 ?side2 A21.out).mono ?_); (case side1 => repeat (first | (with_reducible first | exact HI328.out | apply IsS112.alloc | apply IsS112.drewN | apply IsS112.drew | apply IsS112.set_1) | exact HI328.out)); (case side2 => repeat (first | (with_reducible first | exact HB.out | apply below_alloc | apply pw_below_drewN | apply below_drew1 | refine below_set ?_ (IsS112.ge HI328.out)) | exact HB.out)); rintro e w23 ⟨rfl, hi, hb, hk⟩; have n0_ := Aside0.mk (Kd.N_mono (Kd.N_keep (Kd.N_mono (ok := fun k_ => (((w.heap.size ≤ k_)) ∧ k_ ≠ g328)) (by (with_reducible repeat (first | apply Kd.N_alloc | apply Kd.N_drewN | apply Kd.N_drew)); exact HO_6.out) (fun k_ hk_ => (⟨hk_, hk_.2⟩ : _ ∧ k_ ≠ g328))) hk (fun _ h => h.2)) (fun _ h => h.1)); have n1_ := Aside0.mk (hb); have n2_ := Aside0.mk (hi); clear HO_6; clear HB; clear HI328; have HO_6 := n0_; have HB := n1_; have HI328 := n2_; clear n0_ n1_ n2_; (try clear hb); (try clear hb2); (try clear hk); (try clear hi)) | ((with_reducible refine gate_dst (N := 37) rfl ?_); refine Kd.R_lit Kd.string _ 9 ?hg (N := 37) ?hd (xs := ([(⟨#[97]⟩ : ByteArray), (⟨#[122, 122]⟩ : ByteArray)] : List ByteArray)) (inner := [.string (⟨#[97]⟩ : ByteArray), .string (⟨#[122, 122]⟩ : ByteArray)]) (ok := fun _ => True) (okp := fun _ => True) ?hr ?hp (fun _ hk => hk) trivial (Below.refl _ _) (Nat.le_refl _) (by simp) ?_; (case hd => rfl); (case hg => rfl); (case hr => first | (go_simp; done) | (go_simp; rfl)); (case hp => exact (Reps.one (show Kd.M Kd.string _ _ _ (⟨#[97]⟩ : ByteArray) [.string (⟨#[97]⟩ : ByteArray)] from rfl) (Reps.one (show Kd.M Kd.string _ _ _ (⟨#[122, 122]⟩ : ByteArray) [.string (⟨#[122, 122]⟩ : ByteArray)] from rfl) (Reps.none _ _)))); intro v342 w24 ho25 hb hg_ hnew_; clear hg_ hnew_; (first | rw [← Ny341.out] at ho25 | (simp only [Int.reduceToNat] at ho25; rw [← Ny341.out] at ho25)); have n0_ := Aside0.mk (Kd.N_elder' (by (with_reducible repeat (first | apply Kd.N_alloc | apply Kd.N_drewN | apply Kd.N_drew)); exact HO_6.out) (Kd.R_base ho25) hb); have n1_ := Aside0.mk (Kd.R_lower (Kd.R_newM (M := fun k_ => (w.heap.size ≤ k_)) ho25 (below_size (by repeat (first | (with_reducible first | exact HB.out | apply below_alloc | apply pw_below_drewN | apply below_drew1 | refine below_set ?_ (IsS112.ge HI328.out)) | exact HB.out))) (fun k_ h_ => h_)) (below_size (by repeat (first | (with_reducible first | exact HB.out | apply below_alloc | apply pw_below_drewN | apply below_drew1 | refine below_set ?_ (IsS112.ge HI328.out)) | exact HB.out)))); have n2_ := Aside0.mk (IsS112.below (by repeat (first | (with_reducible first | exact HI328.out | apply IsS112.alloc | apply IsS112.drewN | apply IsS112.drew | apply IsS112.set_1) | exact HI328.out)) hb); have n3_ := Aside0.mk (below_step (by repeat (first | (with_reducible first | exact HB.out | apply below_alloc | apply pw_below_drewN | apply below_drew1 | refine below_set ?_ (IsS112.ge HI328.out)) | exact HB.out)) hb); clear HO_6; clear HI328; clear HB; have HO_6 := n0_; have HO343 := n1_; have HI328 := n2_; have HB := n3_; clear n0_ n1_ n2_ n3_; clear hb ho25; obtain ⟨Ao26, co26, eo26⟩ := Kd.R_slice HO343.out; subst eo26) | (go_at_call 72; (with_reducible refine (spec_l6Rd_of.calls kj3 g328 t326 t340 _ _ y341 t344 t345 w _ ?side1 ?side2 ?side3 ?side4 ?side5 A22.out).mono ?_); (case side1 => repeat (first | (with_reducible first | exact HI328.out | apply IsS112.alloc | apply IsS112.drewN | apply IsS112.drew | apply IsS112.set_1) | exact HI328.out)); (case side2 => repeat (first | (with_reducible first | exact HB.out | apply below_alloc | apply pw_below_drewN | apply below_drew1 | refine below_set ?_ (IsS112.ge HI328.out)) | exact HB.out)); (case side3 => repeat (first | exact (Kd.R_reads' HO343.out).2.2 | (with_reducible refine Kd.C_alloc ?_ _) | (with_reducible refine Kd.C_drewN ?_ _) | (with_reducible refine Kd.C_drew ?_))); (case side4 => exact (Kd.R_reads' HO343.out).2.1); (case side5 => exact far_slice (IsS112.own_ne HI328.out HO343.out (by decide))); rintro e w27 ⟨rfl, hi, hb, hk⟩; have n0_ := Aside0.mk (Kd.N_mono (Kd.N_keep (Kd.N_mono (ok := fun k_ => ((((w.heap.size ≤ k_)) ∧ k_ ≠ g328) ∧ some k_ ≠ (.slice Ao26 y341.length co26 : Value).ownBlock)) (by (with_reducible repeat (first | apply Kd.N_alloc | apply Kd.N_drewN | apply Kd.N_drew)); exact HO_6.out) (fun k_ hk_ => (⟨hk_, hk_.1.2⟩ : _ ∧ k_ ≠ g328))) hk (fun _ h => h.2)) (fun _ h => h.1)); have n1_ := Aside0.mk (Kd.R_mono (Kd.R_keep (IsS112.apart (show IsS112 w _ g328 t326 t340 from by repeat (first | (with_reducible first | exact HI328.out | apply IsS112.alloc | apply IsS112.drewN | apply IsS112.drew | apply IsS112.set_1) | exact HI328.out)) (by (with_reducible repeat (first | apply Kd.R_alloc | apply Kd.R_drewN | apply Kd.R_drew)); exact HO343.out) (by decide)) hk (fun _ h => h.2)) (fun _ h => h.1)); have n2_ := Aside0.mk (hb); have n3_ := Aside0.mk (hi); clear HO_6; clear HO343; clear HB; clear HI328; have HO_6 := n0_; have HO343 := n1_; have HB := n2_; have HI328 := n3_; clear n0_ n1_ n2_ n3_; (try clear hb); (try clear hb2); (try clear hk); (try clear hi))); try go_wp2_with (first | (go_at_call 63; (with_reducible refine (spec_l6Rd_pick.calls kj3 g328 t326 x329001_3 3 t339 t340 w _ ?side1 ?side2 A21.out).mono ?_); (case side1 => repeat (first | (with_reducible first | exact HI328.out | apply IsS112.alloc | apply IsS112.drewN | apply IsS112.drew | apply IsS112.set_1) | exact HI328.out)); (case side2 => repeat (first | (with_reducible first | exact HB.out | apply below_alloc | apply pw_below_drewN | apply below_drew1 | refine below_set ?_ (IsS112.ge HI328.out)) | exact HB.out)); rintro e w23 ⟨rfl, hi, hb, hk⟩; have n0_ := Aside0.mk (Kd.N_mono (Kd.N_keep (Kd.N_mono (ok := fun k_ => (((w.heap.size ≤ k_)) ∧ k_ ≠ g328)) (by (with_reducible repeat (first | apply Kd.N_alloc | apply Kd.N_drewN | apply Kd.N_drew)); exact HO_6.out) (fun k_ hk_ => (⟨hk_, hk_.2⟩ : _ ∧ k_ ≠ g328))) hk (fun _ h => h.2)) (fun _ h => h.1)); have n1_ := Aside0.mk (hb); have n2_ := Aside0.mk (hi); clear HO_6; clear HB; clear HI328; have HO_6 := n0_; have HB := n1_; have HI328 := n2_; clear n0_ n1_ n2_; (try clear hb); (try clear hb2); (try clear hk); (try clear hi)) | ((with_reducible refine gate_dst (N := 37) rfl ?_); refine Kd.R_lit Kd.string _ 9 ?hg (N := 37) ?hd (xs := ([(⟨#[97]⟩ : ByteArray), (⟨#[122, 122]⟩ : ByteArray)] : List ByteArray)) (inner := [.string (⟨#[97]⟩ : ByteArray), .string (⟨#[122, 122]⟩ : ByteArray)]) (ok := fun _ => True) (okp := fun _ => True) ?hr ?hp (fun _ hk => hk) trivial (Below.refl _ _) (Nat.le_refl _) (by simp) ?_; (case hd => rfl); (case hg => rfl); (case hr => first | (go_simp; done) | (go_simp; rfl)); (case hp => exact (Reps.one (show Kd.M Kd.string _ _ _ (⟨#[97]⟩ : ByteArray) [.string (⟨#[97]⟩ : ByteArray)] from rfl) (Reps.one (show Kd.M Kd.string _ _ _ (⟨#[122, 122]⟩ : ByteArray) [.string (⟨#[122, 122]⟩ : ByteArray)] from rfl) (Reps.none _ _)))); intro v342 w24 ho25 hb hg_ hnew_; clear hg_ hnew_; (first | rw [← Ny341.out] at ho25 | (simp only [Int.reduceToNat] at ho25; rw [← Ny341.out] at ho25)); have n0_ := Aside0.mk (Kd.N_elder' (by (with_reducible repeat (first | apply Kd.N_alloc | apply Kd.N_drewN | apply Kd.N_drew)); exact HO_6.out) (Kd.R_base ho25) hb); have n1_ := Aside0.mk (Kd.R_lower (Kd.R_newM (M := fun k_ => (w.heap.size ≤ k_)) ho25 (below_size (by repeat (first | (with_reducible first | exact HB.out | apply below_alloc | apply pw_below_drewN | apply below_drew1 | refine below_set ?_ (IsS112.ge HI328.out)) | exact HB.out))) (fun k_ h_ => h_)) (below_size (by repeat (first | (with_reducible first | exact HB.out | apply below_alloc | apply pw_below_drewN | apply below_drew1 | refine below_set ?_ (IsS112.ge HI328.out)) | exact HB.out)))); have n2_ := Aside0.mk (IsS112.below (by repeat (first | (with_reducible first | exact HI328.out | apply IsS112.alloc | apply IsS112.drewN | apply IsS112.drew | apply IsS112.set_1) | exact HI328.out)) hb); have n3_ := Aside0.mk (below_step (by repeat (first | (with_reducible first | exact HB.out | apply below_alloc | apply pw_below_drewN | apply below_drew1 | refine below_set ?_ (IsS112.ge HI328.out)) | exact HB.out)) hb); clear HO_6; clear HI328; clear HB; have HO_6 := n0_; have HO343 := n1_; have HI328 := n2_; have HB := n3_; clear n0_ n1_ n2_ n3_; clear hb ho25; obtain ⟨Ao26, co26, eo26⟩ := Kd.R_slice HO343.out; subst eo26) | (go_at_call 72; (with_reducible refine (spec_l6Rd_of.calls kj3 g328 t326 t340 _ _ y341 t344 t345 w _ ?side1 ?side2 ?side3 ?side4 ?side5 A22.out).mono ?_); (case side1 => repeat (first | (with_reducible first | exact HI328.out | apply IsS112.alloc | apply IsS112.drewN | apply IsS112.drew | apply IsS112.set_1) | exact HI328.out)); (case side2 => repeat (first | (with_reducible first | exact HB.out | apply below_alloc | apply pw_below_drewN | apply below_drew1 | refine below_set ?_ (IsS112.ge HI328.out)) | exact HB.out)); (case side3 => repeat (first | exact (Kd.R_reads' HO343.out).2.2 | (with_reducible refine Kd.C_alloc ?_ _) | (with_reducible refine Kd.C_drewN ?_ _) | (with_reducible refine Kd.C_drew ?_))); (case side4 => exact (Kd.R_reads' HO343.out).2.1); (case side5 => exact far_slice (IsS112.own_ne HI328.out HO343.out (by decide))); rintro e w27 ⟨rfl, hi, hb, hk⟩; have n0_ := Aside0.mk (Kd.N_mono (Kd.N_keep (Kd.N_mono (ok := fun k_ => ((((w.heap.size ≤ k_)) ∧ k_ ≠ g328) ∧ some k_ ≠ (.slice Ao26 y341.length co26 : Value).ownBlock)) (by (with_reducible repeat (first | apply Kd.N_alloc | apply Kd.N_drewN | apply Kd.N_drew)); exact HO_6.out) (fun k_ hk_ => (⟨hk_, hk_.1.2⟩ : _ ∧ k_ ≠ g328))) hk (fun _ h => h.2)) (fun _ h => h.1)); have n1_ := Aside0.mk (Kd.R_mono (Kd.R_keep (IsS112.apart (show IsS112 w _ g328 t326 t340 from by repeat (first | (with_reducible first | exact HI328.out | apply IsS112.alloc | apply IsS112.drewN | apply IsS112.drew | apply IsS112.set_1) | exact HI328.out)) (by (with_reducible repeat (first | apply Kd.R_alloc | apply Kd.R_drewN | apply Kd.R_drew)); exact HO343.out) (by decide)) hk (fun _ h => h.2)) (fun _ h => h.1)); have n2_ := Aside0.mk (hb); have n3_ := Aside0.mk (hi); clear HO_6; clear HO343; clear HB; clear HI328; have HO_6 := n0_; have HO343 := n1_; have HB := n2_; have HI328 := n3_; clear n0_ n1_ n2_ n3_; (try clear hb); (try clear hb2); (try clear hk); (try clear hi))))
    go_ret3
    exact ⟨_, by first | rfl | (simp [errW_none, errW_some] <;> rfl) | (simp [*, errW_none, errW_some] <;> rfl), by (with_reducible repeat (first | apply Kd.N_alloc | apply Kd.N_drewN | apply Kd.N_drew)); exact Kd.N_mono HO_6.out (fun _ hk => hk.1.1), by repeat (first | (with_reducible first | exact HB.out | apply below_alloc | apply pw_below_drewN | apply below_drew1 | refine below_set ?_ (IsS112.ge HI328.out)) | exact HB.out)⟩

end Go.Proofs.YtmacedbpdhkagaaDoor.PFnTonaryDrop
namespace Go.Proofs.YtmacedbpdhkagaaDoor.PFnTonaryDrop
set_option linter.unusedVariables false
set_option linter.unusedSimpArgs false
open Go Go.RowKit Go.Proofs.YtmacedbpdhkagaaDoor.Pure Go.Proofs.YtmacedbpdhkagaaDoorW.PrintWords Go.Proofs.YtmacedbpdhkagaaDoorW.PrintLast Go.Proofs.YtmacedbpdhkagaaDoorW.PrintMore
def impl_TonaryAdd.f (l0 : List S38) (a1_0 : ByteArray) (a1_1 : Int) (l1_2 : List S90) : Option (List S38 × Bool) := if entSz l0 = true ∧ a1_0.size ≤ 9000000000000000 ∧ l1_2.length ≤ 1000000000000 then some (tonAdd l0 ⟨a1_0, a1_1, l1_2⟩) else none
theorem impl_TonaryAdd.calls (A0 : Option Addr) (c0 : Nat) (l0 : List S38) (a1_0 : ByteArray) (a1_1 : Int) (A1_2 : Option Addr) (c1_2 : Nat) (l1_2 : List S90) (r1 : List S38) (r2 : Bool) (w : World) (ht : MTab w) (hr0 : Kd.C k38 w A0 l0.length l0) (hc0 : l0.length ≤ c0) (hr1_2 : Kd.C k90 w A1_2 l1_2.length l1_2) (hc1_2 : l1_2.length ≤ c1_2) (h : impl_TonaryAdd.f l0 a1_0 a1_1 l1_2 = some (r1, r2)) :
 Calls Tryd.prog 38 #[.slice A0 l0.length c0, .agg #[.string a1_0, .int .i64 a1_1, .slice A1_2 l1_2.length c1_2]] w fun e w' => ∃ v0_ : Value, e = .returned (.tuple #[v0_, .bool r2]) ∧ Kd.S k38 38 w' w.heap.size (fun _ => True) v0_ r1 ∧ Below w.heap.size w w' := by
 unfold impl_TonaryAdd.f at h; split at h
 ·
  rename_i hh
  injection h with h
  have := impl_TonaryAdd_calls l0 ⟨a1_0, a1_1, l1_2⟩ A0 c0 A1_2 c1_2 w ht hr0 hc0 hr1_2 hc1_2 hh.1 hh.2; rw [tonAddI_eq, h] at this; exact this
 ·
  cases h

end Go.Proofs.YtmacedbpdhkagaaDoor.PFnTonaryDrop
namespace Go.Proofs.YtmacedbpdhkagaaDoor.PFnTonaryDrop
open Go.RowKit Go.Proofs.YtmacedbpdhkagaaDoorW.PrintWords Go.Proofs.YtmacedbpdhkagaaDoorW.PrintLast Go.Proofs.YtmacedbpdhkagaaDoorW.PrintMore Go.Proofs.YtmacedbpdhkagaaDoor.Pure
attribute [local go_sem] max2_int min2_int max_two min_two max_three min_three max_four min_four   -- for this text's walks alone
set_option linter.unusedVariables false
set_option linter.unusedSimpArgs false

mutual
def laws_FnTonaryDrop.j0 : Nat → List (S38) → Int → ByteArray → List (S38) → Bool → List (S38) → Bool → Bool → Option (Bool)
 | 0, _, _, _, _, _, _, _, _ => none
 | k + 1, x3, x4, x5, x6, x7, x8, x9, x50 => if x50 = true then (if (x7 == x9) = true then ((laws_sameEntries.f k x6 x8).bind fun t376 => (some t376)) else (some false)) else ((impl_TonaryDrop.f x6 x4 x5).bind fun bt377 => (laws_FnTonaryDrop.l0 k x3 x4 x5 x6 bt377.2 0))
def laws_FnTonaryDrop.l0 : Nat → List (S38) → Int → ByteArray → List (S38) → Bool → Int → Option (Bool)
 | 0, _, _, _, _, _, _ => none
 | k + 1, x3, x4, x5, x6, x11, x12 => if x12 < (x3.length : Int) then (if 0 ≤ x12 then (if ((rd_T38 x3 x12).f1) = x4 then (laws_FnTonaryDrop.j2 k x3 x4 x5 x6 x11 x12 (((rd_T38 x3 x12).f0).toList == x5.toList)) else (laws_FnTonaryDrop.j2 k x3 x4 x5 x6 x11 x12 false)) else (none)) else (some false)
def laws_FnTonaryDrop.j2 : Nat → List (S38) → Int → ByteArray → List (S38) → Bool → Int → Bool → Option (Bool)
 | 0, _, _, _, _, _, _, _ => none
 | k + 1, x3, x4, x5, x6, x11, x12, x87 => if x87 = true then (if 0 ≤ x12 then (if x12 < (x3.length : Int) then ((impl_TonaryAdd.f x6 ((rd_T38 x3 x12).f0) ((rd_T38 x3 x12).f1) ((rd_T38 x3 x12).f2)).bind fun bt384 => (if x11 = true then (some false) else (if bt384.2 = true then ((laws_sameEntries.f k bt384.1 x3).bind fun t388 => (if t388 = true then (some ((x6.length : Int) == (wrap64 ((x3.length : Int) - 1)))) else (some false))) else (some false)))) else (none)) else (none)) else (laws_FnTonaryDrop.l0 k x3 x4 x5 x6 x11 (wrap64 (x12 + 1)))
end
def laws_FnTonaryDrop.f (k : Nat) (l0 : List Int) : Option (Bool) := if (l0.length : Int) > 1048576 then (some true) else ((spec_DrawTonaryDrop.f k l0).bind fun bt362 => ((impl_TonaryDrop.f bt362.1 bt362.2.1 bt362.2.2).bind fun bt367 => ((spec_TonaryDrop.f k bt362.1 bt362.2.1 bt362.2.2).bind fun bt371 => (if (bt367.2 != bt371.2) = true then (laws_FnTonaryDrop.j0 k bt362.1 bt362.2.1 bt362.2.2 bt367.1 bt367.2 bt371.1 bt371.2 true) else ((laws_sameEntries.f k bt367.1 bt371.1).bind fun t375 => (if t375 = true then (laws_FnTonaryDrop.j0 k bt362.1 bt362.2.1 bt362.2.2 bt367.1 bt367.2 bt371.1 bt371.2 (!bt367.2)) else (laws_FnTonaryDrop.j0 k bt362.1 bt362.2.1 bt362.2.2 bt367.1 bt367.2 bt371.1 bt371.2 true)))))))
set_option maxHeartbeats 8000000 in
set_option maxRecDepth 100000 in
theorem laws_FnTonaryDrop.calls (k : Nat) (A0 : Option Addr) (c0 : Nat) (l0 : List Int) (r : Bool) (w : World) (ht : MTab w) (hr0 : Kd.C (Kd.int .u8) w A0 l0.length l0) (hc0 : l0.length ≤ c0) (hr : r = true) (h : laws_FnTonaryDrop.f k l0 = some r) :
 Calls Tryd.prog 9 #[.slice A0 l0.length c0] w fun e w' => e = .returned (.bool r) ∧ Below w.heap.size w w' := by
 have HRR := Aside0.mk hr; clear hr; have HT := Aside0.mk ht; clear ht; have hu38 := Tryd.underlying38; have HR0 := Aside0.mk hr0; have HC0 := Aside0.mk hc0; clear hr0 hc0; have HB := Aside0.mk (Below.refl w.heap.size w); have H : (if (l0.length : Int) > 1048576 then (some true) else ((spec_DrawTonaryDrop.f k l0).bind fun bt362 => ((impl_TonaryDrop.f bt362.1 bt362.2.1 bt362.2.2).bind fun bt367 => ((spec_TonaryDrop.f k bt362.1 bt362.2.1 bt362.2.2).bind fun bt371 => (if (bt367.2 != bt371.2) = true then (laws_FnTonaryDrop.j0 k bt362.1 bt362.2.1 bt362.2.2 bt367.1 bt367.2 bt371.1 bt371.2 true) else ((laws_sameEntries.f k bt367.1 bt371.1).bind fun t375 => (if t375 = true then (laws_FnTonaryDrop.j0 k bt362.1 bt362.2.1 bt362.2.2 bt367.1 bt367.2 bt371.1 bt371.2 (!bt367.2)) else (laws_FnTonaryDrop.j0 k bt362.1 bt362.2.1 bt362.2.2 bt367.1 bt367.2 bt371.1 bt371.2 true)))))))) = some r := h; clear h; by_cases c2 : (l0.length : Int) > 1048576
 ·
  rw [if_pos c2] at H; have c2b0 : decide (1048576 < (l0.length : Int)) = true := decide_eq_true c2; have c2b1 : decide (1048576 < l0.length) = true := decide_eq_true (by omega); clear c2; obtain rfl := Option.some.inj H; go_enter Tryd.func9, Tryd.ntmps9
  go_wp2; go_ret
  exact ⟨by first | rfl | (simp [errW_none, errW_some] <;> rfl) | (simp [*, errW_none, errW_some] <;> rfl), by repeat (first | (with_reducible first | exact HB.out | apply below_alloc | apply pw_below_drewN | apply below_drew1) | exact HB.out)⟩
 ·
  rw [if_neg c2] at H; have c2b0 : decide (1048576 < (l0.length : Int)) = false := decide_eq_false c2; have c2b1 : decide (1048576 < l0.length) = false := decide_eq_false (by omega); clear c2; replace H := Option.bind_eq_some_iff.mp H; obtain ⟨⟨t362, t365, t366⟩, A30, H⟩ := H; replace H : ((impl_TonaryDrop.f t362 t365 t366).bind fun bt367 => ((spec_TonaryDrop.f k t362 t365 t366).bind fun bt371 => (if (bt367.2 != bt371.2) = true then (laws_FnTonaryDrop.j0 k t362 t365 t366 bt367.1 bt367.2 bt371.1 bt371.2 true) else ((laws_sameEntries.f k bt367.1 bt371.1).bind fun t375 => (if t375 = true then (laws_FnTonaryDrop.j0 k t362 t365 t366 bt367.1 bt367.2 bt371.1 bt371.2 (!bt367.2)) else (laws_FnTonaryDrop.j0 k t362 t365 t366 bt367.1 bt367.2 bt371.1 bt371.2 true)))))) = some r := H; have A3 := Aside0.mk A30; clear A30; replace H := Option.bind_eq_some_iff.mp H; obtain ⟨⟨t367, t368⟩, A40, H⟩ := H; replace H : ((spec_TonaryDrop.f k t362 t365 t366).bind fun bt371 => (if (t368 != bt371.2) = true then (laws_FnTonaryDrop.j0 k t362 t365 t366 t367 t368 bt371.1 bt371.2 true) else ((laws_sameEntries.f k t367 bt371.1).bind fun t375 => (if t375 = true then (laws_FnTonaryDrop.j0 k t362 t365 t366 t367 t368 bt371.1 bt371.2 (!t368)) else (laws_FnTonaryDrop.j0 k t362 t365 t366 t367 t368 bt371.1 bt371.2 true))))) = some r := H; have A4 := Aside0.mk A40; clear A40; replace H := Option.bind_eq_some_iff.mp H; obtain ⟨⟨t371, t372⟩, A50, H⟩ := H; replace H : (if (t368 != t372) = true then (laws_FnTonaryDrop.j0 k t362 t365 t366 t367 t368 t371 t372 true) else ((laws_sameEntries.f k t367 t371).bind fun t375 => (if t375 = true then (laws_FnTonaryDrop.j0 k t362 t365 t366 t367 t368 t371 t372 (!t368)) else (laws_FnTonaryDrop.j0 k t362 t365 t366 t367 t368 t371 t372 true)))) = some r := H; have A5 := Aside0.mk A50; clear A50; have HC6 := Aside0.mk H; clear H; go_enter Tryd.func9, Tryd.ntmps9
  go_upto_region 6 with (first | ((with_reducible refine gate_callee (f := 37) rfl ?_); refine goesL_ (some 20) rfl rfl Tryd.func37 (by kernel_rfl) rfl #[.slice A0 l0.length c0] rfl (by (try simp only [List.map_toArray, List.map_cons, List.map_nil]); first | done | rfl | (simp only [List.length_drop, List.length_take]; rfl)) ?_; (with_reducible refine (spec_DrawTonaryDrop.calls k _ _ l0 t362 t365 t366 _ ?side1 ?side2 A3.out).mono ?_); (case side1 => repeat (first | exact HR0.out | (with_reducible refine Kd.C_alloc ?_ _) | (with_reducible refine Kd.C_drewN ?_ _) | (with_reducible refine Kd.C_drew ?_))); (case side2 => exact HC0.out); rintro e w7 ⟨v363, rfl, ho0, hb⟩; refine ⟨_, rfl, ?_⟩; have n0_ := Aside0.mk (Kd.N_lower (Kd.N_mono (ok' := fun k_ => True) ho0 (fun k_ hk_ => trivial)) (below_size (by repeat (first | (with_reducible first | exact HB.out | apply below_alloc | apply pw_below_drewN | apply below_drew1) | exact HB.out)))); have n1_ := Aside0.mk (below_step (by repeat (first | (with_reducible first | exact HB.out | apply below_alloc | apply pw_below_drewN | apply below_drew1) | exact HB.out)) hb); clear HB; have HO364 := n0_; have HB := n1_; clear n0_ n1_; (try clear hb); (try clear hb2); (try clear hk); (try clear hi); (try clear ho0); obtain ⟨Ao8, co8, eo8⟩ := Kd.N_slice HO364.out; subst eo8) | ((with_reducible refine gate_callee (f := 27) rfl ?_); refine goesL_ (some 28) rfl rfl Tryd.func27 (by kernel_rfl) rfl #[.slice Ao8 t362.length co8, .int .i64 t365, .string t366] rfl (by (try simp only [List.map_toArray, List.map_cons, List.map_nil]); first | done | rfl | (simp only [List.length_drop, List.length_take]; rfl)) ?_; (with_reducible refine (impl_TonaryDrop.calls _ _ t362 t365 t366 t367 t368 _ ?side1 ?side2 A4.out (ht := HT.out.below (by repeat (first | (with_reducible first | exact HB.out | apply below_alloc | apply pw_below_drewN | apply below_drew1) | exact HB.out)))).mono ?_); (case side1 => repeat (first | exact (Kd.N_reads' HO364.out).2.2 | (with_reducible refine Kd.C_alloc ?_ _) | (with_reducible refine Kd.C_drewN ?_ _) | (with_reducible refine Kd.C_drew ?_))); (case side2 => exact (Kd.N_reads' HO364.out).2.1); rintro e w9 ⟨v369, rfl, ho0, hb⟩; refine ⟨_, rfl, ?_⟩; have n0_ := Aside0.mk (Kd.N_elder' (by (with_reducible repeat (first | apply Kd.N_alloc | apply Kd.N_drewN | apply Kd.N_drew)); exact HO364.out) (by first | exact Kd.N_base ho0 | exact Kd.N_base (Kd.S_N ho0) | exact Kd.N_base (Kd.S_N (Kd.S_bound ho0))) hb); have n1_ := Aside0.mk (Kd.N_lower (Kd.N_mono (ok' := fun k_ => some k_ ≠ (.slice Ao8 t362.length co8 : Value).ownBlock) (Kd.S_N (Kd.S_bound ho0)) (fun k_ hk_ => (Kd.fresh' (Kd.N_lt (by (with_reducible repeat (first | apply Kd.N_alloc | apply Kd.N_drewN | apply Kd.N_drew)); exact HO364.out)) k_ hk_.2.1))) (below_size (by repeat (first | (with_reducible first | exact HB.out | apply below_alloc | apply pw_below_drewN | apply below_drew1) | exact HB.out)))); have n2_ := Aside0.mk (below_step (by repeat (first | (with_reducible first | exact HB.out | apply below_alloc | apply pw_below_drewN | apply below_drew1) | exact HB.out)) hb); clear HO364; clear HB; have HO364 := n0_; have HO370 := n1_; have HB := n2_; clear n0_ n1_ n2_; (try clear hb); (try clear hb2); (try clear hk); (try clear hi); (try clear ho0)) | ((with_reducible refine gate_callee (f := 26) rfl ?_); refine goesL_ (some 35) rfl rfl Tryd.func26 (by kernel_rfl) rfl #[.slice Ao8 t362.length co8, .int .i64 t365, .string t366] rfl (by (try simp only [List.map_toArray, List.map_cons, List.map_nil]); first | done | rfl | (simp only [List.length_drop, List.length_take]; rfl)) ?_; (with_reducible refine (spec_TonaryDrop.calls k _ _ t362 t365 t366 t371 t372 _ ?side1 ?side2 A5.out).mono ?_); (case side1 => repeat (first | exact (Kd.N_reads' HO364.out).2.2 | (with_reducible refine Kd.C_alloc ?_ _) | (with_reducible refine Kd.C_drewN ?_ _) | (with_reducible refine Kd.C_drew ?_))); (case side2 => exact (Kd.N_reads' HO364.out).2.1); rintro e w10 ⟨v373, rfl, ho0, hb⟩; refine ⟨_, rfl, ?_⟩; have n0_ := Aside0.mk (Kd.N_elder' (by (with_reducible repeat (first | apply Kd.N_alloc | apply Kd.N_drewN | apply Kd.N_drew)); exact HO364.out) (by first | exact Kd.N_base ho0 | exact Kd.N_base (Kd.S_N ho0) | exact Kd.N_base (Kd.S_N (Kd.S_bound ho0))) hb); have n1_ := Aside0.mk (Kd.N_elder' (by (with_reducible repeat (first | apply Kd.N_alloc | apply Kd.N_drewN | apply Kd.N_drew)); exact HO370.out) (by first | exact Kd.N_base ho0 | exact Kd.N_base (Kd.S_N ho0) | exact Kd.N_base (Kd.S_N (Kd.S_bound ho0))) hb); have n2_ := Aside0.mk (Kd.N_lower (Kd.N_mono (ok' := fun k_ => some k_ ≠ (.slice Ao8 t362.length co8 : Value).ownBlock ∧ some k_ ≠ (v369 : Value).ownBlock) (Kd.S_N (Kd.S_bound ho0)) (fun k_ hk_ => ⟨(Kd.fresh' (Kd.N_lt (by (with_reducible repeat (first | apply Kd.N_alloc | apply Kd.N_drewN | apply Kd.N_drew)); exact HO364.out)) k_ hk_.2.1), (Kd.fresh' (Kd.N_lt (by (with_reducible repeat (first | apply Kd.N_alloc | apply Kd.N_drewN | apply Kd.N_drew)); exact HO370.out)) k_ hk_.2.1)⟩)) (below_size (by repeat (first | (with_reducible first | exact HB.out | apply below_alloc | apply pw_below_drewN | apply below_drew1) | exact HB.out)))); have n3_ := Aside0.mk (below_step (by repeat (first | (with_reducible first | exact HB.out | apply below_alloc | apply pw_below_drewN | apply below_drew1) | exact HB.out)) hb); clear HO364; clear HO370; clear HB; have HO364 := n0_; have HO370 := n1_; have HO374 := n2_; have HB := n3_; clear n0_ n1_ n2_ n3_; (try clear hb); (try clear hb2); (try clear hk); (try clear hi); (try clear ho0)))
  (try simp only [Act.put, List.setIfInBounds_toArray, List.set_cons_zero, List.set_cons_succ])
  go_cut [50] (fun v50 wc => ∃ (kq : Nat) (x50_5 : Bool), v50 = .bool x50_5 ∧ Aside0 (laws_FnTonaryDrop.j0 kq t362 t365 t366 t367 t368 t371 t372 x50_5 = some r) ∧ Aside0 (kq ≤ k) ∧ Aside0 (Kd.N k38 38 wc w.heap.size (fun k_ => some k_ ≠ (v369 : Value).ownBlock ∧ some k_ ≠ (v373 : Value).ownBlock) (.slice Ao8 t362.length co8) t362) ∧ Aside0 (Kd.N k38 38 wc w.heap.size (fun k_ => some k_ ≠ ((.slice Ao8 t362.length co8) : Value).ownBlock ∧ some k_ ≠ (v373 : Value).ownBlock) v369 t367) ∧ Aside0 (Kd.N k38 38 wc w.heap.size (fun k_ => some k_ ≠ ((.slice Ao8 t362.length co8) : Value).ownBlock ∧ some k_ ≠ (v369 : Value).ownBlock) v373 t371) ∧ Aside0 (Below w.heap.size w wc))
  case first =>
   have H := HC6.out; clear HC6; by_cases c11 : (t368 != t372) = true
   ·
    rw [if_pos c11] at H; have c11b0 : (t368 != t372) = true := c11; (try (have c11b1 : decide (t368 = t372) = false := by simpa using c11))
    (try (have c11b2 : (t368 == t372) = false := by simpa using c11))
    (try (have c11b3 : ¬ (t368 = t372) := by simpa using c11))
    clear c11; (first | rw [c11b0] | (simp only [i64_w, i32_w]; rw [c11b0]) | skip)
    have H' := Aside0.mk H; clear H; go_wp2; go_meet
    case rel => exact ⟨_, (true), (by first | rfl | (simp; done) | (simp [*]; done)), H', ⟨by first | omega | exact Nat.le_refl _⟩, ⟨by (with_reducible repeat (first | apply Kd.N_alloc | apply Kd.N_drewN | apply Kd.N_drew)); exact Kd.N_mono HO364.out (fun _ hk => ⟨hk.1.2, hk.2⟩)⟩, ⟨by (with_reducible repeat (first | apply Kd.N_alloc | apply Kd.N_drewN | apply Kd.N_drew)); exact HO370.out⟩, ⟨by (with_reducible repeat (first | apply Kd.N_alloc | apply Kd.N_drewN | apply Kd.N_drew)); exact HO374.out⟩, ⟨by repeat (first | (with_reducible first | exact HB.out | apply below_alloc | apply pw_below_drewN | apply below_drew1) | exact HB.out)⟩⟩
   ·
    rw [if_neg c11] at H; have c11b0 : (t368 != t372) = false := by simpa using c11
    (try (have c11b1 : decide (t368 = t372) = true := by simpa using c11))
    (try (have c11b2 : (t368 == t372) = true := by simpa using c11))
    clear c11; (first | rw [c11b0] | (simp only [i64_w, i32_w]; rw [c11b0]) | skip)
    replace H := Option.bind_eq_some_iff.mp H; obtain ⟨t375, A120, H⟩ := H; replace H : (if t375 = true then (laws_FnTonaryDrop.j0 k t362 t365 t366 t367 t368 t371 t372 (!t368)) else (laws_FnTonaryDrop.j0 k t362 t365 t366 t367 t368 t371 t372 true)) = some r := H; have A12 := Aside0.mk A120; clear A120; by_cases c13 : t375 = true
    ·
     subst c13; have H1 : (laws_FnTonaryDrop.j0 k t362 t365 t366 t367 t368 t371 t372 (!t368)) = some r := by rw [if_pos rfl] at H; exact H
     clear H; have H := H1; clear H1; have H' := Aside0.mk H; clear H; obtain ⟨Ao14, co14, eo14⟩ := Kd.N_slice HO370.out; subst eo14; obtain ⟨Ao15, co15, eo15⟩ := Kd.N_slice HO374.out; subst eo15; go_wp2_with (first | (go_at_call 24; (with_reducible refine (laws_sameEntries.calls k _ _ t367 _ _ t371 true _ ?side1 ?side2 ?side3 ?side4 A12.out).mono ?_); (case side1 => repeat (first | exact (Kd.N_reads' HO370.out).2.2 | (with_reducible refine Kd.C_alloc ?_ _) | (with_reducible refine Kd.C_drewN ?_ _) | (with_reducible refine Kd.C_drew ?_))); (case side2 => exact (Kd.N_reads' HO370.out).2.1); (case side3 => repeat (first | exact (Kd.N_reads' HO374.out).2.2 | (with_reducible refine Kd.C_alloc ?_ _) | (with_reducible refine Kd.C_drewN ?_ _) | (with_reducible refine Kd.C_drew ?_))); (case side4 => exact (Kd.N_reads' HO374.out).2.1); rintro e w16 ⟨rfl, hb⟩; have n0_ := Aside0.mk (Kd.N_below (by (with_reducible repeat (first | apply Kd.N_alloc | apply Kd.N_drewN | apply Kd.N_drew)); exact HO364.out) hb); have n1_ := Aside0.mk (Kd.N_below (by (with_reducible repeat (first | apply Kd.N_alloc | apply Kd.N_drewN | apply Kd.N_drew)); exact HO370.out) hb); have n2_ := Aside0.mk (Kd.N_below (by (with_reducible repeat (first | apply Kd.N_alloc | apply Kd.N_drewN | apply Kd.N_drew)); exact HO374.out) hb); have n3_ := Aside0.mk (below_step (by repeat (first | (with_reducible first | exact HB.out | apply below_alloc | apply pw_below_drewN | apply below_drew1) | exact HB.out)) hb); clear HO364; clear HO370; clear HO374; clear HB; have HO364 := n0_; have HO370 := n1_; have HO374 := n2_; have HB := n3_; clear n0_ n1_ n2_ n3_; (try clear hb); (try clear hb2); (try clear hk); (try clear hi)))
     go_meet
     case rel => exact ⟨_, (!t368), (by first | rfl | (simp; done) | (simp [*]; done)), H', ⟨by first | omega | exact Nat.le_refl _⟩, ⟨by (with_reducible repeat (first | apply Kd.N_alloc | apply Kd.N_drewN | apply Kd.N_drew)); exact Kd.N_mono HO364.out (fun _ hk => ⟨hk.1.2, hk.2⟩)⟩, ⟨by (with_reducible repeat (first | apply Kd.N_alloc | apply Kd.N_drewN | apply Kd.N_drew)); exact HO370.out⟩, ⟨by (with_reducible repeat (first | apply Kd.N_alloc | apply Kd.N_drewN | apply Kd.N_drew)); exact HO374.out⟩, ⟨by repeat (first | (with_reducible first | exact HB.out | apply below_alloc | apply pw_below_drewN | apply below_drew1) | exact HB.out)⟩⟩
    ·
     replace c13 := Bool.eq_false_iff.mpr c13; subst c13; have H1 : (laws_FnTonaryDrop.j0 k t362 t365 t366 t367 t368 t371 t372 true) = some r := by rw [if_neg (show ¬ (false = true) by decide)] at H; exact H
     clear H; have H := H1; clear H1; have H' := Aside0.mk H; clear H; obtain ⟨Ao17, co17, eo17⟩ := Kd.N_slice HO370.out; subst eo17; obtain ⟨Ao18, co18, eo18⟩ := Kd.N_slice HO374.out; subst eo18; go_wp2_with (first | (go_at_call 24; (with_reducible refine (laws_sameEntries.calls k _ _ t367 _ _ t371 false _ ?side1 ?side2 ?side3 ?side4 A12.out).mono ?_); (case side1 => repeat (first | exact (Kd.N_reads' HO370.out).2.2 | (with_reducible refine Kd.C_alloc ?_ _) | (with_reducible refine Kd.C_drewN ?_ _) | (with_reducible refine Kd.C_drew ?_))); (case side2 => exact (Kd.N_reads' HO370.out).2.1); (case side3 => repeat (first | exact (Kd.N_reads' HO374.out).2.2 | (with_reducible refine Kd.C_alloc ?_ _) | (with_reducible refine Kd.C_drewN ?_ _) | (with_reducible refine Kd.C_drew ?_))); (case side4 => exact (Kd.N_reads' HO374.out).2.1); rintro e w19 ⟨rfl, hb⟩; have n0_ := Aside0.mk (Kd.N_below (by (with_reducible repeat (first | apply Kd.N_alloc | apply Kd.N_drewN | apply Kd.N_drew)); exact HO364.out) hb); have n1_ := Aside0.mk (Kd.N_below (by (with_reducible repeat (first | apply Kd.N_alloc | apply Kd.N_drewN | apply Kd.N_drew)); exact HO370.out) hb); have n2_ := Aside0.mk (Kd.N_below (by (with_reducible repeat (first | apply Kd.N_alloc | apply Kd.N_drewN | apply Kd.N_drew)); exact HO374.out) hb); have n3_ := Aside0.mk (below_step (by repeat (first | (with_reducible first | exact HB.out | apply below_alloc | apply pw_below_drewN | apply below_drew1) | exact HB.out)) hb); clear HO364; clear HO370; clear HO374; clear HB; have HO364 := n0_; have HO370 := n1_; have HO374 := n2_; have HB := n3_; clear n0_ n1_ n2_ n3_; (try clear hb); (try clear hb2); (try clear hk); (try clear hi)))
     go_meet
     case rel => exact ⟨_, (true), (by first | rfl | (simp; done) | (simp [*]; done)), H', ⟨by first | omega | exact Nat.le_refl _⟩, ⟨by (with_reducible repeat (first | apply Kd.N_alloc | apply Kd.N_drewN | apply Kd.N_drew)); exact Kd.N_mono HO364.out (fun _ hk => ⟨hk.1.2, hk.2⟩)⟩, ⟨by (with_reducible repeat (first | apply Kd.N_alloc | apply Kd.N_drewN | apply Kd.N_drew)); exact HO370.out⟩, ⟨by (with_reducible repeat (first | apply Kd.N_alloc | apply Kd.N_drewN | apply Kd.N_drew)); exact HO374.out⟩, ⟨by repeat (first | (with_reducible first | exact HB.out | apply below_alloc | apply pw_below_drewN | apply below_drew1) | exact HB.out)⟩⟩
  case rest =>
   clear HC6; try clear c1
   try clear c2
   try clear c2b0
   try clear c2b1
   try clear p2
   try clear c3
   try clear c9
   try clear c11
   try clear c11b0
   try clear c11b1
   try clear c11b2
   try clear c13
   obtain ⟨kq, x50_5, rfl, HA, HJ5, HO_3, HO_6, HO_8, HB⟩ := hcut; cases kq with
   | zero => exact absurd HA.out (by simp [laws_FnTonaryDrop.j0])
   | succ kj5 =>
    have H := HA.out; clear HA; simp only [laws_FnTonaryDrop.j0] at H; by_cases c20 : x50_5 = true
    ·
     subst c20; have H1 : (if (t368 == t372) = true then ((laws_sameEntries.f kj5 t367 t371).bind fun t376 => (some t376)) else (some false)) = some r := by rw [if_pos rfl] at H; exact H
     clear H; have H := H1; clear H1; by_cases c21 : (t368 == t372) = true
     ·
      rw [if_pos c21] at H; have c21b0 : (t368 == t372) = true := c21; (try (have c21b1 : decide (t368 = t372) = true := by simpa using c21))
      (try (have c21b2 : (t368 == t372) = true := by simpa using c21))
      clear c21; replace H := Option.bind_eq_some_iff.mp H; obtain ⟨t376, A220, H⟩ := H; replace H : (some t376) = some r := H; have A22 := Aside0.mk A220; clear A220; obtain rfl := Option.some.inj H; obtain ⟨Ao23, co23, eo23⟩ := Kd.N_slice HO_6.out; subst eo23; obtain ⟨Ao24, co24, eo24⟩ := Kd.N_slice HO_8.out; subst eo24; go_wp2_with (first | (go_at_call 24; (with_reducible refine (laws_sameEntries.calls kj5 _ _ t367 _ _ t371 t376 _ ?side1 ?side2 ?side3 ?side4 A22.out).mono ?_); (case side1 => repeat (first | exact (Kd.N_reads' HO_6.out).2.2 | (with_reducible refine Kd.C_alloc ?_ _) | (with_reducible refine Kd.C_drewN ?_ _) | (with_reducible refine Kd.C_drew ?_))); (case side2 => exact (Kd.N_reads' HO_6.out).2.1); (case side3 => repeat (first | exact (Kd.N_reads' HO_8.out).2.2 | (with_reducible refine Kd.C_alloc ?_ _) | (with_reducible refine Kd.C_drewN ?_ _) | (with_reducible refine Kd.C_drew ?_))); (case side4 => exact (Kd.N_reads' HO_8.out).2.1); rintro e w25 ⟨rfl, hb⟩; have n0_ := Aside0.mk (Kd.N_below (by (with_reducible repeat (first | apply Kd.N_alloc | apply Kd.N_drewN | apply Kd.N_drew)); exact HO_3.out) hb); have n1_ := Aside0.mk (Kd.N_below (by (with_reducible repeat (first | apply Kd.N_alloc | apply Kd.N_drewN | apply Kd.N_drew)); exact HO_6.out) hb); have n2_ := Aside0.mk (Kd.N_below (by (with_reducible repeat (first | apply Kd.N_alloc | apply Kd.N_drewN | apply Kd.N_drew)); exact HO_8.out) hb); have n3_ := Aside0.mk (below_step (by repeat (first | (with_reducible first | exact HB.out | apply below_alloc | apply pw_below_drewN | apply below_drew1) | exact HB.out)) hb); clear HO_3; clear HO_6; clear HO_8; clear HB; have HO_3 := n0_; have HO_6 := n1_; have HO_8 := n2_; have HB := n3_; clear n0_ n1_ n2_ n3_; (try clear hb); (try clear hb2); (try clear hk); (try clear hi)))
      go_ret
      exact ⟨by first | rfl | (simp [errW_none, errW_some] <;> rfl) | (simp [*, errW_none, errW_some] <;> rfl), by repeat (first | (with_reducible first | exact HB.out | apply below_alloc | apply pw_below_drewN | apply below_drew1) | exact HB.out)⟩
     ·
      rw [if_neg c21] at H; exact absurd (H.trans (congrArg some HRR.out)) (by simp)
    ·
     replace c20 := Bool.eq_false_iff.mpr c20; subst c20; have H1 : ((impl_TonaryDrop.f t367 t365 t366).bind fun bt377 => (laws_FnTonaryDrop.l0 kj5 t362 t365 t366 t367 bt377.2 0)) = some r := by rw [if_neg (show ¬ (false = true) by decide)] at H; exact H
     clear H; have H := H1; clear H1; replace H := Option.bind_eq_some_iff.mp H; obtain ⟨⟨t377, t378⟩, A260, H⟩ := H; replace H : (laws_FnTonaryDrop.l0 kj5 t362 t365 t366 t367 t378 0) = some r := H; have A26 := Aside0.mk A260; clear A260; have H' := Aside0.mk H; clear H; obtain ⟨Ao27, co27, eo27⟩ := Kd.N_slice HO_6.out; subst eo27; go_wp2_with (first | ((with_reducible refine gate_callee (f := 27) rfl ?_); refine goesL_ (some 63) rfl rfl Tryd.func27 (by kernel_rfl) rfl #[.slice Ao27 t367.length co27, .int .i64 t365, .string t366] rfl (by (try simp only [List.map_toArray, List.map_cons, List.map_nil]); first | done | rfl | (simp only [List.length_drop, List.length_take]; rfl)) ?_; (with_reducible refine (impl_TonaryDrop.calls _ _ t367 t365 t366 t377 t378 _ ?side1 ?side2 A26.out (ht := HT.out.below (by repeat (first | (with_reducible first | exact HB.out | apply below_alloc | apply pw_below_drewN | apply below_drew1) | exact HB.out)))).mono ?_); (case side1 => repeat (first | exact (Kd.N_reads' HO_6.out).2.2 | (with_reducible refine Kd.C_alloc ?_ _) | (with_reducible refine Kd.C_drewN ?_ _) | (with_reducible refine Kd.C_drew ?_))); (case side2 => exact (Kd.N_reads' HO_6.out).2.1); rintro e w28 ⟨v379, rfl, ho0, hb⟩; refine ⟨_, rfl, ?_⟩; have n0_ := Aside0.mk (Kd.N_elder' (by (with_reducible repeat (first | apply Kd.N_alloc | apply Kd.N_drewN | apply Kd.N_drew)); exact HO_3.out) (by first | exact Kd.N_base ho0 | exact Kd.N_base (Kd.S_N ho0) | exact Kd.N_base (Kd.S_N (Kd.S_bound ho0))) hb); have n1_ := Aside0.mk (Kd.N_elder' (by (with_reducible repeat (first | apply Kd.N_alloc | apply Kd.N_drewN | apply Kd.N_drew)); exact HO_6.out) (by first | exact Kd.N_base ho0 | exact Kd.N_base (Kd.S_N ho0) | exact Kd.N_base (Kd.S_N (Kd.S_bound ho0))) hb); have n2_ := Aside0.mk (Kd.N_elder' (by (with_reducible repeat (first | apply Kd.N_alloc | apply Kd.N_drewN | apply Kd.N_drew)); exact HO_8.out) (by first | exact Kd.N_base ho0 | exact Kd.N_base (Kd.S_N ho0) | exact Kd.N_base (Kd.S_N (Kd.S_bound ho0))) hb); have n3_ := Aside0.mk (Kd.N_lower (Kd.N_mono (ok' := fun k_ => some k_ ≠ (.slice Ao8 t362.length co8 : Value).ownBlock ∧ some k_ ≠ (.slice Ao27 t367.length co27 : Value).ownBlock ∧ some k_ ≠ (v373 : Value).ownBlock) (Kd.S_N (Kd.S_bound ho0)) (fun k_ hk_ => ⟨(Kd.fresh' (Kd.N_lt (by (with_reducible repeat (first | apply Kd.N_alloc | apply Kd.N_drewN | apply Kd.N_drew)); exact HO_3.out)) k_ hk_.2.1), (Kd.fresh' (Kd.N_lt (by (with_reducible repeat (first | apply Kd.N_alloc | apply Kd.N_drewN | apply Kd.N_drew)); exact HO_6.out)) k_ hk_.2.1), (Kd.fresh' (Kd.N_lt (by (with_reducible repeat (first | apply Kd.N_alloc | apply Kd.N_drewN | apply Kd.N_drew)); exact HO_8.out)) k_ hk_.2.1)⟩)) (below_size (by repeat (first | (with_reducible first | exact HB.out | apply below_alloc | apply pw_below_drewN | apply below_drew1) | exact HB.out)))); have n4_ := Aside0.mk (below_step (by repeat (first | (with_reducible first | exact HB.out | apply below_alloc | apply pw_below_drewN | apply below_drew1) | exact HB.out)) hb); clear HO_3; clear HO_6; clear HO_8; clear HB; have HO_3 := n0_; have HO_6 := n1_; have HO_8 := n2_; have HO380 := n3_; have HB := n4_; clear n0_ n1_ n2_ n3_ n4_; (try clear hb); (try clear hb2); (try clear hk); (try clear hi); (try clear ho0)))
     go_loopg [12] kj5 (fun kq v12 w' => ∃ (x12_2 : Int), v12 = .int .i64 x12_2 ∧ Aside0 (laws_FnTonaryDrop.l0 kq t362 t365 t366 t367 t378 x12_2 = some r) ∧ Aside0 (kq ≤ kj5) ∧ Aside0 (Kd.N k38 38 w' w.heap.size (fun k_ => some k_ ≠ ((.slice Ao27 t367.length co27) : Value).ownBlock) (.slice Ao8 t362.length co8) t362) ∧ Aside0 (Kd.N k38 38 w' w.heap.size (fun k_ => some k_ ≠ ((.slice Ao8 t362.length co8) : Value).ownBlock) (.slice Ao27 t367.length co27) t367) ∧ Aside0 (Below w.heap.size w w'))
     case atStart => exact ⟨(0), (by first | rfl | (simp; done) | (simp [*]; done)), H', ⟨Nat.le_refl _⟩, ⟨by (with_reducible repeat (first | apply Kd.N_alloc | apply Kd.N_drewN | apply Kd.N_drew)); exact Kd.N_mono HO_3.out (fun _ hk => hk.1.1)⟩, ⟨by (with_reducible repeat (first | apply Kd.N_alloc | apply Kd.N_drewN | apply Kd.N_drew)); exact Kd.N_mono HO_6.out (fun _ hk => hk.1.1)⟩, ⟨by repeat (first | (with_reducible first | exact HB.out | apply below_alloc | apply pw_below_drewN | apply below_drew1) | exact HB.out)⟩⟩
     case round =>
      clear H'; try clear c1
      try clear c2
      try clear c2b0
      try clear c2b1
      try clear p2
      try clear c3
      try clear c9
      try clear c11
      try clear c11b0
      try clear c11b1
      try clear c11b2
      try clear c13
      try clear c20
      try clear c21
      try clear c21b0
      try clear c21b1
      try clear c21b2
      try clear c26
      try clear c27
      try clear p2
      obtain ⟨x12_2, rfl, HA, HK2, HO_3, HO_6, HB⟩ := hrel; cases gk with
      | zero => exact absurd HA.out (by simp [laws_FnTonaryDrop.l0])
      | succ k2 =>
       have H := HA.out; clear HA; simp only [laws_FnTonaryDrop.l0] at H; by_cases c29 : x12_2 < (t362.length : Int)
       ·
        rw [if_pos c29] at H; have c29b0 : decide (x12_2 < (t362.length : Int)) = true := decide_eq_true c29; clear c29; have HC30 := Aside0.mk H; clear H; go_upto_region 12 with (fail)
        go_cut [87] (fun v87 wc => ∃ (kq : Nat) (x87_29 : Bool), v87 = .bool x87_29 ∧ Aside0 (laws_FnTonaryDrop.j2 kq t362 t365 t366 t367 t378 x12_2 x87_29 = some r) ∧ Aside0 (kq ≤ k2) ∧ Aside0 (Kd.N k38 38 wc w.heap.size (fun k_ => some k_ ≠ ((.slice Ao27 t367.length co27) : Value).ownBlock) (.slice Ao8 t362.length co8) t362) ∧ Aside0 (Kd.N k38 38 wc w.heap.size (fun k_ => some k_ ≠ ((.slice Ao8 t362.length co8) : Value).ownBlock) (.slice Ao27 t367.length co27) t367) ∧ Aside0 (Below w.heap.size w wc))
        case first =>
         have H := HC30.out; clear HC30; by_cases c31 : 0 ≤ x12_2
         ·
          rw [if_pos c31] at H; have c31b0 : decide (0 ≤ x12_2) = true := decide_eq_true c31; clear c31; (first | rw [c31b0] | (simp only [i64_w, i32_w]; rw [c31b0]) | skip)
          by_cases c32 : ((rd_T38 t362 x12_2).f1) = t365
          ·
           rw [if_pos c32] at H; have c32b0 : (((rd_T38 t362 x12_2).f1) == t365) = true := beq_iff_eq.mpr c32; have c32b1 : (((rd_T38 t362 x12_2).f1) != t365) = false := bne_eq_false_iff_eq.mpr c32; clear c32; have H' := Aside0.mk H; clear H; have p381 : 0 ≤ (x12_2 : Int) := of_decide_eq_true (by first | (with_reducible assumption) | assumption); have q381 : x12_2 < (t362.length : Int) := of_decide_eq_true (by first | (with_reducible assumption) | assumption); obtain ⟨ad381, A381_2, c381_2, e381, hx381_0, hx381_1, hx381_2, hl381_2, hi381_2⟩ := at_T38 (Kd.N_reads' HO_3.out).2.2 x12_2 p381 q381; have hq381_2 := hx381_2; cases e381; obtain ⟨ce381, hce381, hMe381, hcc381⟩ := Kd.N_get HO_3.out z38 x12_2 p381 (by first | exact q381 | exact of_decide_eq_true (by first | (with_reducible assumption) | assumption) | (have e_ := (Kd.N_reads' HO_3.out).1; omega)); obtain ⟨ua381_2, uc381_2, rfl, ul381_2, ge381_2⟩ := k38_openF hMe381; have hv381_2 := hcc381 2 _ rfl; rw [add_field _ _ 2 (by omega)] at hv381_2; replace hv381_2 := Option.some.inj (hv381_2.symm.trans hx381_2); injection hv381_2 with hva_ hvn_ hvc_
           rw [hva_] at ge381_2; rw [hvc_] at ul381_2; have HL381_2 := Aside0.mk (show Kd.V k90 90 _ w.heap.size _ _ ((rd_T38 t362 x12_2).f2) from Kd.V_mk ul381_2 ge381_2); clear hva_ hvn_ hvc_ ge381_2 ul381_2; clear hcc381 hce381; have HR381_2 := Aside0.mk hi381_2; have HC381_2 := Aside0.mk hl381_2; clear hi381_2 hl381_2; replace p381 := eq_true p381; replace q381 := eq_true q381; have p382 : 0 ≤ (x12_2 : Int) := of_decide_eq_true (by first | (with_reducible assumption) | assumption); have q382 : x12_2 < (t362.length : Int) := of_decide_eq_true (by first | (with_reducible assumption) | assumption); obtain ⟨ad382, A382_2, c382_2, e382, hx382_0, hx382_1, hx382_2, hl382_2, hi382_2⟩ := at_T38 (Kd.N_reads' HO_3.out).2.2 x12_2 p382 q382; obtain rfl : ad381 = ad382 := (by injection e382)
           obtain ⟨rfl, rfl⟩ : A381_2 = A382_2 ∧ c381_2 = c382_2 := by have h_ := hq381_2.symm.trans hx382_2; injection h_ with h_; injection h_ with e1_ _ e3_; exact ⟨e1_, e3_⟩
           obtain ⟨ce382, hce382, hMe382, hcc382⟩ := Kd.N_get HO_3.out z38 x12_2 p382 (by first | exact q382 | exact of_decide_eq_true (by first | (with_reducible assumption) | assumption) | (have e_ := (Kd.N_reads' HO_3.out).1; omega)); obtain ⟨ua382_2, uc382_2, rfl, ul382_2, ge382_2⟩ := k38_openF hMe382; have hv382_2 := hcc382 2 _ rfl; rw [add_field _ _ 2 (by omega)] at hv382_2; replace hv382_2 := Option.some.inj (hv382_2.symm.trans hx382_2); injection hv382_2 with hva_ hvn_ hvc_
           rw [hva_] at ge382_2; rw [hvc_] at ul382_2; have HL382_2 := Aside0.mk (show Kd.V k90 90 _ w.heap.size _ _ ((rd_T38 t362 x12_2).f2) from Kd.V_mk ul382_2 ge382_2); clear hva_ hvn_ hvc_ ge382_2 ul382_2; clear hcc382 hce382; have HR382_2 := Aside0.mk hi382_2; have HC382_2 := Aside0.mk hl382_2; clear hi382_2 hl382_2; replace p382 := eq_true p382; replace q382 := eq_true q382; go_wp2; go_meet
           case rel => exact ⟨_, ((((rd_T38 t362 x12_2).f0).toList == t366.toList)), (by first | rfl | (simp; done) | (simp [*]; done)), H', ⟨by have := HJ5.out; have := HK2.out; first | omega | exact Nat.le_refl _⟩, ⟨by (with_reducible repeat (first | apply Kd.N_alloc | apply Kd.N_drewN | apply Kd.N_drew)); exact HO_3.out⟩, ⟨by (with_reducible repeat (first | apply Kd.N_alloc | apply Kd.N_drewN | apply Kd.N_drew)); exact HO_6.out⟩, ⟨by repeat (first | (with_reducible first | exact HB.out | apply below_alloc | apply pw_below_drewN | apply below_drew1) | exact HB.out)⟩⟩
          ·
           rw [if_neg c32] at H; have c32b0 : (((rd_T38 t362 x12_2).f1) == t365) = false := beq_eq_false_iff_ne.mpr c32; have c32b1 : (((rd_T38 t362 x12_2).f1) != t365) = true := bne_iff_ne.mpr c32; have H' := Aside0.mk H; clear H; have p381 : 0 ≤ (x12_2 : Int) := of_decide_eq_true (by first | (with_reducible assumption) | assumption); have q381 : x12_2 < (t362.length : Int) := of_decide_eq_true (by first | (with_reducible assumption) | assumption); obtain ⟨ad381, A381_2, c381_2, e381, hx381_0, hx381_1, hx381_2, hl381_2, hi381_2⟩ := at_T38 (Kd.N_reads' HO_3.out).2.2 x12_2 p381 q381; have hq381_2 := hx381_2; cases e381; obtain ⟨ce381, hce381, hMe381, hcc381⟩ := Kd.N_get HO_3.out z38 x12_2 p381 (by first | exact q381 | exact of_decide_eq_true (by first | (with_reducible assumption) | assumption) | (have e_ := (Kd.N_reads' HO_3.out).1; omega)); obtain ⟨ua381_2, uc381_2, rfl, ul381_2, ge381_2⟩ := k38_openF hMe381; have hv381_2 := hcc381 2 _ rfl; rw [add_field _ _ 2 (by omega)] at hv381_2; replace hv381_2 := Option.some.inj (hv381_2.symm.trans hx381_2); injection hv381_2 with hva_ hvn_ hvc_
           rw [hva_] at ge381_2; rw [hvc_] at ul381_2; have HL381_2 := Aside0.mk (show Kd.V k90 90 _ w.heap.size _ _ ((rd_T38 t362 x12_2).f2) from Kd.V_mk ul381_2 ge381_2); clear hva_ hvn_ hvc_ ge381_2 ul381_2; clear hcc381 hce381; have HR381_2 := Aside0.mk hi381_2; have HC381_2 := Aside0.mk hl381_2; clear hi381_2 hl381_2; replace p381 := eq_true p381; replace q381 := eq_true q381; go_wp2; go_meet
           case rel => exact ⟨_, (false), (by first | rfl | (simp; done) | (simp [*]; done)), H', ⟨by have := HJ5.out; have := HK2.out; first | omega | exact Nat.le_refl _⟩, ⟨by (with_reducible repeat (first | apply Kd.N_alloc | apply Kd.N_drewN | apply Kd.N_drew)); exact HO_3.out⟩, ⟨by (with_reducible repeat (first | apply Kd.N_alloc | apply Kd.N_drewN | apply Kd.N_drew)); exact HO_6.out⟩, ⟨by repeat (first | (with_reducible first | exact HB.out | apply below_alloc | apply pw_below_drewN | apply below_drew1) | exact HB.out)⟩⟩
         ·
          rw [if_neg c31] at H; exact absurd H (by simp)
        case rest =>
         clear HC30; try clear c1
         try clear c2
         try clear c2b0
         try clear c2b1
         try clear p2
         try clear c3
         try clear p3
         try clear q3
         try clear hx3
         try clear c9
         try clear c11
         try clear c11b0
         try clear c11b1
         try clear c11b2
         try clear c13
         try clear c20
         try clear c21
         try clear c21b0
         try clear c21b1
         try clear c21b2
         try clear c26
         try clear c27
         try clear c29
         try clear c29b0
         try clear c31
         try clear c31b0
         try clear c32
         try clear c32b0
         try clear c32b1
         try clear hx381_0
         try clear hx381_1
         try clear hx381_2
         try clear hx382_0
         try clear hx382_1
         try clear hx382_2
         try clear p2
         try clear p381
         try clear p382
         try clear q381
         try clear q382
         obtain ⟨kq, x87_29, rfl, HA, HJ29, HO_3, HO_6, HB⟩ := hcut; cases kq with
         | zero => exact absurd HA.out (by simp [laws_FnTonaryDrop.j2])
         | succ kj29 =>
          have H := HA.out; clear HA; simp only [laws_FnTonaryDrop.j2] at H; by_cases c33 : x87_29 = true
          ·
           subst c33; have H1 : (if 0 ≤ x12_2 then (if x12_2 < (t362.length : Int) then ((impl_TonaryAdd.f t367 ((rd_T38 t362 x12_2).f0) ((rd_T38 t362 x12_2).f1) ((rd_T38 t362 x12_2).f2)).bind fun bt384 => (if t378 = true then (some false) else (if bt384.2 = true then ((laws_sameEntries.f kj29 bt384.1 t362).bind fun t388 => (if t388 = true then (some ((t367.length : Int) == (wrap64 ((t362.length : Int) - 1)))) else (some false))) else (some false)))) else (none)) else (none)) = some r := by rw [if_pos rfl] at H; exact H
           clear H; have H := H1; clear H1; by_cases c34 : 0 ≤ x12_2
           ·
            rw [if_pos c34] at H; have c34b0 : decide (0 ≤ x12_2) = true := decide_eq_true c34; clear c34; by_cases c35 : x12_2 < (t362.length : Int)
            ·
             rw [if_pos c35] at H; have c35b0 : decide (x12_2 < (t362.length : Int)) = true := decide_eq_true c35; clear c35; replace H := Option.bind_eq_some_iff.mp H; obtain ⟨⟨t384, t387⟩, A360, H⟩ := H; replace H : (if t378 = true then (some false) else (if t387 = true then ((laws_sameEntries.f kj29 t384 t362).bind fun t388 => (if t388 = true then (some ((t367.length : Int) == (wrap64 ((t362.length : Int) - 1)))) else (some false))) else (some false))) = some r := H; have A36 := Aside0.mk A360; clear A360; by_cases c37 : t378 = true
             ·
              subst c37; have H1 : (some false) = some r := by rw [if_pos rfl] at H; exact H
              exact absurd (H1.trans (congrArg some HRR.out)) (by simp)
             ·
              replace c37 := Bool.eq_false_iff.mpr c37; subst c37; have H1 : (if t387 = true then ((laws_sameEntries.f kj29 t384 t362).bind fun t388 => (if t388 = true then (some ((t367.length : Int) == (wrap64 ((t362.length : Int) - 1)))) else (some false))) else (some false)) = some r := by rw [if_neg (show ¬ (false = true) by decide)] at H; exact H
              clear H; have H := H1; clear H1; by_cases c39 : t387 = true
              ·
               subst c39; have H1 : ((laws_sameEntries.f kj29 t384 t362).bind fun t388 => (if t388 = true then (some ((t367.length : Int) == (wrap64 ((t362.length : Int) - 1)))) else (some false))) = some r := by rw [if_pos rfl] at H; exact H
               clear H; have H := H1; clear H1; replace H := Option.bind_eq_some_iff.mp H; obtain ⟨t388, A400, H⟩ := H; replace H : (if t388 = true then (some ((t367.length : Int) == (wrap64 ((t362.length : Int) - 1)))) else (some false)) = some r := H; have A40 := Aside0.mk A400; clear A400; by_cases c41 : t388 = true
               ·
                subst c41; have H1 : (some ((t367.length : Int) == (wrap64 ((t362.length : Int) - 1)))) = some r := by rw [if_pos rfl] at H; exact H
                clear H; have H := H1; clear H1; obtain rfl := Option.some.inj H; have p383 : 0 ≤ (x12_2 : Int) := of_decide_eq_true (by first | (with_reducible assumption) | assumption); have q383 : x12_2 < (t362.length : Int) := of_decide_eq_true (by first | (with_reducible assumption) | assumption); obtain ⟨ad383, A383_2, c383_2, e383, hx383_0, hx383_1, hx383_2, hl383_2, hi383_2⟩ := at_T38 (Kd.N_reads' HO_3.out).2.2 x12_2 p383 q383; cases e383; obtain ⟨ce383, hce383, hMe383, hcc383⟩ := Kd.N_get HO_3.out z38 x12_2 p383 (by first | exact q383 | exact of_decide_eq_true (by first | (with_reducible assumption) | assumption) | (have e_ := (Kd.N_reads' HO_3.out).1; omega)); obtain ⟨ua383_2, uc383_2, rfl, ul383_2, ge383_2⟩ := k38_openF hMe383; have hv383_2 := hcc383 2 _ rfl; rw [add_field _ _ 2 (by omega)] at hv383_2; replace hv383_2 := Option.some.inj (hv383_2.symm.trans hx383_2); injection hv383_2 with hva_ hvn_ hvc_
                rw [hva_] at ge383_2; rw [hvc_] at ul383_2; have HL383_2 := Aside0.mk (show Kd.V k90 90 _ w.heap.size _ _ ((rd_T38 t362 x12_2).f2) from Kd.V_mk ul383_2 ge383_2); clear hva_ hvn_ hvc_ ge383_2 ul383_2; clear hcc383 hce383; have HR383_2 := Aside0.mk hi383_2; have HC383_2 := Aside0.mk hl383_2; clear hi383_2 hl383_2; replace p383 := eq_true p383; replace q383 := eq_true q383; go_wp2_with (first | ((with_reducible refine gate_callee (f := 38) rfl ?_); refine goesL_ (some 94) rfl rfl Tryd.func38 (by kernel_rfl) rfl #[.slice Ao27 t367.length co27, .agg #[.string ((rd_T38 t362 x12_2).f0), .int .i64 ((rd_T38 t362 x12_2).f1), .slice A383_2 ((rd_T38 t362 x12_2).f2).length c383_2]] rfl (by (try simp only [List.map_toArray, List.map_cons, List.map_nil]); first | done | rfl | (simp only [List.length_drop, List.length_take]; rfl)) ?_; (with_reducible refine (impl_TonaryAdd.calls _ _ t367 ((rd_T38 t362 x12_2).f0) ((rd_T38 t362 x12_2).f1) _ _ ((rd_T38 t362 x12_2).f2) t384 true _ ?side1 ?side2 ?side3 ?side4 A36.out (ht := HT.out.below (by repeat (first | (with_reducible first | exact HB.out | apply below_alloc | apply pw_below_drewN | apply below_drew1) | exact HB.out)))).mono ?_); (case side1 => repeat (first | exact (Kd.N_reads' HO_6.out).2.2 | (with_reducible refine Kd.C_alloc ?_ _) | (with_reducible refine Kd.C_drewN ?_ _) | (with_reducible refine Kd.C_drew ?_))); (case side2 => exact (Kd.N_reads' HO_6.out).2.1); (case side3 => repeat (first | exact (by repeat (first | (with_reducible exact HR383_2.out) | (with_reducible refine Kd.C_alloc ?_ _) | (with_reducible refine Kd.C_drewN ?_ _) | (with_reducible refine Kd.C_drew ?_) | exact HR383_2.out)) | (with_reducible refine Kd.C_alloc ?_ _) | (with_reducible refine Kd.C_drewN ?_ _) | (with_reducible refine Kd.C_drew ?_))); (case side4 => exact HC383_2.out); rintro e w42 ⟨v385, rfl, ho0, hb⟩; refine ⟨_, rfl, ?_⟩; have n0_ := Aside0.mk (Kd.N_elder' (by (with_reducible repeat (first | apply Kd.N_alloc | apply Kd.N_drewN | apply Kd.N_drew)); exact HO_3.out) (by first | exact Kd.N_base ho0 | exact Kd.N_base (Kd.S_N ho0) | exact Kd.N_base (Kd.S_N (Kd.S_bound ho0))) hb); have n1_ := Aside0.mk (Kd.N_elder' (by (with_reducible repeat (first | apply Kd.N_alloc | apply Kd.N_drewN | apply Kd.N_drew)); exact HO_6.out) (by first | exact Kd.N_base ho0 | exact Kd.N_base (Kd.S_N ho0) | exact Kd.N_base (Kd.S_N (Kd.S_bound ho0))) hb); have n2_ := Aside0.mk (Kd.V_elder' (by (with_reducible repeat (first | apply Kd.V_alloc | apply Kd.V_drewN | apply Kd.V_drew)); exact HL383_2.out) (by first | exact Kd.N_base ho0 | exact Kd.N_base (Kd.S_N ho0) | exact Kd.N_base (Kd.S_N (Kd.S_bound ho0))) hb); have n3_ := Aside0.mk (Kd.N_lower (Kd.N_mono (ok' := fun k_ => some k_ ≠ (.slice (some ad383) t362.length co8 : Value).ownBlock ∧ some k_ ≠ (.slice Ao27 t367.length co27 : Value).ownBlock) (Kd.S_N (Kd.S_bound ho0)) (fun k_ hk_ => ⟨(Kd.fresh' (Kd.N_lt (by (with_reducible repeat (first | apply Kd.N_alloc | apply Kd.N_drewN | apply Kd.N_drew)); exact HO_3.out)) k_ hk_.2.1), (Kd.fresh' (Kd.N_lt (by (with_reducible repeat (first | apply Kd.N_alloc | apply Kd.N_drewN | apply Kd.N_drew)); exact HO_6.out)) k_ hk_.2.1)⟩)) (below_size (by repeat (first | (with_reducible first | exact HB.out | apply below_alloc | apply pw_below_drewN | apply below_drew1) | exact HB.out)))); have n4_ := Aside0.mk (Kd.C_below (by repeat (first | (with_reducible exact HR383_2.out) | (with_reducible refine Kd.C_alloc ?_ _) | (with_reducible refine Kd.C_drewN ?_ _) | (with_reducible refine Kd.C_drew ?_) | exact HR383_2.out)) hb); have n5_ := Aside0.mk (below_step (by repeat (first | (with_reducible first | exact HB.out | apply below_alloc | apply pw_below_drewN | apply below_drew1) | exact HB.out)) hb); clear HO_3; clear HO_6; clear HL383_2; clear HR383_2; clear HB; have HO_3 := n0_; have HO_6 := n1_; have HL383_2 := n2_; have HO386 := n3_; have HR383_2 := n4_; have HB := n5_; clear n0_ n1_ n2_ n3_ n4_ n5_; (try clear hb); (try clear hb2); (try clear hk); (try clear hi); (try clear ho0); obtain ⟨Ao43, co43, eo43⟩ := Kd.N_slice HO386.out; subst eo43) | (go_at_call 24; (with_reducible refine (laws_sameEntries.calls kj29 _ _ t384 _ _ t362 true _ ?side1 ?side2 ?side3 ?side4 A40.out).mono ?_); (case side1 => repeat (first | exact (Kd.N_reads' HO386.out).2.2 | (with_reducible refine Kd.C_alloc ?_ _) | (with_reducible refine Kd.C_drewN ?_ _) | (with_reducible refine Kd.C_drew ?_))); (case side2 => exact (Kd.N_reads' HO386.out).2.1); (case side3 => repeat (first | exact (Kd.N_reads' HO_3.out).2.2 | (with_reducible refine Kd.C_alloc ?_ _) | (with_reducible refine Kd.C_drewN ?_ _) | (with_reducible refine Kd.C_drew ?_))); (case side4 => exact (Kd.N_reads' HO_3.out).2.1); rintro e w44 ⟨rfl, hb⟩; have n0_ := Aside0.mk (Kd.N_below (by (with_reducible repeat (first | apply Kd.N_alloc | apply Kd.N_drewN | apply Kd.N_drew)); exact HO_3.out) hb); have n1_ := Aside0.mk (Kd.N_below (by (with_reducible repeat (first | apply Kd.N_alloc | apply Kd.N_drewN | apply Kd.N_drew)); exact HO_6.out) hb); have n2_ := Aside0.mk (Kd.V_below (by (with_reducible repeat (first | apply Kd.V_alloc | apply Kd.V_drewN | apply Kd.V_drew)); exact HL383_2.out) hb); have n3_ := Aside0.mk (Kd.N_below (by (with_reducible repeat (first | apply Kd.N_alloc | apply Kd.N_drewN | apply Kd.N_drew)); exact HO386.out) hb); have n4_ := Aside0.mk (Kd.C_below (by repeat (first | (with_reducible exact HR383_2.out) | (with_reducible refine Kd.C_alloc ?_ _) | (with_reducible refine Kd.C_drewN ?_ _) | (with_reducible refine Kd.C_drew ?_) | exact HR383_2.out)) hb); have n5_ := Aside0.mk (below_step (by repeat (first | (with_reducible first | exact HB.out | apply below_alloc | apply pw_below_drewN | apply below_drew1) | exact HB.out)) hb); clear HO_3; clear HO_6; clear HL383_2; clear HO386; clear HR383_2; clear HB; have HO_3 := n0_; have HO_6 := n1_; have HL383_2 := n2_; have HO386 := n3_; have HR383_2 := n4_; have HB := n5_; clear n0_ n1_ n2_ n3_ n4_ n5_; (try clear hb); (try clear hb2); (try clear hk); (try clear hi)))
                go_ret
                exact ⟨by first | rfl | (simp [errW_none, errW_some] <;> rfl) | (simp [*, errW_none, errW_some] <;> rfl), by repeat (first | (with_reducible first | exact HB.out | apply below_alloc | apply pw_below_drewN | apply below_drew1) | exact HB.out)⟩
               ·
                replace c41 := Bool.eq_false_iff.mpr c41; subst c41; have H1 : (some false) = some r := by rw [if_neg (show ¬ (false = true) by decide)] at H; exact H
                exact absurd (H1.trans (congrArg some HRR.out)) (by simp)
              ·
               replace c39 := Bool.eq_false_iff.mpr c39; subst c39; have H1 : (some false) = some r := by rw [if_neg (show ¬ (false = true) by decide)] at H; exact H
               exact absurd (H1.trans (congrArg some HRR.out)) (by simp)
            ·
             rw [if_neg c35] at H; exact absurd H (by simp)
           ·
            rw [if_neg c34] at H; exact absurd H (by simp)
          ·
           replace c33 := Bool.eq_false_iff.mpr c33; subst c33; have H1 : (laws_FnTonaryDrop.l0 kj29 t362 t365 t366 t367 t378 (wrap64 (x12_2 + 1))) = some r := by rw [if_neg (show ¬ (false = true) by decide)] at H; exact H
           clear H; have H := H1; clear H1; have H' := Aside0.mk H; clear H; go_wp2; go_roundg kj29
           case measure => have := HJ5.out; have := HK2.out; have := HJ29.out; omega
           case rel => exact ⟨(wrap64 (x12_2 + 1)), (by first | rfl | (simp; done) | (simp [*]; done)), H', ⟨by have := HJ5.out; have := HK2.out; have := HJ29.out; omega⟩, ⟨by (with_reducible repeat (first | apply Kd.N_alloc | apply Kd.N_drewN | apply Kd.N_drew)); exact HO_3.out⟩, ⟨by (with_reducible repeat (first | apply Kd.N_alloc | apply Kd.N_drewN | apply Kd.N_drew)); exact HO_6.out⟩, ⟨by repeat (first | (with_reducible first | exact HB.out | apply below_alloc | apply pw_below_drewN | apply below_drew1) | exact HB.out)⟩⟩
       ·
        rw [if_neg c29] at H; exact absurd (H.trans (congrArg some HRR.out)) (by simp)
end Go.Proofs.YtmacedbpdhkagaaDoor.PFnTonaryDrop
namespace Go.Proofs.YtmacedbpdhkagaaDoor.Pure
set_option linter.unusedVariables false
set_option linter.unusedSimpArgs false
open Go Go.RowKit Go.Proofs.YtmacedbpdhkagaaDoor.PFnTonaryDrop Go.Proofs.YtmacedbpdhkagaaDoorW.PrintWords Go.Proofs.YtmacedbpdhkagaaDoorW.PrintLast Go.Proofs.YtmacedbpdhkagaaDoorW.PrintMore

theorem spec_l6In_eq (a b c : Int) : spec_l6In.f a b c = some (decide (b ≤ a ∧ a ≤ c)) := by
 unfold spec_l6In.f
 by_cases h : a ≥ b
 ·
  rw [if_pos h]; simp [show b ≤ a from h]
 ·
  rw [if_neg h]; simp [show ¬ b ≤ a from h]
theorem spec_ToneValid_eq (a : Int) (b : Bool) : spec_ToneValid.f a b = some (toneOk ⟨a, b⟩) := by
 unfold spec_ToneValid.f toneOk
 rw [spec_l6In_eq]
 by_cases h : 0 ≤ a ∧ a ≤ 20
 ·
  cases b <;> simp [h, spec_l1Letter.f]
 ·
  simp [h]
theorem spec_MelodyValid_ev (m : List S90) (hm : m.length ≤ 1000000000000) : Ev (fun k => spec_MelodyValid.f k m) (melOk m) := by
 unfold spec_MelodyValid.f
 have := Ev.over z90 m (fun k (_ : Unit) i => spec_MelodyValid.l0 k m i) (fun _ l => l.all toneOk && decide (m.length ≤ 24)) (fun _ _ => True) (by
  intro s _
  refine Ev.succ ?_
  simp only [spec_MelodyValid.l0]
  refine Ev.eqr (Ev.neg (by omega) (Ev.now _)) ?_
  simp; omega) (by
  intro s i rest _ hi _ ih
  refine Ev.succ ?_
  simp only [spec_MelodyValid.l0]
  refine Ev.pos (by omega) (Ev.pos (by omega) (Ev.conb (spec_ToneValid_eq _ _) ?_))
  show Ev _ (toneOk (rd_T90 m i) && _ && _)
  cases ht : toneOk (rd_T90 m i)
  ·
   exact Ev.neg (by simp [ht]) (Ev.now _)
  ·
   refine Ev.pos (by simp [ht]) ?_
   rw [w64 (by omega) (by omega)]
   simpa using ih () trivial) 0 () (Nat.zero_le _) trivial
 refine Ev.eqr (by simpa using this) ?_
 unfold melOk
 rw [Bool.and_comm]

theorem spec_l5Mode_eq (mode : Int) : spec_l5Mode.f mode = some (mOk mode) := by
 unfold spec_l5Mode.f
 rw [spec_l6In_eq]; rfl
theorem spec_l5Entry_ev (e : S38) (hs : e.f0.size ≤ 9000000000000000) (hl : e.f2.length ≤ 1000000000000) : Ev (fun n => spec_l5Entry.f n e.f0 e.f1 e.f2) (entOk e) := by
 unfold spec_l5Entry.f
 have key : ∀ d i : Nat, i + d = e.f0.size → Ev (fun n => spec_l5Entry.l0 n (i : Int) e.f0 e.f1 e.f2) (lowB (e.f0.data.toList.drop i) && (decide (1 ≤ e.f0.size ∧ e.f0.size ≤ 10) && (mOk e.f1 && (melOk e.f2 && decide (1 ≤ e.f2.length ∧ e.f2.length ≤ 8))))) := by
  intro d
  induction d with
  | zero =>
   intro i hi
   refine Ev.succ ?_
   simp only [spec_l5Entry.l0]
   rw [List.drop_of_length_le (by simp; omega)]
   refine Ev.neg (by omega) (Ev.conb (spec_l6In_eq _ _ _) ?_)
   rw [show (decide ((1 : Int) ≤ (e.f0.size : Int) ∧ (e.f0.size : Int) ≤ 10)) = decide (1 ≤ e.f0.size ∧ e.f0.size ≤ 10) from decide_eq_decide.2 (by omega)]
   show Ev _ (true && _)
   rw [Bool.true_and]
   cases decide (1 ≤ e.f0.size ∧ e.f0.size ≤ 10)
   ·
    exact Ev.neg (by simp) (Ev.now _)
   refine Ev.pos rfl (Ev.conb (spec_l5Mode_eq _) ?_)
   rw [Bool.true_and]
   cases mOk e.f1
   ·
    exact Ev.neg (by simp) (Ev.now _)
   refine Ev.pos rfl (Ev.bind (spec_MelodyValid_ev e.f2 hl) ?_)
   rw [Bool.true_and]
   cases melOk e.f2
   ·
    exact Ev.neg (by simp) (Ev.now _)
   refine Ev.pos rfl (Ev.conb (spec_l6In_eq _ _ _) (Ev.eqr (Ev.now _) ?_))
   rw [Bool.true_and]
   exact decide_eq_decide.2 (by omega)
  | succ d ih =>
   intro i hi
   obtain ⟨c, hc, hdr⟩ := bt_get e.f0 i (by omega)
   refine Ev.succ ?_
   simp only [spec_l5Entry.l0]
   rw [hc, hdr, w64 (x := (i : Int) + 1) (by omega) (by omega)]
   have e2 : lowB (c :: e.f0.data.toList.drop (i + 1)) = (decide (97 ≤ c.toNat ∧ c.toNat ≤ 122) && lowB (e.f0.data.toList.drop (i + 1))) := rfl
   rw [e2]
   refine Ev.pos (by omega) (Ev.pos (by omega) ?_)
   by_cases h97 : (c.toNat : Int) < 97
   ·
    refine Ev.pos h97 (Ev.eqr (Ev.now _) ?_)
    rw [decide_eq_false (by omega)]; rfl
   refine Ev.neg h97 ?_
   by_cases h122 : (c.toNat : Int) > 122
   ·
    refine Ev.pos h122 (Ev.eqr (Ev.now _) ?_)
    rw [decide_eq_false (by omega)]; rfl
   refine Ev.neg h122 ?_
   rw [decide_eq_true (show 97 ≤ c.toNat ∧ c.toNat ≤ 122 by omega), Bool.true_and]
   exact ih (i + 1) (by omega)
 refine Ev.eqr (key e.f0.size 0 (by omega)) ?_
 unfold entOk
 rw [List.drop_zero]
 cases lowB e.f0.data.toList <;> cases mOk e.f1 <;> cases melOk e.f2 <;> cases decide (1 ≤ e.f0.size ∧ e.f0.size ≤ 10) <;> cases decide (1 ≤ e.f2.length ∧ e.f2.length ≤ 8) <;> rfl
theorem spec_l5Before_eq (p e : S38) : spec_l5Before.f p.f0 p.f1 p.f2 e.f0 e.f1 e.f2 = some (befE p e) := by
 unfold spec_l5Before.f befE nmLt
 by_cases h1 : p.f1 < e.f1
 ·
  rw [if_pos h1, if_pos h1]
 rw [if_neg h1, if_neg h1]
 by_cases h2 : p.f1 = e.f1
 ·
  rw [if_pos h2, if_pos h2]
 ·
  rw [if_neg h2, if_neg h2]
theorem spec_TonaryValid_ev (L : List S38) (hl : L.length ≤ 1000000000000) (hz : entSz L = true) : Ev (fun n => spec_TonaryValid.f n L) (tonOk L) := by
 have HZ := entSz_all hz
 unfold spec_TonaryValid.f
 have key : ∀ d i : Nat, i + d = L.length → Ev (fun n => spec_TonaryValid.l0 n L (i : Int)) (tOkFrom (prevOf L i) (L.drop i) && decide (L.length ≤ 20)) := by
  intro d
  induction d with
  | zero =>
   intro i hi
   refine Ev.succ ?_
   simp only [spec_TonaryValid.l0]
   rw [List.drop_of_length_le (by omega)]
   refine Ev.neg (by omega) (Ev.eqr (Ev.now _) ?_)
   have : tOkFrom (prevOf L i) [] = true := by cases prevOf L i <;> rfl
   rw [this, Bool.true_and]
   exact decide_eq_decide.2 (by omega)
  | succ d ih =>
   intro i hi
   have hlt : i < L.length := by omega
   have hzi := HZ _ (rd_ent L i hlt)
   have ih := ih (i + 1) (by omega)
   rw [prev_next] at ih
   refine Ev.succ ?_
   simp only [spec_TonaryValid.l0]
   rw [rd_drop L i hlt, w64 (x := (i : Int) + 1) (by omega) (by omega)]
   refine Ev.pos (by omega) (Ev.pos (by omega) (Ev.bind (spec_l5Entry_ev (rd_T38 L (i : Int)) hzi.1 hzi.2) ?_))
   cases hve : entOk (rd_T38 L (i : Int))
   ·
    refine Ev.neg (by simp) (Ev.eqr (Ev.now _) ?_)
    cases prevOf L i <;> (simp only [tOkFrom]; rw [hve]; rfl)
   refine Ev.pos rfl ?_
   by_cases h0 : (i : Int) > 0
   ·
    refine Ev.pos h0 ?_
    rw [w64 (x := (i : Int) - 1) (by omega) (by omega)]
    have hp : prevOf L i = some (rd_T38 L ((i : Int) - 1)) := by unfold prevOf; rw [if_neg (by omega)]
    refine Ev.pos (by omega) (Ev.pos (by omega) (Ev.conb (spec_l5Before_eq _ _) ?_))
    rw [hp]
    simp only [tOkFrom]
    rw [hve, Bool.true_and]
    cases befE (rd_T38 L ((i : Int) - 1)) (rd_T38 L (i : Int))
    ·
     exact Ev.neg (by simp) (Ev.now _)
    ·
     refine Ev.pos rfl ?_
     rw [Bool.true_and]
     exact ih
   ·
    refine Ev.neg h0 ?_
    have hp : prevOf L i = none := by unfold prevOf; rw [if_pos (by omega)]
    rw [hp]
    simp only [tOkFrom]
    rw [hve, Bool.true_and]
    exact ih
 refine Ev.eqr (key L.length 0 (by omega)) ?_
 unfold tonOk
 rw [Bool.and_comm, List.drop_zero]; rfl

theorem spec_l5Copy_eq (e : S38) (h : e.f2.length ≤ 1000000000000) : spec_l5Copy.f e.f0 e.f1 e.f2 = some (e.f0, e.f1, e.f2) := by
 unfold spec_l5Copy.f
 simp only [Option.bind_some, List.nil_append, List.length_nil]
 rw [if_pos (by omega)]

def insR (L : List S38) (e : S38) (at_ i : Nat) : List S38 := if i ≤ at_ then (L.drop i).take (at_ - i) ++ e :: L.drop at_ else L.drop i
theorem insR_zero (L : List S38) (e : S38) (a : Nat) : insR L e a 0 = insAt L a e := by
 unfold insR insAt
 rw [if_pos (Nat.zero_le _), List.drop_zero, Nat.sub_zero]
theorem insR_lt (L : List S38) (e : S38) (a i : Nat) (hi : i < L.length) (ha : i < a) : insR L e a i = rd_T38 L (i : Int) :: insR L e a (i + 1) := by
 unfold insR
 rw [if_pos (by omega), if_pos (by omega), rd_drop L i hi, show a - i = (a - (i + 1)) + 1 by omega, List.take_succ_cons]; rfl
theorem insR_eq (L : List S38) (e : S38) (i : Nat) (hi : i < L.length) : insR L e i i = e :: rd_T38 L (i : Int) :: insR L e i (i + 1) := by
 unfold insR
 rw [if_pos (Nat.le_refl _), if_neg (by omega), Nat.sub_self, List.take_zero, rd_drop L i hi]; rfl
theorem insR_gt (L : List S38) (e : S38) (a i : Nat) (hi : i < L.length) (ha : a < i) : insR L e a i = rd_T38 L (i : Int) :: insR L e a (i + 1) := by
 unfold insR
 rw [if_neg (by omega), if_neg (by omega), rd_drop L i hi]
theorem insR_end (L : List S38) (e : S38) (a : Nat) (ha : a ≤ L.length) : insR L e a L.length = if a = L.length then [e] else [] := by
 unfold insR
 by_cases h : a = L.length
 ·
  subst h
  rw [if_pos (Nat.le_refl _), if_pos rfl, Nat.sub_self, List.take_zero, List.drop_length]; rfl
 ·
  rw [if_neg (by omega), if_neg h, List.drop_length]
theorem entSz_ins {L : List S38} {e : S38} (n : Nat) (hz : entSz L = true) (he : e.f0.size ≤ 9000000000000000 ∧ e.f2.length ≤ 1000000000000) : entSz (insAt L n e) = true := by
 unfold insAt
 refine List.all_eq_true.2 fun x hx => decide_eq_true ?_
 rcases List.mem_append.1 hx with h | h
 ·
  exact entSz_all hz x (List.mem_of_mem_take h)
 ·
  rcases List.mem_cons.1 h with rfl | h
  ·
   exact he
  ·
   exact entSz_all hz x (List.mem_of_mem_drop h)
theorem spec_TonaryAdd_ev (L : List S38) (e : S38) (hl : L.length ≤ 1000000000) (hz : entSz L = true) (he : e.f0.size ≤ 9000000000000000 ∧ e.f2.length ≤ 1000000000000) :
 Ev (fun n => spec_TonaryAdd.f n L e.f0 e.f1 e.f2) (tonAdd L e) := by
 have HZ := entSz_all hz
 have hv := spec_TonaryValid_ev L (by omega) hz
 unfold spec_TonaryAdd.f tonAdd
 refine Ev.conb rfl (Ev.bind hv ?_)
 cases hk : tonOk L
 ·
  rw [if_neg (by simp)]
  exact Ev.neg (by simp) (Ev.now _)
 rw [if_pos rfl]
 refine Ev.pos rfl ?_
 have hec := spec_l5Copy_eq e he.2
 have key1 : ∀ (a : Nat), a ≤ L.length → ∀ (d i : Nat) (X : List S38), i + d = L.length → X.length ≤ 2 * i → X ++ insR L e a i = insAt L a e → Ev (fun n => spec_TonaryAdd.l1 n L X (a : Int) (i : Int) e.f0 e.f1 e.f2) (tonRes (insAt L a e)) := by
  intro a ha d
  have hvz := spec_TonaryValid_ev (insAt L a e) (by rw [insAt_len]; omega) (entSz_ins a hz he)
  induction d with
  | zero =>
   intro i X hi hX hin
   obtain rfl : i = L.length := by omega
   rw [insR_end L e a ha] at hin
   refine Ev.succ ?_
   simp only [spec_TonaryAdd.l1]
   refine Ev.neg (by omega) ?_
   unfold tonRes
   by_cases h : a = L.length
   ·
    rw [if_pos h] at hin
    refine Ev.pos (by omega) (Ev.conb hec (Ev.pos (by omega) (Ev.conb rfl ?_)))
    rw [show (⟨e.f0, e.f1, e.f2⟩ : S38) = e from rfl, hin]
    refine Ev.bind hvz ?_
    cases tonOk (insAt L a e)
    ·
     exact Ev.neg (by simp) (Ev.now _)
    ·
     exact Ev.pos rfl (Ev.now _)
   ·
    rw [if_neg h, List.append_nil] at hin
    refine Ev.neg (by omega) ?_
    rw [hin]
    refine Ev.bind hvz ?_
    cases tonOk (insAt L a e)
    ·
     exact Ev.neg (by simp) (Ev.now _)
    ·
     exact Ev.pos rfl (Ev.now _)
  | succ d ih =>
   intro i X hi hX hin
   have hlt : i < L.length := by omega
   have hzi := HZ _ (rd_ent L i hlt)
   have hrc := spec_l5Copy_eq (rd_T38 L (i : Int)) hzi.2
   have ih1 := fun X hX hin => ih (i + 1) X (by omega) hX hin
   rw [show ((i + 1 : Nat) : Int) = (i : Int) + 1 by omega] at ih1
   refine Ev.succ ?_
   simp only [spec_TonaryAdd.l1]
   rw [w64 (x := (i : Int) + 1) (by omega) (by omega)]
   refine Ev.pos (by omega) ?_
   by_cases hia : i = a
   ·
    subst hia
    rw [insR_eq L e i hlt] at hin
    refine Ev.pos rfl (Ev.conb hec (Ev.pos (by omega) (Ev.conb rfl (Ev.pos (by omega) (Ev.conb hrc (Ev.pos (by rw [List.length_append, List.length_singleton]; omega) ?_))))))
    refine ih1 _ (by rw [List.length_append, List.length_append, List.length_singleton, List.length_singleton]; omega) ?_
    rw [← hin]; simp
   ·
    refine Ev.neg (by omega) (Ev.pos (by omega) (Ev.conb hrc (Ev.pos (by omega) ?_)))
    refine ih1 _ (by rw [List.length_append, List.length_singleton]; omega) ?_
    rw [← hin]
    by_cases hlt2 : i < a
    ·
     rw [insR_lt L e a i hlt hlt2]; simp
    ·
     rw [insR_gt L e a i hlt (by omega)]; simp
 have key0 : ∀ (d i : Nat), i + d = L.length → Ev (fun n => spec_TonaryAdd.l0 n L [] (i : Int) e.f0 e.f1 e.f2) (tonRes (insAt L (i + befN (L.drop i) e) e)) := by
  intro d
  have fin : ∀ i : Nat, i ≤ L.length → Ev (fun n => spec_TonaryAdd.j1 n L [] (i : Int) e.f0 e.f1 e.f2) (tonRes (insAt L i e)) := by
   intro i hi
   refine Ev.succ ?_
   simp only [spec_TonaryAdd.j1]
   exact key1 i hi L.length 0 [] (by omega) (by simp) (by rw [insR_zero]; rfl)
  induction d with
  | zero =>
   intro i hi
   refine Ev.succ ?_
   simp only [spec_TonaryAdd.l0]
   refine Ev.neg (by omega) ?_
   rw [List.drop_of_length_le (by omega), show befN [] e = 0 from rfl, Nat.add_zero]
   exact fin i (by omega)
  | succ d ih =>
   intro i hi
   have hlt : i < L.length := by omega
   have ih1 := ih (i + 1) (by omega)
   rw [show ((i + 1 : Nat) : Int) = (i : Int) + 1 by omega] at ih1
   refine Ev.succ ?_
   simp only [spec_TonaryAdd.l0]
   rw [w64 (x := (i : Int) + 1) (by omega) (by omega)]
   refine Ev.pos (by omega) (Ev.pos (by omega) (Ev.conb (spec_l5Before_eq _ _) ?_))
   rw [rd_drop L i hlt]
   cases hb : befE (rd_T38 L (i : Int)) e
   ·
    refine Ev.neg (by simp) ?_
    rw [show befN (rd_T38 L (i : Int) :: L.drop (i + 1)) e = 0 by unfold befN; rw [List.takeWhile_cons, hb]; rfl, Nat.add_zero]
    exact fin i (by omega)
   ·
    refine Ev.pos rfl ?_
    rw [show i + befN (rd_T38 L (i : Int) :: L.drop (i + 1)) e = i + 1 + befN (L.drop (i + 1)) e by unfold befN; rw [List.takeWhile_cons, hb]; simp only [if_true, List.length_cons]; omega]
    exact ih1
 have := key0 L.length 0 (by omega)
 simpa using this

theorem spec_TonaryDrop_ev (L : List S38) (mode : Int) (nm : ByteArray) (hll : L.length ≤ 1000000000) (hz : entSz L = true) : Ev (fun n => spec_TonaryDrop.f n L mode nm) (tonDrop L mode nm) := by
 have hv := spec_TonaryValid_ev L (by omega) hz
 rw [tonDrop_eq]
 unfold spec_TonaryDrop.f
 cases hk : tonOk L
 ·
  rw [hk] at hv
  rw [if_neg (by decide)]
  refine Ev.succ ?_
  simp only [spec_TonaryDrop.l0]
  have fin : Ev (fun n => spec_TonaryDrop.j1 n L mode nm [] 0 false) ([], false) := by
   refine Ev.succ ?_
   simp only [spec_TonaryDrop.j1]
   exact Ev.neg (by simp) (Ev.bind hv (Ev.neg (by simp) (Ev.now _)))
  by_cases h0 : (0 : Int) < (L.length : Int)
  ·
   exact Ev.pos h0 (Ev.bind hv fin)
  ·
   exact Ev.neg h0 fin
 rw [hk] at hv
 rw [if_pos rfl]
 have key : ∀ (d i : Nat) (X : List S38), i + d = L.length → X.length ≤ i → Ev (fun n => spec_TonaryDrop.l0 n L mode nm X (i : Int)) (if (X ++ (L.drop i).filter (notE mode nm)).length = L.length then ([], false) else (X ++ (L.drop i).filter (notE mode nm), true)) := by
  intro d
  induction d with
  | zero =>
   intro i X hi hX
   refine Ev.succ ?_
   simp only [spec_TonaryDrop.l0]
   refine Ev.neg (by omega) ?_
   refine Ev.succ ?_
   simp only [spec_TonaryDrop.j1]
   rw [List.drop_of_length_le (by omega)]
   refine Ev.neg (by simp) (Ev.bind hv (Ev.pos rfl ?_))
   rw [List.filter_nil, List.append_nil]
   by_cases h : X.length = L.length
   ·
    rw [if_pos h]; exact Ev.pos (by omega) (Ev.now _)
   ·
    rw [if_neg h]; exact Ev.neg (by omega) (Ev.now _)
  | succ d ih =>
   intro i X hi hX
   have hlt : i < L.length := by omega
   have hm := rd_ent L i hlt
   have hg := entSz_all hz _ hm
   refine Ev.succ ?_
   simp only [spec_TonaryDrop.l0]
   refine Ev.pos (by omega) (Ev.bind hv ?_)
   refine Ev.succ ?_
   simp only [spec_TonaryDrop.j1]
   rw [rd_drop L i hlt, w64 (x := (i : Int) + 1) (by omega) (by omega)]
   refine Ev.pos (by simp) (Ev.pos (by omega) (Ev.pos (by omega) ?_))
   have keep : notE mode nm (rd_T38 L (i : Int)) = true → Ev (fun n => (spec_l5Copy.f (rd_T38 L (i : Int)).f0 (rd_T38 L (i : Int)).f1 (rd_T38 L (i : Int)).f2).bind fun bt188 => (if X.length < 2932031007402 then (spec_TonaryDrop.l0 n L mode nm (X ++ [(⟨bt188.1, bt188.2.1, bt188.2.2⟩ : S38)]) ((i : Int) + 1)) else (none))) (if (X ++ (rd_T38 L (i : Int) :: L.drop (i + 1)).filter (notE mode nm)).length = L.length then ([], false) else (X ++ (rd_T38 L (i : Int) :: L.drop (i + 1)).filter (notE mode nm), true)) := by
    intro hk
    refine Ev.conb (spec_l5Copy_eq _ (by omega)) (Ev.pos (by omega) ?_)
    refine Ev.eqr (ih (i + 1) _ (by omega) (by rw [List.length_append, List.length_singleton]; omega)) ?_
    rw [List.filter_cons, if_pos hk, List.append_assoc]; rfl
   by_cases hmo : (rd_T38 L (i : Int)).f1 = mode
   ·
    refine Ev.pos hmo ?_
    by_cases hnm : (rd_T38 L (i : Int)).f0.toList = nm.toList
    ·
     refine Ev.pos hnm ?_
     refine Ev.eqr (ih (i + 1) X (by omega) (by omega)) ?_
     have hno : notE mode nm (rd_T38 L (i : Int)) = false := by unfold notE; simp [(tl_inj _ _).1 hnm, hmo]
     rw [List.filter_cons_of_neg (by rw [hno]; decide)]
    ·
     refine Ev.neg hnm (keep ?_)
     unfold notE
     have : ¬ (rd_T38 L (i : Int)).f0 = nm := fun h => hnm ((tl_inj _ _).2 h)
     simp [this]
   ·
    refine Ev.neg hmo (keep ?_)
    unfold notE
    simp [hmo]
 have := key L.length 0 [] (by omega) (by simp)
 simpa using this

end Go.Proofs.YtmacedbpdhkagaaDoor.Pure
namespace Go.Proofs.YtmacedbpdhkagaaDoor.Pure
set_option linter.unusedVariables false
set_option linter.unusedSimpArgs false
open Go Go.RowKit Go.Proofs.YtmacedbpdhkagaaDoor.PFnTonaryDrop Go.Proofs.YtmacedbpdhkagaaDoorW.PrintWords Go.Proofs.YtmacedbpdhkagaaDoorW.PrintLast Go.Proofs.YtmacedbpdhkagaaDoorW.PrintMore

structure Code (s : List Int) : Prop where
 b : ∀ x ∈ s, 0 ≤ x ∧ x ≤ 255
 l : s.length ≤ 2000
theorem open_ev (l0 : List Int) (hw : ∀ x ∈ l0, (Lit.int .u8 x).wf = true) : ∃ s, spec_l6Open.f l0 = some (s, 0) ∧ Code s := by
 have hb : ∀ x ∈ l0, 0 ≤ x ∧ x ≤ 255 := by
  intro x hx
  have := hw x hx
  have e1 : IntKind.u8.min = 0 := by decide
  have e2 : IntKind.u8.max = 255 := by decide
  simp only [Lit.wf, e1, e2] at this
  simpa using this
 unfold spec_l6Open.f
 by_cases h : (l0.length : Int) > 2000
 ·
  refine ⟨l0.take 2000, by rw [if_pos h, if_pos (by omega)], ⟨fun x hx => hb x (List.mem_of_mem_take hx), by rw [List.length_take]; omega⟩⟩
 ·
  exact ⟨l0, by rw [if_neg h], ⟨hb, by omega⟩⟩
theorem pick_ev {s : List Int} (hc : Code s) (p n : Int) (hp : 0 ≤ p) (hp' : p ≤ 1000000000) :
 Evx (fun k => spec_l6Rd_pick.f k s p n) (fun r => 0 ≤ r.1 ∧ (r.1 < n ∨ r.1 = 0) ∧ r.2 = p + 1) := by
 have hw : wrap64 (p + 1) = p + 1 := w64 (by omega) (by omega)
 have hw' : wrap64 (p + 1 - 1) = p := by rw [w64 (by omega) (by omega)]; omega
 have hl := hc.l
 unfold spec_l6Rd_pick.f
 rw [hw]
 by_cases hn : n < 1
 ·
  refine Evx.pos hn (Evx.succ ?_)
  simp only [spec_l6Rd_pick.j0, if_true]
  exact Evx.now ⟨by simp, by simp, rfl⟩
 ·
  refine Evx.neg hn (Evx.succ ?_)
  have tm : ∀ x : Int, 0 ≤ x → 0 ≤ Int.tmod x n ∧ Int.tmod x n < n := fun x hx => ⟨Int.tmod_nonneg n hx, Int.tmod_lt_of_pos x (by omega)⟩
  by_cases h0 : s.length = 0
  ·
   have e : ((s.length : Int) == 0) = true := by simp [h0]
   simp only [spec_l6Rd_pick.j0, e, if_true]
   exact Evx.now ⟨by simp, by simp, rfl⟩
  ·
   have e : ((s.length : Int) == 0) = false := by rw [beq_eq_false_iff_ne]; omega
   simp only [spec_l6Rd_pick.j0, e, hw']
   refine Evx.neg (by simp) ?_
   by_cases hlt : p < (s.length : Int)
   ·
    refine Evx.pos hlt (Evx.pos hp (Evx.neg (by omega) (Evx.now ?_)))
    have hb := rd_bd hc.b p
    rw [w64 (x := rd s p) (by omega) (by omega)]
    have := tm (rd s p) hb.1
    exact ⟨this.1, .inl this.2, rfl⟩
   ·
    refine Evx.neg hlt (Evx.neg (by omega) ?_)
    have t1 : 0 ≤ Int.tmod p s.length := Int.tmod_nonneg _ hp
    have t1' : Int.tmod p s.length < s.length := Int.tmod_lt_of_pos p (by omega)
    rw [w64 (x := p * 7) (by omega) (by omega), w64 (x := p * 7 + 3) (by omega) (by omega)]
    have t2 : 0 ≤ Int.tmod (p * 7 + 3) s.length := Int.tmod_nonneg _ (by omega)
    have t2' : Int.tmod (p * 7 + 3) s.length < s.length := Int.tmod_lt_of_pos _ (by omega)
    refine Evx.pos t1 (Evx.pos t1' (Evx.pos t2 (Evx.pos t2' (Evx.neg (by omega) (Evx.now ?_)))))
    have hb1 := rd_bd hc.b (Int.tmod p s.length)
    have hb2 := rd_bd hc.b (Int.tmod (p * 7 + 3) s.length)
    have hd : 0 ≤ Int.tdiv p s.length ∧ Int.tdiv p s.length ≤ p := by
     rw [Int.tdiv_eq_ediv_of_nonneg hp]
     exact ⟨Int.ediv_nonneg hp (by omega), Int.ediv_le_self _ hp⟩
    generalize rd s (Int.tmod p s.length) = a at *
    generalize rd s (Int.tmod (p * 7 + 3) s.length) = b at *
    generalize Int.tdiv p s.length = c at *
    obtain ⟨X, hX, hX0, hX1⟩ : ∃ X : Int, wrap64 (wrap64 (wrap64 (wrap64 (wrap64 a * 131) + wrap64 (wrap64 b * 1117)) + wrap64 (p * 29)) + wrap64 (wrap64 c * 53)) = X ∧ 0 ≤ X ∧ X < 1000000000000 := by
     refine ⟨a * 131 + b * 1117 + p * 29 + c * 53, ?_, by omega, by omega⟩
     rw [w64 (x := a) (by omega) (by omega), w64 (x := b) (by omega) (by omega), w64 (x := c) (by omega) (by omega), w64 (x := a * 131) (by omega) (by omega), w64 (x := b * 1117) (by omega) (by omega), w64 (x := p * 29) (by omega) (by omega), w64 (x := c * 53) (by omega) (by omega), w64 (x := a * 131 + b * 1117) (by omega) (by omega), w64 (x := a * 131 + b * 1117 + p * 29) (by omega) (by omega), w64 (by omega) (by omega)]
    rw [hX]
    have hq : 0 ≤ Int.tdiv X 64 ∧ Int.tdiv X 64 ≤ X := by
     rw [Int.tdiv_eq_ediv_of_nonneg hX0]; omega
    rw [w64 (x := Int.tdiv X 64) (by omega) (by omega)]
    have := tm _ (xor_bd X (Int.tdiv X 64) hX0 (by omega) hq.1 (by omega))
    exact ⟨this.1, .inl this.2, rfl⟩

theorem of_ev {s : List Int} (hc : Code s) (p : Int) (hp : 0 ≤ p) (hp' : p ≤ 100000000) (xs : List ByteArray) (hx : 0 < xs.length) (hx' : xs.length ≤ 1000) :
 Evx (fun k => spec_l6Rd_of.f k s p xs) (fun r => r.1 ∈ xs ∧ r.2 = p + 1) := by
 unfold spec_l6Rd_of.f
 refine Evx.bind (pick_ev hc p _ hp (by omega)) ?_
 rintro ⟨r, q⟩ ⟨hr0, hr1, rfl⟩
 have hr0 : 0 ≤ r := hr0
 have hr1 : r < (xs.length : Int) ∨ r = 0 := hr1
 refine Evx.pos hr0 (Evx.pos (by omega) (Evx.now ⟨?_, rfl⟩))
 have hlt : r.toNat < xs.length := by omega
 show rdOf ByteArray.empty xs r ∈ xs
 unfold rdOf
 rw [List.getD_eq_getElem?_getD, List.getElem?_eq_getElem hlt]
 exact List.getElem_mem hlt
theorem some_ev {s : List Int} (hc : Code s) (n p : Int) (hn : n ≤ 1000) (hp : 0 ≤ p) (hp' : p ≤ 10000000) :
 Evx (fun k => spec_l91Some.f k s p n) (fun r => (r.1.length : Int) ≤ mx 0 n ∧ p ≤ r.2 ∧ r.2 ≤ p + 2 * mx 0 n) := by
 unfold spec_l91Some.f
 have key : ∀ (d i : Nat) (X : List S90) (q : Int), (i : Int) + d = mx 0 n → X.length = i → 0 ≤ q → q ≤ 10000000 + 2 * (i : Int) → Evx (fun k => spec_l91Some.l0 k n X (i : Int) s q) (fun r => (r.1.length : Int) ≤ mx 0 n ∧ q ≤ r.2 ∧ r.2 ≤ q + 2 * d) := by
  intro d
  have hm := mx_le 0 n
  have hm2 : mx 0 n = 0 ∨ mx 0 n = n := by unfold mx; split <;> simp
  induction d with
  | zero =>
   intro i X q hi hX hq hq'
   refine Evx.succ ?_
   simp only [spec_l91Some.l0]
   exact Evx.neg (by omega) (Evx.now ⟨by show (X.length : Int) ≤ _; omega, by show q ≤ q; omega, by show q ≤ _; omega⟩)
  | succ d ih =>
   intro i X q hi hX hq hq'
   refine Evx.succ ?_
   simp only [spec_l91Some.l0]
   rw [w64 (x := (i : Int) + 1) (by omega) (by omega)]
   refine Evx.pos (by omega) (Evx.bind (pick_ev hc q 6 hq (by omega)) ?_)
   rintro ⟨r, q1⟩ ⟨hr0, hr1, rfl⟩
   refine Evx.conb rfl (Evx.ite (fun _ => ?_) (fun _ => ?_))
   ·
    refine Evx.bind (pick_ev hc (q + 1) 2 (by omega) (by omega)) ?_
    rintro ⟨r2, q2⟩ ⟨_, _, rfl⟩
    refine Evx.pos (by omega) ?_
    refine (ih (i + 1) _ (q + 1 + 1) (by omega) (by rw [List.length_append, hX]; rfl) (by omega) (by omega)).mono ?_
    rintro ⟨a, b⟩ ⟨h1, h2, h3⟩
    exact ⟨h1, by show q ≤ b; have h2 : q + 1 + 1 ≤ b := h2; omega, by show b ≤ _; have h3 : b ≤ q + 1 + 1 + 2 * (d : Int) := h3; omega⟩
   ·
    refine Evx.pos (by omega) ?_
    refine (ih (i + 1) _ (q + 1) (by omega) (by rw [List.length_append, hX]; rfl) (by omega) (by omega)).mono ?_
    rintro ⟨a, b⟩ ⟨h1, h2, h3⟩
    exact ⟨h1, by show q ≤ b; have h2 : q + 1 ≤ b := h2; omega, by show b ≤ _; have h3 : b ≤ q + 1 + 2 * (d : Int) := h3; omega⟩
 have hm := mx_le 0 n
 have := key (mx 0 n).toNat 0 [] p (by omega) rfl hp (by omega)
 refine this.mono ?_
 rintro ⟨a, b⟩ ⟨h1, h2, h3⟩
 exact ⟨h1, h2, by show b ≤ _; have h3 : b ≤ p + 2 * ((mx 0 n).toNat : Int) := h3; omega⟩
def entB (e : S38) : Prop := e.f0.size ≤ 20 ∧ e.f2.length ≤ 20
theorem drawEntry_ev {s : List Int} (hc : Code s) (p : Int) (hp : 0 ≤ p) (hp' : p ≤ 1000000) :
 Evx (fun k => spec_l92Entry.f k s p) (fun r => entB ⟨r.1, r.2.1, r.2.2.1⟩ ∧ p ≤ r.2.2.2 ∧ r.2.2.2 ≤ p + 60) := by
 have mx4 : ∀ u : Int, 0 ≤ u → u < 4 ∨ u = 0 → mx 0 (wrap64 (1 + u)) ≤ 4 ∧ 0 ≤ mx 0 (wrap64 (1 + u)) := by
  intro u h0 h1
  rw [w64 (by omega) (by omega)]
  unfold mx; split <;> omega
 have mem20 : ∀ (x : ByteArray) (xs : List ByteArray), x ∈ xs → (∀ y ∈ xs, y.size ≤ 20) → x.size ≤ 20 := fun x xs h hy => hy x h
 have o1 : ∀ y ∈ ([(⟨#[97]⟩ : ByteArray), (⟨#[98]⟩ : ByteArray), (⟨#[97, 118, 101]⟩ : ByteArray), (⟨#[100, 101, 117, 115]⟩ : ByteArray), (⟨#[99]⟩ : ByteArray)] : List ByteArray), y.size ≤ 20 := by decide
 have o2 : ∀ y ∈ ([(⟨#[]⟩ : ByteArray), (⟨#[65]⟩ : ByteArray), (⟨#[97, 98, 99, 100, 101, 102, 103, 104, 105, 106, 107]⟩ : ByteArray)] : List ByteArray), y.size ≤ 20 := by decide
 unfold spec_l92Entry.f
 refine Evx.bind (of_ev hc p hp (by omega) _ (by simp) (by simp)) ?_
 rintro ⟨nm, q⟩ ⟨hnm, rfl⟩
 have hnm := mem20 nm _ hnm o1
 refine Evx.bind (pick_ev hc (p + 1) 3 (by omega) (by omega)) ?_
 rintro ⟨mo, q⟩ ⟨_, _, rfl⟩
 refine Evx.bind (pick_ev hc (p + 1 + 1) 4 (by omega) (by omega)) ?_
 rintro ⟨u, q⟩ ⟨hu0, hu1, rfl⟩
 have h4 := mx4 u hu0 hu1
 have h4' : wrap64 (1 + u) ≤ 1000 := by
  have hu0 : 0 ≤ u := hu0
  have hu1 : u < 4 ∨ u = 0 := hu1
  rw [w64 (by omega) (by omega)]; omega
 refine Evx.bind (some_ev hc (wrap64 (1 + u)) (p + 1 + 1 + 1) h4' (by omega) (by omega)) ?_
 rintro ⟨st, q⟩ ⟨hs1, hs2, hs3⟩
 have hs1 : (st.length : Int) ≤ mx 0 (wrap64 (1 + u)) := hs1
 have hs2 : p + 1 + 1 + 1 ≤ q := hs2
 have hs3 : q ≤ p + 1 + 1 + 1 + 2 * mx 0 (wrap64 (1 + u)) := hs3
 refine Evx.bind (pick_ev hc q 40 (by omega) (by omega)) ?_
 rintro ⟨c, q'⟩ ⟨_, _, rfl⟩
 refine Evx.ite (fun _ => ?_) (fun _ => Evx.ite (fun _ => ?_) (fun _ => Evx.ite (fun _ => ?_) (fun _ => ?_)))
 ·
  refine Evx.bind (of_ev hc (q + 1) (by omega) (by omega) _ (by simp) (by simp)) ?_
  rintro ⟨nm2, q'⟩ ⟨hnm2, rfl⟩
  exact Evx.now ⟨⟨mem20 nm2 _ hnm2 o2, by show st.length ≤ 20; omega⟩, by show p ≤ q + 1 + 1; omega, by show q + 1 + 1 ≤ p + 60; omega⟩
 ·
  refine Evx.someb (Evx.bind (pick_ev hc (q + 1) 2 (by omega) (by omega)) ?_)
  rintro ⟨r, q'⟩ ⟨hr0, hr1, rfl⟩
  have hr0 : 0 ≤ r := hr0
  have hr1 : r < 2 ∨ r = 0 := hr1
  exact Evx.pos hr0 (Evx.pos (by simp; omega) (Evx.now ⟨⟨hnm, by show st.length ≤ 20; omega⟩, by show p ≤ q + 1 + 1; omega, by show q + 1 + 1 ≤ p + 60; omega⟩))
 ·
  refine Evx.someb (Evx.bind (pick_ev hc (q + 1) 2 (by omega) (by omega)) ?_)
  rintro ⟨r, q'⟩ ⟨hr0, hr1, rfl⟩
  have hr0 : 0 ≤ r := hr0
  have hr1 : r < 2 ∨ r = 0 := hr1
  have hrd : rd ([0, 9] : List Int) r = 0 ∨ rd ([0, 9] : List Int) r = 9 := by
   have : r = 0 ∨ r = 1 := by omega
   rcases this with rfl | rfl
   ·
    exact .inl rfl
   ·
    exact .inr rfl
  have hmx : mx 0 (rd ([0, 9] : List Int) r) ≤ 9 := by rcases hrd with h | h <;> rw [h] <;> decide
  refine Evx.pos hr0 (Evx.pos (by simp; omega) (Evx.bind (some_ev hc (rd ([0, 9] : List Int) r) (q + 1 + 1) (by rcases hrd with h | h <;> rw [h] <;> decide) (by omega) (by omega)) ?_))
  rintro ⟨st2, q'⟩ ⟨hs1', hs2', hs3'⟩
  have hs1' : (st2.length : Int) ≤ mx 0 (rd ([0, 9] : List Int) r) := hs1'
  have hs2' : q + 1 + 1 ≤ q' := hs2'
  have hs3' : q' ≤ q + 1 + 1 + 2 * mx 0 (rd ([0, 9] : List Int) r) := hs3'
  exact Evx.now ⟨⟨hnm, by show st2.length ≤ 20; omega⟩, by show p ≤ q'; omega, by show q' ≤ p + 60; omega⟩
 ·
  exact Evx.now ⟨⟨hnm, by show st.length ≤ 20; omega⟩, by show p ≤ q + 1; omega, by show q + 1 ≤ p + 60; omega⟩
def tonB (n : Nat) (L : List S38) : Prop := L.length ≤ n ∧ ∀ e ∈ L, entB e
theorem tonB.sz {n : Nat} {L : List S38} (h : tonB n L) : entSz L = true :=
 List.all_eq_true.2 fun e he => decide_eq_true (by have := h.2 e he; unfold entB at this; omega)
theorem tonB.ins {n : Nat} {L : List S38} {e : S38} (h : tonB n L) (he : entB e) (a : Nat) : tonB (n + 1) (insAt L a e) := by
 refine ⟨by rw [insAt_len]; have := h.1; omega, fun x hx => ?_⟩
 unfold insAt at hx
 rcases List.mem_append.1 hx with h1 | h1
 ·
  exact h.2 x (List.mem_of_mem_take h1)
 ·
  rcases List.mem_cons.1 h1 with rfl | h1
  ·
   exact he
  ·
   exact h.2 x (List.mem_of_mem_drop h1)
theorem tonB.add {n : Nat} {L : List S38} {e : S38} (h : tonB n L) (he : entB e) : tonB (n + 1) (tonAdd L e).1 := by
 unfold tonAdd tonRes
 split
 ·
  split
  ·
   exact h.ins he _
  ·
   exact ⟨Nat.zero_le _, fun _ hx => by cases hx⟩
 ·
  exact ⟨Nat.zero_le _, fun _ hx => by cases hx⟩
theorem drawTonary_ev {s : List Int} (hc : Code s) (p : Int) (hp : 0 ≤ p) (hp' : p ≤ 100000) :
 Evx (fun k => spec_l92Tonary.f k s p) (fun r => tonB 6 r.1 ∧ p ≤ r.2 ∧ r.2 ≤ p + 1000) := by
 unfold spec_l92Tonary.f
 refine Evx.bind (pick_ev hc p 6 hp (by omega)) ?_
 rintro ⟨n, q⟩ ⟨hn0, hn1, rfl⟩
 have hn0 : 0 ≤ n := hn0
 have hn1 : n < 6 ∨ n = 0 := hn1
 have key : ∀ (d i : Nat) (X : List S38) (q : Int), (i : Int) + d = n → tonB i X → 0 ≤ q → q ≤ 200000 + 60 * (i : Int) → Evx (fun k => spec_l92Tonary.l0 k X n (i : Int) s q) (fun r => tonB 6 r.1 ∧ q ≤ r.2 ∧ r.2 ≤ q + 60 * d + 1) := by
  intro d
  induction d with
  | zero =>
   intro i X q hi hX hq hq'
   have hX6 : tonB 6 X := ⟨by have := hX.1; omega, hX.2⟩
   refine Evx.succ ?_
   simp only [spec_l92Tonary.l0]
   refine Evx.neg (by omega) (Evx.ite (fun h1 => ?_) (fun _ => Evx.now ⟨hX6, by show q ≤ q; omega, by show q ≤ _; omega⟩))
   refine Evx.bind (pick_ev hc q 30 hq (by omega)) ?_
   rintro ⟨r, q1⟩ ⟨_, _, rfl⟩
   refine Evx.ite (fun _ => ?_) (fun _ => Evx.now ⟨hX6, by show q ≤ q + 1; omega, by show q + 1 ≤ _; omega⟩)
   refine Evx.pos (by omega) (Evx.pos (by omega) (Evx.now ⟨⟨?_, ?_⟩, by show q ≤ q + 1; omega, by show q + 1 ≤ _; omega⟩))
   ·
    show (X.set _ _).length ≤ 6
    rw [List.length_set]; exact hX6.1
   ·
    intro e he
    have hlt : 1 < X.length := by omega
    have h1e : entB (rd_T38 X 1) := by
     have := hX.2 (X[1]'hlt) (List.getElem_mem hlt)
     unfold rd_T38
     rw [List.getD_eq_getElem?_getD, List.getElem?_eq_getElem (show (1 : Int).toNat < X.length from hlt)]
     exact this
    rcases List.mem_or_eq_of_mem_set he with h | h
    ·
     exact hX.2 e h
    ·
     rw [h]; exact h1e
  | succ d ih =>
   intro i X q hi hX hq hq'
   refine Evx.succ ?_
   simp only [spec_l92Tonary.l0]
   rw [w64 (x := (i : Int) + 1) (by omega) (by omega)]
   refine Evx.pos (by omega) (Evx.bind (drawEntry_ev hc q hq (by omega)) ?_)
   rintro ⟨e0, e1, e2, q1⟩ ⟨he, hq1, hq2⟩
   have hq1 : q ≤ q1 := hq1
   have hq2 : q1 ≤ q + 60 := hq2
   have hXl := hX.1
   refine Evx.bind1 (spec_TonaryAdd_ev X ⟨e0, e1, e2⟩ (by omega) hX.sz ⟨Nat.le_trans he.1 (by omega), Nat.le_trans he.2 (by omega)⟩) ?_
   have fin : ∀ Y : List S38, tonB (i + 1) Y → Evx (fun k => spec_l92Tonary.l0 k Y n ((i : Int) + 1) s q1) (fun r => tonB 6 r.1 ∧ q ≤ r.2 ∧ r.2 ≤ q + 60 * ((d + 1 : Nat) : Int) + 1) := by
    intro Y hY
    have := ih (i + 1) Y q1 (by omega) hY (by omega) (by omega)
    rw [show ((i + 1 : Nat) : Int) = (i : Int) + 1 by omega] at this
    refine this.mono ?_
    rintro ⟨a, b⟩ ⟨h1, h2, h3⟩
    exact ⟨h1, by show q ≤ b; have h2 : q1 ≤ b := h2; omega, by show b ≤ _; have h3 : b ≤ q1 + 60 * (d : Int) + 1 := h3; omega⟩
   refine Evx.ite (fun _ => fin _ (hX.add he)) (fun _ => fin X ⟨by omega, hX.2⟩)
 have := key n.toNat 0 [] (p + 1) (by omega) ⟨by simp, fun _ h => by cases h⟩ (by omega) (by omega)
 refine this.mono ?_
 rintro ⟨a, b⟩ ⟨h1, h2, h3⟩
 exact ⟨h1, by show p ≤ b; have h2 : p + 1 ≤ b := h2; omega, by show b ≤ _; have h3 : b ≤ p + 1 + 60 * (n.toNat : Int) + 1 := h3; omega⟩

theorem drawTonDrop_ev (l0 : List Int) (hw : ∀ x ∈ l0, (Lit.int .u8 x).wf = true) : Evx (fun k => spec_DrawTonaryDrop.f k l0) (fun r => tonB 6 r.1) := by
 obtain ⟨s, hs, hc⟩ := open_ev l0 hw
 unfold spec_DrawTonaryDrop.f
 refine Evx.conb hs (Evx.bind (drawTonary_ev hc 0 (by omega) (by omega)) ?_)
 rintro ⟨L, q⟩ ⟨hL, hq0, hq1⟩
 have hq0 : 0 ≤ q := hq0
 have hq1 : q ≤ 0 + 1000 := hq1
 have hL : tonB 6 L := hL
 have no : ∀ q : Int, 0 ≤ q → q ≤ 2000 → Evx (fun k => spec_DrawTonaryDrop.j0 k L false s q) (fun r => tonB 6 r.1) := by
  intro q hq hq'
  refine Evx.succ ?_
  simp only [spec_DrawTonaryDrop.j0]
  refine Evx.neg (by simp) (Evx.bind (pick_ev hc q 3 hq (by omega)) ?_)
  rintro ⟨n, q1⟩ ⟨_, _, rfl⟩
  refine Evx.bind (of_ev hc (q + 1) (by omega) (by omega) _ (by simp) (by simp)) ?_
  rintro ⟨nm, q2⟩ _
  exact Evx.now hL
 refine Evx.ite (fun hpos => ?_) (fun _ => no q hq0 (by omega))
 have hpos : (L.length : Int) > 0 := hpos
 refine Evx.bind (pick_ev hc q 4 hq0 (by omega)) ?_
 rintro ⟨u, q1⟩ ⟨_, _, rfl⟩
 show Evx (fun k => spec_DrawTonaryDrop.j0 k L (decide (u > 0)) s (q + 1)) _
 cases decide (u > 0)
 ·
  exact no (q + 1) (by omega) (by omega)
 ·
  refine Evx.succ ?_
  simp only [spec_DrawTonaryDrop.j0]
  refine Evx.pos (by simp) (Evx.bind (pick_ev hc (q + 1) _ (by omega) (by omega)) ?_)
  rintro ⟨i, q2⟩ ⟨hi0, hi1, rfl⟩
  have hi0 : 0 ≤ i := hi0
  have hi1 : i < (L.length : Int) ∨ i = 0 := hi1
  show Evx (fun k => if 0 ≤ i then _ else none) _
  exact Evx.pos hi0 (Evx.pos (by omega) (Evx.now hL))

theorem filter_split (L : List S38) (hs : Srt L) (e : S38) (he : e ∈ L) : ∃ A B, L = A ++ e :: B ∧ L.filter (notE e.f1 e.f0) = A ++ B ∧ (∀ x ∈ A, befE x e = true) ∧ (∀ x ∈ B, befE e x = true) := by
 obtain ⟨A, B, rfl⟩ := List.append_of_mem he
 obtain ⟨s1, s2, s3⟩ := List.pairwise_append.1 hs
 obtain ⟨s4, s5⟩ := List.pairwise_cons.1 s2
 have keep : ∀ x, befE x e = true ∨ befE e x = true → notE e.f1 e.f0 x = true := by
  intro x hx
  unfold notE
  by_cases h : x.f1 = e.f1 ∧ x.f0 = e.f0
  ·
   rw [befE_iff, befE_iff, h.1, h.2, nmLt_irrefl] at hx
   rcases hx with (h | ⟨_, h⟩) | (h | ⟨_, h⟩)
   ·
    omega
   ·
    cases h
   ·
    omega
   ·
    cases h
  ·
   by_cases h1 : x.f1 = e.f1
   ·
    have : ¬ x.f0 = e.f0 := fun h2 => h ⟨h1, h2⟩
    simp [this]
   ·
    simp [h1]
 refine ⟨A, B, rfl, ?_, fun x hx => s3 x hx e List.mem_cons_self, s4⟩
 rw [List.filter_append, List.filter_eq_self.2 (fun x hx => keep x (.inl (s3 x hx e List.mem_cons_self))), List.filter_cons_of_neg (by unfold notE; simp), List.filter_eq_self.2 (fun x hx => keep x (.inr (s4 x hx)))]
theorem takeW_split (A B : List S38) (e : S38) (hA : ∀ x ∈ A, befE x e = true) (hB : ∀ x ∈ B, befE e x = true) : befN (A ++ B) e = A.length := by
 unfold befN
 rw [List.takeWhile_append_of_pos (by simpa using hA)]
 cases B with
 | nil => simp
 | cons b B =>
  rw [List.takeWhile_cons, befE_asymm (hB b List.mem_cons_self)]
  simp
theorem tonAdd_back {L : List S38} (hk : tonOk L = true) {e : S38} (he : e ∈ L) : tonAdd (L.filter (notE e.f1 e.f0)) e = (L, true) := by
 obtain ⟨_, _, hs⟩ := (tonOk_iff L).1 hk
 obtain ⟨A, B, hL, hF, hA, hB⟩ := filter_split L hs e he
 unfold tonAdd
 rw [if_pos (tonOk_sub hk List.filter_sublist), hF, takeW_split A B e hA hB]
 have hi : insAt (A ++ B) A.length e = L := by
  unfold insAt
  rw [List.take_left' rfl, List.drop_left' rfl, hL]
 rw [hi]
 unfold tonRes
 rw [if_pos hk]
theorem tonDrop_len {L : List S38} (hk : tonOk L = true) {e : S38} (he : e ∈ L) : (L.filter (notE e.f1 e.f0)).length + 1 = L.length := by
 obtain ⟨_, _, hs⟩ := (tonOk_iff L).1 hk
 obtain ⟨A, B, hL, hF, _, _⟩ := filter_split L hs e he
 rw [hF, hL, List.length_append, List.length_append, List.length_cons]; omega
theorem tonDrop_true {L O : List S38} {mode : Int} {nm : ByteArray} (h : tonDrop L mode nm = (O, true)) : tonOk L = true ∧ O = L.filter (notE mode nm) ∧ ∃ e ∈ L, e.f1 = mode ∧ e.f0 = nm := by
 rw [tonDrop_eq] at h
 split at h
 ·
  rename_i hk
  split at h
  ·
   cases h
  ·
   rename_i hne
   injection h with h _
   refine ⟨hk, h.symm, ?_⟩
   refine Classical.byContradiction fun hno => hne (List.length_filter_eq_length_iff.2 fun e he => ?_)
   unfold notE
   by_cases h1 : e.f1 = mode
   ·
    have : ¬ e.f0 = nm := fun h2 => hno ⟨e, he, h1, h2⟩
    simp [this]
   ·
    simp [h1]
 ·
  cases h
theorem tonDrop_no {L : List S38} {mode : Int} {nm : ByteArray} (hk : tonOk L = true) (h : ∀ e ∈ L, ¬ (e.f1 = mode ∧ e.f0 = nm)) : tonDrop L mode nm = ([], false) := by
 rw [tonDrop_eq, if_pos hk, if_pos]
 refine List.length_filter_eq_length_iff.2 fun e he => ?_
 have := h e he
 unfold notE
 by_cases h1 : e.f1 = mode
 ·
  have : ¬ e.f0 = nm := fun h2 => this ⟨h1, h2⟩
  simp [this]
 ·
  simp [h1]

end Go.Proofs.YtmacedbpdhkagaaDoor.Pure
namespace Go.Proofs.YtmacedbpdhkagaaDoor.Pure
set_option linter.unusedVariables false
set_option linter.unusedSimpArgs false
open Go Go.RowKit Go.Proofs.YtmacedbpdhkagaaDoor.PFnTonaryDrop Go.Proofs.YtmacedbpdhkagaaDoorW.PrintWords Go.Proofs.YtmacedbpdhkagaaDoorW.PrintLast Go.Proofs.YtmacedbpdhkagaaDoorW.PrintMore

theorem sameTones_ev (a : List S90) (ha : a.length ≤ 1000000000000) : Ev (fun k => laws_sameTones.f k a a) true := by
 unfold laws_sameTones.f
 refine Ev.pos rfl ?_
 have := Ev.over z90 a (fun k (_ : Unit) i => laws_sameTones.l0 k a a i) (fun _ _ => true) (fun _ _ => True) (by
  intro s _
  refine Ev.succ ?_
  simp only [laws_sameTones.l0]
  exact Ev.neg (by omega) (Ev.now _)) (by
  intro s i rest _ hi hdr ih
  refine Ev.succ ?_
  simp only [laws_sameTones.l0]
  rw [w64 (x := (i : Int) + 1) (by omega) (by omega)]
  refine Ev.pos (by omega) (Ev.pos (by omega) (Ev.pos (by omega) (Ev.neg (by simp) (ih () trivial))))) 0 () (Nat.zero_le _) trivial
 simpa using this
theorem sameEntry_ev (e : S38) (ha : e.f2.length ≤ 1000000000000) : Ev (fun k => laws_sameEntry.f k e.f0 e.f1 e.f2 e.f0 e.f1 e.f2) true := by
 unfold laws_sameEntry.f
 exact Ev.pos rfl (Ev.pos rfl (Ev.bind (sameTones_ev e.f2 ha) (Ev.now _)))
theorem sameEntries_ev (a : List S38) (ha : a.length ≤ 1000000000) (hz : entSz a = true) : Ev (fun k => laws_sameEntries.f k a a) true := by
 unfold laws_sameEntries.f
 refine Ev.pos rfl ?_
 have key : ∀ d i : Nat, i + d = a.length → Ev (fun n => laws_sameEntries.l0 n a a (i : Int)) true := by
  intro d
  induction d with
  | zero =>
   intro i hi
   refine Ev.succ ?_
   simp only [laws_sameEntries.l0]
   exact Ev.neg (by omega) (Ev.now _)
  | succ d ih =>
   intro i hi
   have hlt : i < a.length := by omega
   have hg := entSz_all hz _ (rd_ent a i hlt)
   have ih := ih (i + 1) (by omega)
   rw [show ((i + 1 : Nat) : Int) = (i : Int) + 1 by omega] at ih
   refine Ev.succ ?_
   simp only [laws_sameEntries.l0]
   rw [w64 (x := (i : Int) + 1) (by omega) (by omega)]
   exact Ev.pos (by omega) (Ev.pos (by omega) (Ev.pos (by omega) (Ev.bind (sameEntry_ev _ (by omega)) (Ev.pos rfl ih))))
 exact key a.length 0 (by omega)

theorem FnTonaryDrop_core (l0 : List Int) (hw : ∀ x ∈ l0, (Lit.int .u8 x).wf = true) : ∃ k, laws_FnTonaryDrop.f k l0 = some true := by
 have key : Ev (fun k => laws_FnTonaryDrop.f k l0) true := by
  unfold laws_FnTonaryDrop.f
  by_cases c0 : (l0.length : Int) > 1048576
  ·
   exact Ev.pos c0 (Ev.now _)
  refine Ev.neg c0 ?_
  obtain ⟨⟨L, mode, nm⟩, hd, hL⟩ := drawTonDrop_ev l0 hw
  have hL : tonB 6 L := hL
  have hLl := hL.1
  have hz := hL.sz
  have hI : ∀ X : List S38, entSz X = true → impl_TonaryDrop.f X mode nm = some (tonDrop X mode nm) := fun X h => if_pos h
  have hS := spec_TonaryDrop_ev L mode nm (by omega) hz
  obtain ⟨⟨O, ok⟩, hO⟩ : ∃ r, tonDrop L mode nm = r := ⟨_, rfl⟩
  have hi := hI L hz
  rw [hO] at hi hS
  have sub : O.Sublist L := by
   have h1 : (tonDrop L mode nm).1.Sublist L := by
    rw [tonDrop_eq]
    split
    ·
     split
     ·
      exact List.nil_sublist _
     ·
      exact List.filter_sublist
    ·
     exact List.nil_sublist _
   rw [hO] at h1
   exact h1
  have hOl : O.length ≤ 6 := Nat.le_trans sub.length_le hLl
  have hOz : entSz O = true := List.all_eq_true.2 fun e he => List.all_eq_true.1 hz e (sub.subset he)
  have hsame := sameEntries_ev O (by omega) hOz
  refine Ev.bind hd (Ev.conb hi (Ev.bind hS ?_))
  refine Ev.neg (by simp) (Ev.bind hsame (Ev.pos rfl ?_))
  refine Ev.succ ?_
  simp only [laws_FnTonaryDrop.j0]
  cases ok
  ·
   refine Ev.pos (by simp) (Ev.pos (by simp) (Ev.bind hsame (Ev.now _)))
  ·
   refine Ev.neg (by simp) ?_
   obtain ⟨hk, hOf, e, heL, hem, hen⟩ := tonDrop_true hO
   have hkO : tonOk O = true := tonOk_sub hk sub
   have hno : tonDrop O mode nm = ([], false) := tonDrop_no hkO (fun x hx h => by
    rw [hOf, List.mem_filter] at hx
    have := hx.2
    unfold notE at this
    rw [h.2] at this
    simp [h.1] at this)
   have hi2 := hI O hOz
   rw [hno] at hi2
   refine Ev.conb hi2 ?_
   have hsameL := sameEntries_ev L (by omega) hz
   have hlen : O.length + 1 = L.length := by rw [hOf, ← hem, ← hen]; exact tonDrop_len hk heL
   have found : ∀ (i : Nat) (hi : i < L.length), (rd_T38 L (i : Int)).f1 = mode → (rd_T38 L (i : Int)).f0 = nm → Ev (fun n => laws_FnTonaryDrop.j2 n L mode nm O false (i : Int) true) true := by
    intro i hi h1 h0
    have hm := rd_ent L i hi
    have hg := entSz_all hz _ hm
    have hb : tonAdd O (rd_T38 L (i : Int)) = (L, true) := by
     rw [hOf, ← h1, ← h0]; exact tonAdd_back hk hm
    have ha : impl_TonaryAdd.f O (rd_T38 L (i : Int)).f0 (rd_T38 L (i : Int)).f1 (rd_T38 L (i : Int)).f2 = some (L, true) := by
     rw [← hb]; exact if_pos ⟨hOz, hg.1, hg.2⟩
    refine Ev.succ ?_
    simp only [laws_FnTonaryDrop.j2]
    refine Ev.pos (by simp) (Ev.pos (by omega) (Ev.pos (by omega) (Ev.conb ha (Ev.neg (by simp) (Ev.pos (by simp) (Ev.bind hsameL (Ev.pos rfl (Ev.eqr (Ev.now _) ?_))))))))
    rw [w64 (by omega) (by omega)]
    have : ((O.length : Int) = (L.length : Int) - 1) := by omega
    simp [this]
   have loop : ∀ (d i : Nat), i + d = L.length → e ∈ L.drop i → Ev (fun n => laws_FnTonaryDrop.l0 n L mode nm O false (i : Int)) true := by
    intro d
    induction d with
    | zero =>
     intro i hi he
     rw [List.drop_of_length_le (by omega)] at he
     cases he
    | succ d ih =>
     intro i hi he
     have hlt : i < L.length := by omega
     rw [rd_drop L i hlt] at he
     refine Ev.succ ?_
     simp only [laws_FnTonaryDrop.l0]
     refine Ev.pos (by omega) (Ev.pos (by omega) ?_)
     have next : ¬ ((rd_T38 L (i : Int)).f1 = mode ∧ (rd_T38 L (i : Int)).f0 = nm) → Ev (fun n => laws_FnTonaryDrop.j2 n L mode nm O false (i : Int) false) true := by
      intro h
      have he2 : e ∈ L.drop (i + 1) := by
       rcases List.mem_cons.1 he with rfl | he
       ·
        exact absurd ⟨hem, hen⟩ h
       ·
        exact he
      have ih := ih (i + 1) (by omega) he2
      rw [show ((i + 1 : Nat) : Int) = (i : Int) + 1 by omega] at ih
      refine Ev.succ ?_
      simp only [laws_FnTonaryDrop.j2]
      rw [w64 (x := (i : Int) + 1) (by omega) (by omega)]
      exact Ev.neg (by simp) ih
     by_cases h1 : (rd_T38 L (i : Int)).f1 = mode
     ·
      refine Ev.pos h1 ?_
      by_cases h0 : (rd_T38 L (i : Int)).f0 = nm
      ·
       rw [show ((rd_T38 L (i : Int)).f0.toList == nm.toList) = true by rw [h0]; simp]
       exact found i hlt h1 h0
      ·
       rw [show ((rd_T38 L (i : Int)).f0.toList == nm.toList) = false by
        rw [beq_eq_false_iff_ne]
        exact fun h => h0 ((tl_inj _ _).1 h)]
       exact next (fun h => h0 h.2)
     ·
      exact Ev.neg h1 (next (fun h => h1 h.1))
   exact loop L.length 0 (by omega) (by rw [List.drop_zero]; exact heL)
 exact Ev.rounds key
theorem FnTonaryDrop_walk (l0 : List Int) (A0 : Option Addr) (c0 : Nat) (w : World) (ht : MTab w) (hr0 : Kd.C (Kd.int .u8) w A0 l0.length l0) (hc0 : l0.length ≤ c0) (hw0 : ∀ x ∈ l0, (Lit.int .u8 x).wf = true) (hm0 : l0.length ≤ maxLen) :
 Calls Tryd.prog 9 #[.slice A0 l0.length c0] w fun e w' => e = .returned (.bool true) ∧ Below w.heap.size w w' := by
 obtain ⟨k, h⟩ := FnTonaryDrop_core l0 hw0
 exact laws_FnTonaryDrop.calls k A0 c0 l0 true w ht hr0 hc0 rfl h

def Opn {α : Type} (P : Program) (t : TypeId) (d : Kd α) (ok : α → Prop) : Prop :=
 P.cellsOf t = d.sz ∧ ∀ {H : Type} (enc : TypeId × Value → H) (w : World) (base : Nat) (held : Bool) (fuel : Nat) (cs : List Value) (x : DataW H × List MemPlace), DataW.trod enc P w base (fun _ => true) held fuel t cs = some x → ∃ p, d.K w p cs ∧ ok p
theorem opn_int {P : Program} {t : TypeId} (k : IntKind) (ht : P.underlying t = some (.int k)) (hc : P.cellsOf t = 1) : Opn P t (Kd.int k) (fun n => (Lit.int k n).wf = true) :=
 ⟨hc, fun enc w base held fuel cs x h => by obtain ⟨n, rfl, _, hw⟩ := DataW.trod_int ht h; exact ⟨n, rfl, hw⟩⟩
theorem opn_slice {α : Type} {P : Program} {t e : TypeId} {d : Kd α} {ok : α → Prop} (ht : P.underlying t = some (.slice e)) (hc : P.cellsOf t = 1) (he : Opn P e d ok) : Opn P t (Kd.slice e d) (fun l => (∀ x ∈ l, ok x) ∧ l.length ≤ maxLen) := by
 refine ⟨hc, fun enc w base held fuel cs x h => ?_⟩
 rcases Go.Deep.open_slice ht h with ⟨rfl, _⟩ | ⟨a, len, cap, m, n, D, Pl, rfl, _, hl, hm, hmm, _, hi⟩
 ·
  exact ⟨[], ⟨none, 0, rfl, Nat.le_refl _, rfl, by simp, fun h => by simp at h⟩, by simp, by simp⟩
 ·
  have hmc : m = cap := by simpa using hmm
  clear hmm
  have key : ∀ k, k ≤ len → ∃ l : List α, l.length = k ∧ (∀ x ∈ l, ok x) ∧ ∀ j p, l[j]? = some p → ∃ c, c.length = d.sz ∧ d.K w p c ∧ ∀ i u, c[i]? = some u → w.cell? (a.add (j * d.sz + i)) = some u := by
   intro k
   induction k with
   | zero => intro _; exact ⟨[], rfl, by simp, by simp⟩
   | succ k ih =>
    intro hk
    obtain ⟨l, hll, hlo, hlc⟩ := ih (by omega)
    obtain ⟨cs', hcs, ht'⟩ := hi k (by omega)
    rw [he.1] at hcs
    obtain ⟨p, hp, hop⟩ := he.2 enc w base held n cs' _ ht'
    obtain ⟨_, hcl, hat⟩ := World.cells?_some hcs
    refine ⟨l ++ [p], by simp [hll], ?_, ?_⟩
    ·
     intro x hx
     rcases List.mem_append.1 hx with hx | hx
     ·
      exact hlo x hx
     ·
      rw [List.mem_singleton.1 hx]; exact hop
    ·
     intro j q hq
     by_cases hj : j < l.length
     ·
      rw [List.getElem?_append_left hj] at hq
      exact hlc j q hq
     ·
      have hj2 : j = l.length := by
       have := (List.getElem?_eq_some_iff.1 hq).1
       simp at this; omega
      subst hj2
      rw [List.getElem?_append_right (Nat.le_refl _)] at hq
      simp at hq
      subst hq
      refine ⟨cs', hcl, hp, fun i u hu => ?_⟩
      have hil : i < d.sz := by rw [← hcl]; exact (List.getElem?_eq_some_iff.1 hu).1
      rw [hll, ← Go.Deep.add_add, hat i hil, hu]
  obtain ⟨l, hll, hlo, hlc⟩ := key len (Nat.le_refl _)
  subst hll
  exact ⟨l, ⟨some a, cap, rfl, hl, rfl, by unfold maxLen at hm; omega, fun _ => ⟨a, rfl, hlc⟩⟩, hlo, by omega⟩
/-- A slice argument. -/
theorem opn_arg {α : Type} {P : Program} {t e : TypeId} {d : Kd α} {ok : List α → Prop} (h : Opn P t (Kd.slice e d) ok) {H : Type} {enc : TypeId × Value → H} {w : World} {base : Nat} {held : Bool} {a : Option Addr} {len cap : Nat} {x : DataW H} {p : List MemPlace} (hr : DataW.Trod enc P w base (fun _ => true) held t (.slice a len cap) x p) :
 ∃ l : List α, len = l.length ∧ l.length ≤ cap ∧ d.C w a l.length l ∧ ok l := by
 obtain ⟨fuel, hf⟩ := hr
 obtain ⟨l, ⟨A, c, he, hc, hC⟩, ho⟩ := h.2 enc w base held fuel _ _ hf
 simp [Value.cells] at he
 obtain ⟨rfl, rfl, rfl⟩ := he
 exact ⟨l, rfl, hc, hC, ho⟩

end Go.Proofs.YtmacedbpdhkagaaDoor.Pure
