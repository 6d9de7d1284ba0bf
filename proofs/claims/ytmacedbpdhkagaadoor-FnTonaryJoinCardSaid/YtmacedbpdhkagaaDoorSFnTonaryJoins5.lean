/- Lemmas for the law FnTonaryJoin. -/
import Derived.Test.YtmacedbpdhkagaaDoorSFnTonaryJoins4
namespace Go.Proofs.YtmacedbpdhkagaaDoor.PFnTonaryJoin
open Go.RowKit Go.Proofs.YtmacedbpdhkagaaDoorW.PrintWords Go.Proofs.YtmacedbpdhkagaaDoorW.PrintLast Go.Proofs.YtmacedbpdhkagaaDoorW.PrintMore
attribute [local go_sem] max2_int min2_int max_two min_two max_three min_three max_four min_four   -- for this text's walks alone
set_option linter.unusedVariables false
set_option linter.unusedSimpArgs false

def spec_l92Tonary.l0 : Nat → List (S38) → Int → Int → List Int → Int → Option ((List (S38)) × Int)
 | 0, _, _, _, _, _ => none
 | k + 1, x3, x4, x5, x1000, x1001 => if x5 < x4 then ((spec_l92Entry.f k x1000 x1001).bind fun bt363 => ((spec_TonaryAdd.f k x3 bt363.1 bt363.2.1 bt363.2.2.1).bind fun bt369 => (if bt369.2 = true then (spec_l92Tonary.l0 k bt369.1 x4 (wrap64 (x5 + 1)) x1000 bt363.2.2.2) else (spec_l92Tonary.l0 k x3 x4 (wrap64 (x5 + 1)) x1000 bt363.2.2.2)))) else (if (x3.length : Int) > 1 then ((spec_l6Rd_pick.f k x1000 x1001 30).bind fun bt359 => (if bt359.1 = 0 then (if 1 < (x3.length : Int) then (if 0 < (x3.length : Int) then (some ((x3.set (0 : Int).toNat (⟨(rd_T38 x3 1).f0, (rd_T38 x3 1).f1, (rd_T38 x3 1).f2⟩ : S38)), bt359.2)) else (none)) else (none)) else (some (x3, bt359.2)))) else (some (x3, x1001)))
def spec_l92Tonary.f (k : Nat) (s0_0 : List Int) (s0_1 : Int) : Option ((List (S38)) × Int) := (spec_l6Rd_pick.f k s0_0 s0_1 6).bind fun bt357 => (spec_l92Tonary.l0 k (([] : List (S38))) bt357.1 0 s0_0 bt357.2)
set_option maxHeartbeats 8000000 in
set_option maxRecDepth 100000 in
theorem spec_l92Tonary.calls (k : Nat) (g : Nat) (s0_0 : List Int) (s0_1 : Int) (r1 : List (S38)) (r2 : Int) (w0 w : World) (hI : IsS112 w0 w g s0_0 s0_1) (hB : Below w0.heap.size w0 w) (h : spec_l92Tonary.f k s0_0 s0_1 = some (r1, r2)) :
 Calls Tryd.prog 62 #[.pointer (some ⟨g, 0, none⟩)] w fun e w' => ∃ v0_ : Value, e = .returned (v0_) ∧ Kd.N k38 38 w' w.heap.size (fun k_ => (w.heap.size ≤ k_)) v0_ r1 ∧ IsS112 w0 w' g s0_0 r2 ∧ Below w0.heap.size w0 w' ∧ KeepBut w w' g none := by
 have hu38 := Tryd.underlying38; have HI0 := Aside0.mk hI; have HK := Aside0.mk (KeepBut.refl w g none); have HL := Aside0.mk hB.size; clear hI; have HW0 := Aside0.mk hB.size; have HB := Aside0.mk hB; clear hB; have H : ((spec_l6Rd_pick.f k s0_0 s0_1 6).bind fun bt357 => (spec_l92Tonary.l0 k (([] : List (S38))) bt357.1 0 s0_0 bt357.2)) = some (r1, r2) := h; clear h; obtain ⟨y354, hy354⟩ : ∃ y_ : List (S38), y_ = (([] : List (S38))) := ⟨_, rfl⟩
 replace H : ((spec_l6Rd_pick.f k s0_0 s0_1 6).bind fun bt357 => (spec_l92Tonary.l0 k y354 bt357.1 0 s0_0 bt357.2)) = some (r1, r2) := by first | (rw [hy354]; with_reducible exact H) | (have H2_ := (Option.bind_some _ _).symm.trans H; rw [hy354]; with_reducible exact H2_) | (have H2_ := (Option.bind_some _ _).symm.trans H; with_reducible exact H2_) | with_reducible exact H | (rw [hy354]; exact H) | exact H
 have Ny354 := Aside0.mk hy354; clear hy354; replace H := Option.bind_eq_some_iff.mp H; obtain ⟨⟨t357, t358⟩, A20, H⟩ := H; replace H : (spec_l92Tonary.l0 k y354 t357 0 s0_0 t358) = some (r1, r2) := H; have A2 := Aside0.mk A20; clear A20; have H' := Aside0.mk H; clear H; go_enter Tryd.func62, Tryd.ntmps62
 go_wp2_with (first | ((with_reducible refine gate_dst (N := 8) rfl ?_); refine Kd.N_lit k38 _ 38 ?hg (N' := 8) ?hd (xs := ([] : List (S38))) (inner := []) (ok := (fun k_ => (w.heap.size ≤ k_) ∧ k_ ≠ g)) (okp := (fun k_ => (w.heap.size ≤ k_) ∧ k_ ≠ g)) ?hr ?hp (fun _ hk => hk) ((show ∀ k_, w.heap.size ≤ k_ → (fun k_ => (w.heap.size ≤ k_) ∧ k_ ≠ g) k_ from fun k_ hk => ⟨(Nat.le_trans (keep_size (w := w) (g := g) (row := none) (by repeat (first | (with_reducible first | exact HK.out | apply KeepBut.set_ | apply keep_drewN | apply keep_drew | apply keep_alloc) | exact HK.out))) hk), IsS112.fresh (by repeat (first | (with_reducible first | exact HI0.out | apply IsS112.alloc | apply IsS112.drewN | apply IsS112.drew | apply IsS112.set_1) | exact HI0.out)) k_ hk⟩) _ (Nat.le_refl _)) (Below.refl _ _) (Nat.le_refl _) (by simp) ?_; (case hd => rfl); (case hg => rfl); (case hr => first | (go_simp; done) | (go_simp; rfl)); (case hp => exact (Reps.none _ _)); intro v355 w3 ho4 hb hg_ hnew_; clear hg_ hnew_; (first | rw [← Ny354.out] at ho4 | (simp only [Int.reduceToNat] at ho4; rw [← Ny354.out] at ho4)); have n0_ := Aside0.mk (Kd.N_lower ho4 (keep_size (w := w) (g := g) (row := none) (by repeat (first | (with_reducible first | exact HK.out | apply KeepBut.set_ | apply keep_drewN | apply keep_drew | apply keep_alloc) | exact HK.out)))); have n1_ := Aside0.mk (IsS112.below (by repeat (first | (with_reducible first | exact HI0.out | apply IsS112.alloc | apply IsS112.drewN | apply IsS112.drew | apply IsS112.set_1) | exact HI0.out)) hb); have n2_ := Aside0.mk (KeepBut.trans (by repeat (first | (with_reducible first | exact HK.out | apply KeepBut.set_ | apply keep_drewN | apply keep_drew | apply keep_alloc) | exact HK.out)) (KeepBut.of_below hb g none) (.inl rfl)); have n3_ := Aside0.mk (below_step (by repeat (first | (with_reducible first | exact HB.out | apply below_alloc | apply pw_below_drewN | apply below_drew1 | refine below_set ?_ (IsS112.ge HI0.out)) | exact HB.out)) hb); clear HI0; clear HK; clear HB; have HO356 := n0_; have HI0 := n1_; have HK := n2_; have HB := n3_; clear n0_ n1_ n2_ n3_; clear hb ho4) | ((with_reducible refine gate_callee (f := 63) rfl ?_); refine goesL_ (some 10) rfl rfl Tryd.func63 (by kernel_rfl) rfl #[.pointer (some ⟨g, 0, none⟩), .int .i64 6] rfl (by (try simp only [List.map_toArray, List.map_cons, List.map_nil]); first | done | rfl | (simp only [List.length_drop, List.length_take]; rfl)) ?_; (with_reducible refine (spec_l6Rd_pick.calls k g s0_0 s0_1 6 t357 t358 w0 _ ?side1 ?side2 A2.out).mono ?_); (case side1 => repeat (first | (with_reducible first | exact HI0.out | apply IsS112.alloc | apply IsS112.drewN | apply IsS112.drew | apply IsS112.set_1) | exact HI0.out)); (case side2 => repeat (first | (with_reducible first | exact HB.out | apply below_alloc | apply pw_below_drewN | apply below_drew1 | refine below_set ?_ (IsS112.ge HI0.out)) | exact HB.out)); rintro e w5 ⟨rfl, hi, hb, hk⟩; refine ⟨_, rfl, ?_⟩; have n0_ := Aside0.mk (Kd.N_mono (Kd.N_keep (Kd.N_mono (ok := fun k_ => (((w.heap.size ≤ k_)) ∧ k_ ≠ g)) (by (with_reducible repeat (first | apply Kd.N_alloc | apply Kd.N_drewN | apply Kd.N_drew)); exact HO356.out) (fun k_ hk_ => (⟨hk_, hk_.2⟩ : _ ∧ k_ ≠ g))) hk (fun _ h => h.2)) (fun _ h => h.1)); have n1_ := Aside0.mk (KeepBut.trans (by repeat (first | (with_reducible first | exact HK.out | apply KeepBut.set_ | apply keep_drewN | apply keep_drew | apply keep_alloc) | exact HK.out)) hk (.inl rfl)); have n2_ := Aside0.mk (hb); have n3_ := Aside0.mk (hi); clear HO356; clear HK; clear HB; clear HI0; have HO356 := n0_; have HK := n1_; have HB := n2_; have HI0 := n3_; clear n0_ n1_ n2_ n3_; (try clear hb); (try clear hb2); (try clear hk); (try clear hi)))
 go_loopg [3, 5] k (fun kq v3 v5 w' => ∃ (x3_1 : List (S38)) (x5_1 : Int) (x1001_1 : Int), v5 = .int .i64 x5_1 ∧ Aside0 (spec_l92Tonary.l0 kq x3_1 t357 x5_1 s0_0 x1001_1 = some (r1, r2)) ∧ Aside0 (kq ≤ k) ∧ Aside0 (Kd.N k38 38 w' w.heap.size (fun k_ => (w.heap.size ≤ k_) ∧ k_ ≠ g) v3 x3_1) ∧ Aside0 (IsS112 w0 w' g s0_0 x1001_1) ∧ Aside0 (KeepBut w w' g none) ∧ Aside0 (Below w0.heap.size w0 w'))
 case atStart => exact ⟨(y354), (0), (t358), (by first | rfl | (simp; done) | (simp [*]; done)), H', ⟨Nat.le_refl _⟩, ⟨by (with_reducible repeat (first | apply Kd.N_alloc | apply Kd.N_drewN | apply Kd.N_drew)); exact HO356.out⟩, ⟨by repeat (first | (with_reducible first | exact HI0.out | apply IsS112.alloc | apply IsS112.drewN | apply IsS112.drew | apply IsS112.set_1) | exact HI0.out)⟩, ⟨by repeat (first | (with_reducible first | exact HK.out | apply KeepBut.set_ | apply keep_drewN | apply keep_drew | apply keep_alloc) | exact HK.out)⟩, ⟨by repeat (first | (with_reducible first | exact HB.out | apply below_alloc | apply pw_below_drewN | apply below_drew1 | refine below_set ?_ (IsS112.ge HI0.out)) | exact HB.out)⟩⟩
 case round =>
  clear H'; try clear p2
  obtain ⟨x3_1, x5_1, x1001_1, rfl, HA, HK1, HO_3, HI0, HK, HB⟩ := hrel; cases gk with
  | zero => exact absurd HA.out (by simp [spec_l92Tonary.l0])
  | succ k1 =>
   have H := HA.out; clear HA; simp only [spec_l92Tonary.l0] at H; by_cases c6 : x5_1 < t357
   ·
    rw [if_pos c6] at H; have c6b0 : decide (x5_1 < t357) = true := decide_eq_true c6; clear c6; replace H := Option.bind_eq_some_iff.mp H; obtain ⟨⟨t363, t364, t365, t368⟩, A70, H⟩ := H; replace H : ((spec_TonaryAdd.f k1 x3_1 t363 t364 t365).bind fun bt369 => (if bt369.2 = true then (spec_l92Tonary.l0 k1 bt369.1 t357 (wrap64 (x5_1 + 1)) s0_0 t368) else (spec_l92Tonary.l0 k1 x3_1 t357 (wrap64 (x5_1 + 1)) s0_0 t368))) = some (r1, r2) := H; have A7 := Aside0.mk A70; clear A70; replace H := Option.bind_eq_some_iff.mp H; obtain ⟨⟨t369, t372⟩, A80, H⟩ := H; replace H : (if t372 = true then (spec_l92Tonary.l0 k1 t369 t357 (wrap64 (x5_1 + 1)) s0_0 t368) else (spec_l92Tonary.l0 k1 x3_1 t357 (wrap64 (x5_1 + 1)) s0_0 t368)) = some (r1, r2) := H; have A8 := Aside0.mk A80; clear A80; by_cases c9 : t372 = true
    ·
     subst c9; have H1 : (spec_l92Tonary.l0 k1 t369 t357 (wrap64 (x5_1 + 1)) s0_0 t368) = some (r1, r2) := by rw [if_pos rfl] at H; exact H
     clear H; have H := H1; clear H1; have H' := Aside0.mk H; clear H; go_wp2_with (first | ((with_reducible refine gate_callee (f := 64) rfl ?_); refine goesL_ (some 19) rfl rfl Tryd.func64 (by kernel_rfl) rfl #[.pointer (some ⟨g, 0, none⟩)] rfl (by (try simp only [List.map_toArray, List.map_cons, List.map_nil]); first | done | rfl | (simp only [List.length_drop, List.length_take]; rfl)) ?_; (with_reducible refine (spec_l92Entry.calls k1 g s0_0 x1001_1 t363 t364 t365 t368 w0 _ ?side1 ?side2 A7.out).mono ?_); (case side1 => repeat (first | (with_reducible first | exact HI0.out | apply IsS112.alloc | apply IsS112.drewN | apply IsS112.drew | apply IsS112.set_1) | exact HI0.out)); (case side2 => repeat (first | (with_reducible first | exact HB.out | apply below_alloc | apply pw_below_drewN | apply below_drew1 | refine below_set ?_ (IsS112.ge HI0.out)) | exact HB.out)); rintro e w10 ⟨v366, rfl, ho0, hi, hb, hk⟩; refine ⟨_, rfl, ?_⟩; have n0_ := Aside0.mk (Kd.N_mono (Kd.N_told (Kd.N_oldK (Kd.N_mono (ok := fun k_ => (((w.heap.size ≤ k_)) ∧ k_ ≠ g)) (by (with_reducible repeat (first | apply Kd.N_alloc | apply Kd.N_drewN | apply Kd.N_drew)); exact HO_3.out) (fun k_ hk_ => (⟨hk_, hk_.2⟩ : _ ∧ k_ ≠ g))) hk) (Kd.R_base ho0)) (fun _ h_ => h_.1)); have n1_ := Aside0.mk (Kd.R_lower (Kd.R_newM (M := fun k_ => (w.heap.size ≤ k_)) ho0 (keep_size (w := w) (g := g) (row := none) (by repeat (first | (with_reducible first | exact HK.out | apply KeepBut.set_ | apply keep_drewN | apply keep_drew | apply keep_alloc) | exact HK.out))) (fun k_ h_ => h_)) (keep_size (w := w) (g := g) (row := none) (by repeat (first | (with_reducible first | exact HK.out | apply KeepBut.set_ | apply keep_drewN | apply keep_drew | apply keep_alloc) | exact HK.out)))); have n2_ := Aside0.mk (KeepBut.trans (by repeat (first | (with_reducible first | exact HK.out | apply KeepBut.set_ | apply keep_drewN | apply keep_drew | apply keep_alloc) | exact HK.out)) hk (.inl rfl)); have n3_ := Aside0.mk (hb); have n4_ := Aside0.mk (hi); clear HO_3; clear HK; clear HB; clear HI0; have HO_3 := n0_; have HO367 := n1_; have HK := n2_; have HB := n3_; have HI0 := n4_; clear n0_ n1_ n2_ n3_ n4_; (try clear hb); (try clear hb2); (try clear hk); (try clear hi); (try clear ho0); obtain ⟨Ao11, co11, eo11⟩ := Kd.N_slice HO_3.out; subst eo11; obtain ⟨Ao12, co12, eo12⟩ := Kd.R_slice HO367.out; subst eo12) | ((with_reducible refine gate_callee (f := 44) rfl ?_); refine goesL_ (some 20) rfl rfl Tryd.func44 (by kernel_rfl) rfl #[.slice Ao11 x3_1.length co11, .agg #[.string t363, .int .i64 t364, .slice Ao12 t365.length co12]] rfl (by (try simp only [List.map_toArray, List.map_cons, List.map_nil]); first | done | rfl | (simp only [List.length_drop, List.length_take]; rfl)) ?_; (with_reducible refine (spec_TonaryAdd.calls k1 _ _ x3_1 t363 t364 _ _ t365 t369 true _ ?side1 ?side2 ?side3 ?side4 A8.out).mono ?_); (case side1 => repeat (first | exact (Kd.N_reads' HO_3.out).2.2 | (with_reducible refine Kd.C_alloc ?_ _) | (with_reducible refine Kd.C_drewN ?_ _) | (with_reducible refine Kd.C_drew ?_))); (case side2 => exact (Kd.N_reads' HO_3.out).2.1); (case side3 => repeat (first | exact (Kd.R_reads' HO367.out).2.2 | (with_reducible refine Kd.C_alloc ?_ _) | (with_reducible refine Kd.C_drewN ?_ _) | (with_reducible refine Kd.C_drew ?_))); (case side4 => exact (Kd.R_reads' HO367.out).2.1); rintro e w13 ⟨v370, rfl, ho0, hb⟩; refine ⟨_, rfl, ?_⟩; have n0_ := Aside0.mk (Kd.N_elder' (by (with_reducible repeat (first | apply Kd.N_alloc | apply Kd.N_drewN | apply Kd.N_drew)); exact HO_3.out) (by first | exact Kd.N_base ho0 | exact Kd.N_base (Kd.S_N ho0) | exact Kd.N_base (Kd.S_N (Kd.S_bound ho0))) hb); have n1_ := Aside0.mk (Kd.R_below (by (with_reducible repeat (first | apply Kd.R_alloc | apply Kd.R_drewN | apply Kd.R_drew)); exact HO367.out) hb); have n2_ := Aside0.mk (Kd.N_lower (Kd.N_mono (ok' := fun k_ => (w.heap.size ≤ k_) ∧ some k_ ≠ (.slice Ao11 x3_1.length co11 : Value).ownBlock ∧ some k_ ≠ (.slice Ao12 t365.length co12 : Value).ownBlock ∧ k_ ≠ g) (Kd.S_N (Kd.S_bound ho0)) (fun k_ hk_ => ⟨(Nat.le_trans (keep_size (w := w) (g := g) (row := none) (by repeat (first | (with_reducible first | exact HK.out | apply KeepBut.set_ | apply keep_drewN | apply keep_drew | apply keep_alloc) | exact HK.out))) hk_.2.1), (Kd.fresh' (Kd.N_lt (by (with_reducible repeat (first | apply Kd.N_alloc | apply Kd.N_drewN | apply Kd.N_drew)); exact HO_3.out)) k_ hk_.2.1), (Kd.fresh' (Kd.R_lt (by (with_reducible repeat (first | apply Kd.R_alloc | apply Kd.R_drewN | apply Kd.R_drew)); exact HO367.out)) k_ hk_.2.1), (IsS112.fresh (by repeat (first | (with_reducible first | exact HI0.out | apply IsS112.alloc | apply IsS112.drewN | apply IsS112.drew | apply IsS112.set_1) | exact HI0.out)) k_ hk_.2.1)⟩)) (keep_size (w := w) (g := g) (row := none) (by repeat (first | (with_reducible first | exact HK.out | apply KeepBut.set_ | apply keep_drewN | apply keep_drew | apply keep_alloc) | exact HK.out)))); have n3_ := Aside0.mk (IsS112.below (by repeat (first | (with_reducible first | exact HI0.out | apply IsS112.alloc | apply IsS112.drewN | apply IsS112.drew | apply IsS112.set_1) | exact HI0.out)) hb); have n4_ := Aside0.mk (KeepBut.trans (by repeat (first | (with_reducible first | exact HK.out | apply KeepBut.set_ | apply keep_drewN | apply keep_drew | apply keep_alloc) | exact HK.out)) (KeepBut.of_below hb g none) (.inl rfl)); have n5_ := Aside0.mk (below_step (by repeat (first | (with_reducible first | exact HB.out | apply below_alloc | apply pw_below_drewN | apply below_drew1 | refine below_set ?_ (IsS112.ge HI0.out)) | exact HB.out)) hb); clear HO_3; clear HO367; clear HI0; clear HK; clear HB; have HO_3 := n0_; have HO367 := n1_; have HO371 := n2_; have HI0 := n3_; have HK := n4_; have HB := n5_; clear n0_ n1_ n2_ n3_ n4_ n5_; (try clear hb); (try clear hb2); (try clear hk); (try clear hi); (try clear ho0)))
     go_roundg k1
     case measure => have := HK1.out; omega
     case rel => exact ⟨(t369), (wrap64 (x5_1 + 1)), (t368), (by first | rfl | (simp; done) | (simp [*]; done)), H', ⟨by have := HK1.out; omega⟩, ⟨by (with_reducible repeat (first | apply Kd.N_alloc | apply Kd.N_drewN | apply Kd.N_drew)); exact Kd.N_mono HO371.out (fun _ hk => ⟨hk.1, hk.2.2.2⟩)⟩, ⟨by repeat (first | (with_reducible first | exact HI0.out | apply IsS112.alloc | apply IsS112.drewN | apply IsS112.drew | apply IsS112.set_1) | exact HI0.out)⟩, ⟨by repeat (first | (with_reducible first | exact HK.out | apply KeepBut.set_ | apply keep_drewN | apply keep_drew | apply keep_alloc) | exact HK.out)⟩, ⟨by repeat (first | (with_reducible first | exact HB.out | apply below_alloc | apply pw_below_drewN | apply below_drew1 | refine below_set ?_ (IsS112.ge HI0.out)) | exact HB.out)⟩⟩
    ·
     replace c9 := Bool.eq_false_iff.mpr c9; subst c9; have H1 : (spec_l92Tonary.l0 k1 x3_1 t357 (wrap64 (x5_1 + 1)) s0_0 t368) = some (r1, r2) := by rw [if_neg (show ¬ (false = true) by decide)] at H; exact H
     clear H; have H := H1; clear H1; have H' := Aside0.mk H; clear H; go_wp2_with (first | ((with_reducible refine gate_callee (f := 64) rfl ?_); refine goesL_ (some 19) rfl rfl Tryd.func64 (by kernel_rfl) rfl #[.pointer (some ⟨g, 0, none⟩)] rfl (by (try simp only [List.map_toArray, List.map_cons, List.map_nil]); first | done | rfl | (simp only [List.length_drop, List.length_take]; rfl)) ?_; (with_reducible refine (spec_l92Entry.calls k1 g s0_0 x1001_1 t363 t364 t365 t368 w0 _ ?side1 ?side2 A7.out).mono ?_); (case side1 => repeat (first | (with_reducible first | exact HI0.out | apply IsS112.alloc | apply IsS112.drewN | apply IsS112.drew | apply IsS112.set_1) | exact HI0.out)); (case side2 => repeat (first | (with_reducible first | exact HB.out | apply below_alloc | apply pw_below_drewN | apply below_drew1 | refine below_set ?_ (IsS112.ge HI0.out)) | exact HB.out)); rintro e w14 ⟨v366, rfl, ho0, hi, hb, hk⟩; refine ⟨_, rfl, ?_⟩; have n0_ := Aside0.mk (Kd.N_mono (Kd.N_told (Kd.N_oldK (Kd.N_mono (ok := fun k_ => (((w.heap.size ≤ k_)) ∧ k_ ≠ g)) (by (with_reducible repeat (first | apply Kd.N_alloc | apply Kd.N_drewN | apply Kd.N_drew)); exact HO_3.out) (fun k_ hk_ => (⟨hk_, hk_.2⟩ : _ ∧ k_ ≠ g))) hk) (Kd.R_base ho0)) (fun _ h_ => h_.1)); have n1_ := Aside0.mk (Kd.R_lower (Kd.R_newM (M := fun k_ => (w.heap.size ≤ k_)) ho0 (keep_size (w := w) (g := g) (row := none) (by repeat (first | (with_reducible first | exact HK.out | apply KeepBut.set_ | apply keep_drewN | apply keep_drew | apply keep_alloc) | exact HK.out))) (fun k_ h_ => h_)) (keep_size (w := w) (g := g) (row := none) (by repeat (first | (with_reducible first | exact HK.out | apply KeepBut.set_ | apply keep_drewN | apply keep_drew | apply keep_alloc) | exact HK.out)))); have n2_ := Aside0.mk (KeepBut.trans (by repeat (first | (with_reducible first | exact HK.out | apply KeepBut.set_ | apply keep_drewN | apply keep_drew | apply keep_alloc) | exact HK.out)) hk (.inl rfl)); have n3_ := Aside0.mk (hb); have n4_ := Aside0.mk (hi); clear HO_3; clear HK; clear HB; clear HI0; have HO_3 := n0_; have HO367 := n1_; have HK := n2_; have HB := n3_; have HI0 := n4_; clear n0_ n1_ n2_ n3_ n4_; (try clear hb); (try clear hb2); (try clear hk); (try clear hi); (try clear ho0); obtain ⟨Ao15, co15, eo15⟩ := Kd.N_slice HO_3.out; subst eo15; obtain ⟨Ao16, co16, eo16⟩ := Kd.R_slice HO367.out; subst eo16) | ((with_reducible refine gate_callee (f := 44) rfl ?_); refine goesL_ (some 20) rfl rfl Tryd.func44 (by kernel_rfl) rfl #[.slice Ao15 x3_1.length co15, .agg #[.string t363, .int .i64 t364, .slice Ao16 t365.length co16]] rfl (by (try simp only [List.map_toArray, List.map_cons, List.map_nil]); first | done | rfl | (simp only [List.length_drop, List.length_take]; rfl)) ?_; (with_reducible refine (spec_TonaryAdd.calls k1 _ _ x3_1 t363 t364 _ _ t365 t369 false _ ?side1 ?side2 ?side3 ?side4 A8.out).mono ?_); (case side1 => repeat (first | exact (Kd.N_reads' HO_3.out).2.2 | (with_reducible refine Kd.C_alloc ?_ _) | (with_reducible refine Kd.C_drewN ?_ _) | (with_reducible refine Kd.C_drew ?_))); (case side2 => exact (Kd.N_reads' HO_3.out).2.1); (case side3 => repeat (first | exact (Kd.R_reads' HO367.out).2.2 | (with_reducible refine Kd.C_alloc ?_ _) | (with_reducible refine Kd.C_drewN ?_ _) | (with_reducible refine Kd.C_drew ?_))); (case side4 => exact (Kd.R_reads' HO367.out).2.1); rintro e w17 ⟨v370, rfl, ho0, hb⟩; refine ⟨_, rfl, ?_⟩; have n0_ := Aside0.mk (Kd.N_elder' (by (with_reducible repeat (first | apply Kd.N_alloc | apply Kd.N_drewN | apply Kd.N_drew)); exact HO_3.out) (by first | exact Kd.N_base ho0 | exact Kd.N_base (Kd.S_N ho0) | exact Kd.N_base (Kd.S_N (Kd.S_bound ho0))) hb); have n1_ := Aside0.mk (Kd.R_below (by (with_reducible repeat (first | apply Kd.R_alloc | apply Kd.R_drewN | apply Kd.R_drew)); exact HO367.out) hb); have n2_ := Aside0.mk (Kd.N_lower (Kd.N_mono (ok' := fun k_ => (w.heap.size ≤ k_) ∧ some k_ ≠ (.slice Ao15 x3_1.length co15 : Value).ownBlock ∧ some k_ ≠ (.slice Ao16 t365.length co16 : Value).ownBlock ∧ k_ ≠ g) (Kd.S_N (Kd.S_bound ho0)) (fun k_ hk_ => ⟨(Nat.le_trans (keep_size (w := w) (g := g) (row := none) (by repeat (first | (with_reducible first | exact HK.out | apply KeepBut.set_ | apply keep_drewN | apply keep_drew | apply keep_alloc) | exact HK.out))) hk_.2.1), (Kd.fresh' (Kd.N_lt (by (with_reducible repeat (first | apply Kd.N_alloc | apply Kd.N_drewN | apply Kd.N_drew)); exact HO_3.out)) k_ hk_.2.1), (Kd.fresh' (Kd.R_lt (by (with_reducible repeat (first | apply Kd.R_alloc | apply Kd.R_drewN | apply Kd.R_drew)); exact HO367.out)) k_ hk_.2.1), (IsS112.fresh (by repeat (first | (with_reducible first | exact HI0.out | apply IsS112.alloc | apply IsS112.drewN | apply IsS112.drew | apply IsS112.set_1) | exact HI0.out)) k_ hk_.2.1)⟩)) (keep_size (w := w) (g := g) (row := none) (by repeat (first | (with_reducible first | exact HK.out | apply KeepBut.set_ | apply keep_drewN | apply keep_drew | apply keep_alloc) | exact HK.out)))); have n3_ := Aside0.mk (IsS112.below (by repeat (first | (with_reducible first | exact HI0.out | apply IsS112.alloc | apply IsS112.drewN | apply IsS112.drew | apply IsS112.set_1) | exact HI0.out)) hb); have n4_ := Aside0.mk (KeepBut.trans (by repeat (first | (with_reducible first | exact HK.out | apply KeepBut.set_ | apply keep_drewN | apply keep_drew | apply keep_alloc) | exact HK.out)) (KeepBut.of_below hb g none) (.inl rfl)); have n5_ := Aside0.mk (below_step (by repeat (first | (with_reducible first | exact HB.out | apply below_alloc | apply pw_below_drewN | apply below_drew1 | refine below_set ?_ (IsS112.ge HI0.out)) | exact HB.out)) hb); clear HO_3; clear HO367; clear HI0; clear HK; clear HB; have HO_3 := n0_; have HO367 := n1_; have HO371 := n2_; have HI0 := n3_; have HK := n4_; have HB := n5_; clear n0_ n1_ n2_ n3_ n4_ n5_; (try clear hb); (try clear hb2); (try clear hk); (try clear hi); (try clear ho0)))
     go_roundg k1
     case measure => have := HK1.out; omega
     case rel => exact ⟨(x3_1), (wrap64 (x5_1 + 1)), (t368), (by first | rfl | (simp; done) | (simp [*]; done)), H', ⟨by have := HK1.out; omega⟩, ⟨by (with_reducible repeat (first | apply Kd.N_alloc | apply Kd.N_drewN | apply Kd.N_drew)); exact Kd.N_mono HO_3.out (fun _ hk => ⟨hk.1.1.1, hk.1.1.2⟩)⟩, ⟨by repeat (first | (with_reducible first | exact HI0.out | apply IsS112.alloc | apply IsS112.drewN | apply IsS112.drew | apply IsS112.set_1) | exact HI0.out)⟩, ⟨by repeat (first | (with_reducible first | exact HK.out | apply KeepBut.set_ | apply keep_drewN | apply keep_drew | apply keep_alloc) | exact HK.out)⟩, ⟨by repeat (first | (with_reducible first | exact HB.out | apply below_alloc | apply pw_below_drewN | apply below_drew1 | refine below_set ?_ (IsS112.ge HI0.out)) | exact HB.out)⟩⟩
   ·
    rw [if_neg c6] at H; have c6b0 : decide (x5_1 < t357) = false := decide_eq_false c6; clear c6; by_cases c18 : (x3_1.length : Int) > 1
    ·
     rw [if_pos c18] at H; have c18b0 : decide (1 < (x3_1.length : Int)) = true := decide_eq_true c18; have c18b1 : decide (1 < x3_1.length) = true := decide_eq_true (by omega); clear c18; replace H := Option.bind_eq_some_iff.mp H; obtain ⟨⟨t359, t360⟩, A190, H⟩ := H; replace H : (if t359 = 0 then (if 1 < (x3_1.length : Int) then (if 0 < (x3_1.length : Int) then (some ((x3_1.set (0 : Int).toNat (⟨(rd_T38 x3_1 1).f0, (rd_T38 x3_1 1).f1, (rd_T38 x3_1 1).f2⟩ : S38)), t360)) else (none)) else (none)) else (some (x3_1, t360))) = some (r1, r2) := H; have A19 := Aside0.mk A190; clear A190; by_cases c20 : t359 = 0
     ·
      rw [if_pos c20] at H; have c20b0 : (t359 == 0) = true := beq_iff_eq.mpr c20; have c20b1 : (t359 != 0) = false := bne_eq_false_iff_eq.mpr c20; clear c20; by_cases c21 : 1 < (x3_1.length : Int)
      ·
       rw [if_pos c21] at H; have c21b0 : decide (1 < (x3_1.length : Int)) = true := decide_eq_true c21; have c21b1 : decide (1 < x3_1.length) = true := decide_eq_true (by omega); clear c21; by_cases c22 : 0 < (x3_1.length : Int)
       ·
        rw [if_pos c22] at H; have c22b0 : decide (0 < (x3_1.length : Int)) = true := decide_eq_true c22; have c22b1 : decide (0 < x3_1.length) = true := decide_eq_true (by omega); clear c22; obtain ⟨y362, hy362⟩ : ∃ y_ : List (S38), y_ = (x3_1.set (0 : Int).toNat (⟨(rd_T38 x3_1 1).f0, (rd_T38 x3_1 1).f1, (rd_T38 x3_1 1).f2⟩ : S38)) := ⟨_, rfl⟩
        replace H : (some (y362, t360)) = some (r1, r2) := by first | (rw [hy362]; with_reducible exact H) | (have H2_ := (Option.bind_some _ _).symm.trans H; rw [hy362]; with_reducible exact H2_) | (have H2_ := (Option.bind_some _ _).symm.trans H; with_reducible exact H2_) | with_reducible exact H | (rw [hy362]; exact H) | exact H
        have Ny362 := Aside0.mk hy362; clear hy362; simp only [Option.some.injEq, Prod.mk.injEq] at H; obtain ⟨rfl, rfl⟩ := H; obtain ⟨Ao24, co24, eo24⟩ := Kd.N_slice HO_3.out; subst eo24; go_wp2_with (first | (go_at_call 63; (with_reducible refine (spec_l6Rd_pick.calls k1 g s0_0 x1001_1 30 t359 t360 w0 _ ?side1 ?side2 A19.out).mono ?_); (case side1 => repeat (first | (with_reducible first | exact HI0.out | apply IsS112.alloc | apply IsS112.drewN | apply IsS112.drew | apply IsS112.set_1) | exact HI0.out)); (case side2 => repeat (first | (with_reducible first | exact HB.out | apply below_alloc | apply pw_below_drewN | apply below_drew1 | refine below_set ?_ (IsS112.ge HI0.out)) | exact HB.out)); rintro e w25 ⟨rfl, hi, hb, hk⟩; have n0_ := Aside0.mk (Kd.N_mono (Kd.N_keep (Kd.N_mono (ok := fun k_ => (((w.heap.size ≤ k_)) ∧ k_ ≠ g)) (by (with_reducible repeat (first | apply Kd.N_alloc | apply Kd.N_drewN | apply Kd.N_drew)); exact HO_3.out) (fun k_ hk_ => (⟨hk_, hk_.2⟩ : _ ∧ k_ ≠ g))) hk (fun _ h => h.2)) (fun _ h => h.1)); have n1_ := Aside0.mk (KeepBut.trans (by repeat (first | (with_reducible first | exact HK.out | apply KeepBut.set_ | apply keep_drewN | apply keep_drew | apply keep_alloc) | exact HK.out)) hk (.inl rfl)); have n2_ := Aside0.mk (hb); have n3_ := Aside0.mk (hi); clear HO_3; clear HK; clear HB; clear HI0; have HO_3 := n0_; have HK := n1_; have HB := n2_; have HI0 := n3_; clear n0_ n1_ n2_ n3_; (try clear hb); (try clear hb2); (try clear hk); (try clear hi); have p361 : 0 ≤ (1 : Int) := (by omega); have q361 : 1 < (x3_1.length : Int) := of_decide_eq_true (by first | (with_reducible assumption) | assumption); obtain ⟨ad361, A361_2, c361_2, e361, hx361_0, hx361_1, hx361_2, hl361_2, hi361_2⟩ := at_T38 (Kd.N_reads' HO_3.out).2.2 1 p361 q361; cases e361; obtain ⟨ce361, hce361, hMe361, hcc361⟩ := Kd.N_get HO_3.out z38 1 p361 (by first | exact q361 | exact of_decide_eq_true (by first | (with_reducible assumption) | assumption) | (have e_ := (Kd.N_reads' HO_3.out).1; omega)); obtain ⟨ua361_2, uc361_2, rfl, ul361_2, ge361_2⟩ := k38_openF hMe361; have hv361_2 := hcc361 2 _ rfl; rw [add_field _ _ 2 (by omega)] at hv361_2; replace hv361_2 := Option.some.inj (hv361_2.symm.trans hx361_2); injection hv361_2 with hva_ hvn_ hvc_; rw [hva_] at ge361_2; rw [hvc_] at ul361_2; have HL361_2 := Aside0.mk (show Kd.V k90 90 _ w.heap.size _ _ ((rd_T38 x3_1 1).f2) from Kd.V_mk ul361_2 ge361_2); clear hva_ hvn_ hvc_ ge361_2 ul361_2; clear hcc361 hce361; (try simp only [show (1 : Int).toNat = 1 from rfl, Nat.reduceMul, Nat.reduceEqDiff, Go.Addr.add, ↓reduceIte] at hx361_0); (try simp only [show (1 : Int).toNat = 1 from rfl, Nat.reduceMul, Nat.reduceEqDiff, Go.Addr.add, ↓reduceIte] at hx361_1); (try simp only [show (1 : Int).toNat = 1 from rfl, Nat.reduceMul, Nat.reduceEqDiff, Go.Addr.add, ↓reduceIte] at hx361_2); have qi361 : (1 < x3_1.length) = True := eq_true (by omega); (try rw [show ((1 : Int)).toNat = 1 from rfl] at hx361_0); (try rw [show 1 * 3 = 3 from rfl] at hx361_0); (try rw [show ((1 : Int)).toNat = 1 from rfl] at hx361_1); (try rw [show 1 * 3 = 3 from rfl] at hx361_1); (try rw [show ((1 : Int)).toNat = 1 from rfl] at hx361_2); (try rw [show 1 * 3 = 3 from rfl] at hx361_2); have HR361_2 := Aside0.mk hi361_2; have HC361_2 := Aside0.mk hl361_2; clear hi361_2 hl361_2; replace p361 := eq_true p361; replace q361 := eq_true q361; have p23 : 0 ≤ (0 : Int) := (by omega); have q23 : (0 : Int) < ((x3_1.length : Int) : Int) := of_decide_eq_true (by first | (with_reducible assumption) | assumption); have qi23 : (0 < x3_1.length) = True := eq_true (by omega); obtain ⟨go23, co23, eo23, gb23, gl23, cl23, HG23⟩ := Kd.N_form HO_3.out (by omega); (first | cases eo23 | (injection eo23 with ea_ en_ ec_; (first | subst ea_ | (injection ea_ with ea_; subst ea_)); subst ec_; clear en_)); have GB23 := Aside0.mk gb23; have GG23 := Aside0.mk HG23; clear gb23 gl23 HG23; (first | simp only [add_plain] at hx361_0 | skip); (first | simp only [add_plain] at hx361_1 | skip); (first | simp only [add_plain] at hx361_2 | skip); obtain ⟨ce23, hcl23, hM23, hcc23, hfr23⟩ := Kd.N_elem HO_3.out z38 (0 : Int) p23 q23; obtain ⟨ua23_2, uc23_2, rfl, ul23_2, ge23_2⟩ := k38_openF hM23; have hx23_0 : w25.cell? ⟨go23, (0 : Int).toNat * 3, none⟩ = some (.string ((rd_T38 x3_1 0).f0)) := hcc23 0 _ rfl; have hx23_1 : w25.cell? ⟨go23, (0 : Int).toNat * 3 + 1, none⟩ = some (.int .i64 ((rd_T38 x3_1 0).f1)) := hcc23 1 _ rfl; have hx23_2 : w25.cell? ⟨go23, (0 : Int).toNat * 3 + 2, none⟩ = some (.slice ua23_2 ((rd_T38 x3_1 0).f2).length uc23_2) := hcc23 2 _ rfl; have hf23_0 : w25.frozen? ⟨go23, (0 : Int).toNat * 3, none⟩ = false := hfr23 0; have hf23_1 : w25.frozen? ⟨go23, (0 : Int).toNat * 3 + 1, none⟩ = false := hfr23 1; have hf23_2 : w25.frozen? ⟨go23, (0 : Int).toNat * 3 + 2, none⟩ = false := hfr23 2; clear hcl23 hcc23 hfr23 hM23; (try rw [show ((0 : Int)).toNat = 0 from rfl] at hx23_0); (try simp only [Nat.reduceMul, Nat.zero_mul, Nat.zero_add, Nat.reduceAdd] at hx23_0); (try rw [show ((0 : Int)).toNat = 0 from rfl] at hf23_0); (try simp only [Nat.reduceMul, Nat.zero_mul, Nat.zero_add, Nat.reduceAdd] at hf23_0); (try rw [show ((0 : Int)).toNat = 0 from rfl] at hx23_1); (try simp only [Nat.reduceMul, Nat.zero_mul, Nat.zero_add, Nat.reduceAdd] at hx23_1); (try rw [show ((0 : Int)).toNat = 0 from rfl] at hf23_1); (try simp only [Nat.reduceMul, Nat.zero_mul, Nat.zero_add, Nat.reduceAdd] at hf23_1); (try rw [show ((0 : Int)).toNat = 0 from rfl] at hx23_2); (try simp only [Nat.reduceMul, Nat.zero_mul, Nat.zero_add, Nat.reduceAdd] at hx23_2); (try rw [show ((0 : Int)).toNat = 0 from rfl] at hf23_2); (try simp only [Nat.reduceMul, Nat.zero_mul, Nat.zero_add, Nat.reduceAdd] at hf23_2); replace p23 := eq_true p23; replace q23 := eq_true q23; have HX26 := Aside0.mk (show Kd.N k38 38 w25 w.heap.size (fun k_ => (w.heap.size ≤ k_) ∧ k_ ≠ g) (.slice (some ⟨go23, 0, none⟩) x3_1.length co24) x3_1 from (by (with_reducible repeat (first | apply Kd.N_alloc | apply Kd.N_drewN | apply Kd.N_drew)); exact HO_3.out)); obtain ⟨ce26, hcl26, hM26, hcc26, hfr26⟩ := Kd.N_elem HX26.out z38 (0 : Int) (by omega) (by have h_ : (0 : Int) < ((x3_1.length : Int) : Int) := of_decide_eq_true (by first | (with_reducible assumption) | assumption); first | exact h_ | (have e_ := (Kd.N_reads' HO_3.out).1; omega) | simpa using h_); obtain ⟨ua26_2, uc26_2, rfl, ul26_2, ge26_2⟩ := k38_openF hM26; have HP26 := Kd.N_seg HX26.out (0 : Int) (by omega) (by have h_ : (0 : Int) < ((x3_1.length : Int) : Int) := of_decide_eq_true (by first | (with_reducible assumption) | assumption); first | exact h_ | (have e_ := (Kd.N_reads' HO_3.out).1; omega) | simpa using h_) (seg := [.string ((rd_T38 x3_1 1).f0), .int .i64 ((rd_T38 x3_1 1).f1), .slice A361_2 ((rd_T38 x3_1 1).f2).length c361_2]) (j := 0) hcl26 hcc26 (show 3 ≤ 3 from by decide) (x' := (⟨(rd_T38 x3_1 1).f0, (rd_T38 x3_1 1).f1, (rd_T38 x3_1 1).f2⟩ : S38)) (k38_mkF _ _ (⟨(rd_T38 x3_1 1).f0, (rd_T38 x3_1 1).f1, (rd_T38 x3_1 1).f2⟩ : S38) (Kd.V_reads' (Kd.V_mono (ok' := (fun k_ => ((fun k_ => (w.heap.size ≤ k_) ∧ k_ ≠ g)) k_ ∧ k_ ≠ go23)) (HL361_2.out) (fun k_ hk => ⟨⟨hk.1.1, hk.1.2⟩, fun e_ => (hk.2) (by rw [e_]; rfl)⟩))).2.1 (Kd.V_F (Kd.V_mono (ok' := (fun k_ => ((fun k_ => (w.heap.size ≤ k_) ∧ k_ ≠ g)) k_ ∧ k_ ≠ go23)) (HL361_2.out) (fun k_ hk => ⟨⟨hk.1.1, hk.1.2⟩, fun e_ => (hk.2) (by rw [e_]; rfl)⟩)))) (fun _ hk => hk); have hx26_0 := hcc26 0 _ rfl; (try simp only [show (k38).sz = 3 from rfl, Nat.mul_one, Nat.add_zero] at hx26_0); (try rw [show ((0 : Int)).toNat = 0 from rfl] at hx26_0); (try simp only [Nat.reduceMul, Nat.zero_mul, Nat.zero_add, Nat.reduceAdd] at hx26_0); have hf26_0 := hfr26 0; (try simp only [show (k38).sz = 3 from rfl, Nat.mul_one, Nat.add_zero] at hf26_0); (try rw [show ((0 : Int)).toNat = 0 from rfl] at hf26_0); (try simp only [Nat.reduceMul, Nat.zero_mul, Nat.zero_add, Nat.reduceAdd] at hf26_0); have hx26_1 := hcc26 1 _ rfl; (try simp only [show (k38).sz = 3 from rfl, Nat.mul_one, Nat.add_zero] at hx26_1); (try rw [show ((0 : Int)).toNat = 0 from rfl] at hx26_1); (try simp only [Nat.reduceMul, Nat.zero_mul, Nat.zero_add, Nat.reduceAdd] at hx26_1); have hf26_1 := hfr26 1; (try simp only [show (k38).sz = 3 from rfl, Nat.mul_one, Nat.add_zero] at hf26_1); (try rw [show ((0 : Int)).toNat = 0 from rfl] at hf26_1); (try simp only [Nat.reduceMul, Nat.zero_mul, Nat.zero_add, Nat.reduceAdd] at hf26_1); have hx26_2 := hcc26 2 _ rfl; (try simp only [show (k38).sz = 3 from rfl, Nat.mul_one, Nat.add_zero] at hx26_2); (try rw [show ((0 : Int)).toNat = 0 from rfl] at hx26_2); (try simp only [Nat.reduceMul, Nat.zero_mul, Nat.zero_add, Nat.reduceAdd] at hx26_2); have hf26_2 := hfr26 2; (try simp only [show (k38).sz = 3 from rfl, Nat.mul_one, Nat.add_zero] at hf26_2); (try rw [show ((0 : Int)).toNat = 0 from rfl] at hf26_2); (try simp only [Nat.reduceMul, Nat.zero_mul, Nat.zero_add, Nat.reduceAdd] at hf26_2); clear hcl26 hcc26 hfr26 hM26) | ((with_reducible refine gate_store (t := 38) (p := 37) rfl ?_); refine store_event (t := 38) (p := 37) (v := ?vo_w27) (w1 := (((w25.setCell ⟨go23, 0, none⟩ (.string ((rd_T38 x3_1 1).f0))).setCell ⟨go23, 1, none⟩ (.int .i64 ((rd_T38 x3_1 1).f1))).setCell ⟨go23, 2, none⟩ (.slice A361_2 ((rd_T38 x3_1 1).f2).length c361_2))) ?hg ?ho ?hn ?hr ?_; (case ho => rfl); (case hg => rfl); (case hn => rfl); (case hr => first | (go_simp; done) | (go_simp; rfl)); intro w27 hw; have hg : w25.grownBy w27 (some go23) := (by rw [hw]; exact HP26.2); have hp_ : Kd.N k38 38 w27 w.heap.size (fun k_ => (w.heap.size ≤ k_) ∧ k_ ≠ g) (.slice (some ⟨go23, 0, none⟩) x3_1.length co24) y362 := (by rw [hw, Ny362.out]; exact HP26.1); clear HP26; have n0_ := Aside0.mk (hp_); have n1_ := Aside0.mk (IsS112.grown (by repeat (first | (with_reducible first | exact HI0.out | apply IsS112.alloc | apply IsS112.drewN | apply IsS112.drew | apply IsS112.set_1) | exact HI0.out)) hg (IsS112.own_neN HI0.out HO_3.out (by decide))); have n2_ := Aside0.mk (Kd.V_afterv (v := (.slice (some ⟨go23, 0, none⟩) x3_1.length co24)) (v1 := (.slice (some ⟨go23, 0, none⟩) x3_1.length co24)) (ok := (fun k_ => (w.heap.size ≤ k_) ∧ k_ ≠ g)) (by (with_reducible repeat (first | apply Kd.V_alloc | apply Kd.V_drewN | apply Kd.V_drew)); exact HL361_2.out) hg (.inl rfl)); have n3_ := Aside0.mk ((by rw [hw]; exact below_set (below_set (below_set (HB.out) (Nat.le_trans HL.out GB23.out)) (Nat.le_trans HL.out GB23.out)) (Nat.le_trans HL.out GB23.out) : Below w0.heap.size w0 w27)); have n4_ := Aside0.mk (KeepBut.trans (by repeat (first | (with_reducible first | exact HK.out | apply KeepBut.set_ | apply keep_drewN | apply keep_drew | apply keep_alloc) | exact HK.out)) (KeepBut.of_grown hg g) (Kd.N_base2 HO_3.out)); clear HO_3; clear HI0; clear HL361_2; clear HB; clear HK; have HO_3 := n0_; have HI0 := n1_; have HL361_2 := n2_; have HB := n3_; have HK := n4_; clear n0_ n1_ n2_ n3_ n4_; clear hg hw hp_))
        go_ret
        exact ⟨_, by first | rfl | (simp [errW_none, errW_some] <;> rfl) | (simp [*, errW_none, errW_some] <;> rfl), by (with_reducible repeat (first | apply Kd.N_alloc | apply Kd.N_drewN | apply Kd.N_drew)); exact Kd.N_mono HO_3.out (fun _ hk => hk.1), by repeat (first | (with_reducible first | exact HI0.out | apply IsS112.alloc | apply IsS112.drewN | apply IsS112.drew | apply IsS112.set_1) | exact HI0.out), by repeat (first | (with_reducible first | exact HB.out | apply below_alloc | apply pw_below_drewN | apply below_drew1 | refine below_set ?_ (IsS112.ge HI0.out)) | exact HB.out), by repeat (first | (with_reducible first | exact HK.out | apply KeepBut.set_ | apply keep_drewN | apply keep_drew | apply keep_alloc) | exact HK.out)⟩
       ·
        rw [if_neg c22] at H; exact absurd H (by simp)
      ·
       rw [if_neg c21] at H; exact absurd H (by simp)
     ·
      rw [if_neg c20] at H; have c20b0 : (t359 == 0) = false := beq_eq_false_iff_ne.mpr c20; have c20b1 : (t359 != 0) = true := bne_iff_ne.mpr c20; simp only [Option.some.injEq, Prod.mk.injEq] at H; obtain ⟨rfl, rfl⟩ := H; obtain ⟨Ao28, co28, eo28⟩ := Kd.N_slice HO_3.out; subst eo28; go_wp2_with (first | (go_at_call 63; (with_reducible refine (spec_l6Rd_pick.calls k1 g s0_0 x1001_1 30 t359 t360 w0 _ ?side1 ?side2 A19.out).mono ?_); (case side1 => repeat (first | (with_reducible first | exact HI0.out | apply IsS112.alloc | apply IsS112.drewN | apply IsS112.drew | apply IsS112.set_1) | exact HI0.out)); (case side2 => repeat (first | (with_reducible first | exact HB.out | apply below_alloc | apply pw_below_drewN | apply below_drew1 | refine below_set ?_ (IsS112.ge HI0.out)) | exact HB.out)); rintro e w29 ⟨rfl, hi, hb, hk⟩; have n0_ := Aside0.mk (Kd.N_mono (Kd.N_keep (Kd.N_mono (ok := fun k_ => (((w.heap.size ≤ k_)) ∧ k_ ≠ g)) (by (with_reducible repeat (first | apply Kd.N_alloc | apply Kd.N_drewN | apply Kd.N_drew)); exact HO_3.out) (fun k_ hk_ => (⟨hk_, hk_.2⟩ : _ ∧ k_ ≠ g))) hk (fun _ h => h.2)) (fun _ h => h.1)); have n1_ := Aside0.mk (KeepBut.trans (by repeat (first | (with_reducible first | exact HK.out | apply KeepBut.set_ | apply keep_drewN | apply keep_drew | apply keep_alloc) | exact HK.out)) hk (.inl rfl)); have n2_ := Aside0.mk (hb); have n3_ := Aside0.mk (hi); clear HO_3; clear HK; clear HB; clear HI0; have HO_3 := n0_; have HK := n1_; have HB := n2_; have HI0 := n3_; clear n0_ n1_ n2_ n3_; (try clear hb); (try clear hb2); (try clear hk); (try clear hi)))
      go_ret
      exact ⟨_, by first | rfl | (simp [errW_none, errW_some] <;> rfl) | (simp [*, errW_none, errW_some] <;> rfl), by (with_reducible repeat (first | apply Kd.N_alloc | apply Kd.N_drewN | apply Kd.N_drew)); exact Kd.N_mono HO_3.out (fun _ hk => hk.1), by repeat (first | (with_reducible first | exact HI0.out | apply IsS112.alloc | apply IsS112.drewN | apply IsS112.drew | apply IsS112.set_1) | exact HI0.out), by repeat (first | (with_reducible first | exact HB.out | apply below_alloc | apply pw_below_drewN | apply below_drew1 | refine below_set ?_ (IsS112.ge HI0.out)) | exact HB.out), by repeat (first | (with_reducible first | exact HK.out | apply KeepBut.set_ | apply keep_drewN | apply keep_drew | apply keep_alloc) | exact HK.out)⟩
    ·
     rw [if_neg c18] at H; have c18b0 : decide (1 < (x3_1.length : Int)) = false := decide_eq_false c18; have c18b1 : decide (1 < x3_1.length) = false := decide_eq_false (by omega); clear c18; simp only [Option.some.injEq, Prod.mk.injEq] at H; obtain ⟨rfl, rfl⟩ := H; obtain ⟨Ao30, co30, eo30⟩ := Kd.N_slice HO_3.out; subst eo30; go_wp2; go_ret
     exact ⟨_, by first | rfl | (simp [errW_none, errW_some] <;> rfl) | (simp [*, errW_none, errW_some] <;> rfl), by (with_reducible repeat (first | apply Kd.N_alloc | apply Kd.N_drewN | apply Kd.N_drew)); exact Kd.N_mono HO_3.out (fun _ hk => hk.1), by repeat (first | (with_reducible first | exact HI0.out | apply IsS112.alloc | apply IsS112.drewN | apply IsS112.drew | apply IsS112.set_1) | exact HI0.out), by repeat (first | (with_reducible first | exact HB.out | apply below_alloc | apply pw_below_drewN | apply below_drew1 | refine below_set ?_ (IsS112.ge HI0.out)) | exact HB.out), by repeat (first | (with_reducible first | exact HK.out | apply KeepBut.set_ | apply keep_drewN | apply keep_drew | apply keep_alloc) | exact HK.out)⟩

end Go.Proofs.YtmacedbpdhkagaaDoor.PFnTonaryJoin
namespace Go.Proofs.YtmacedbpdhkagaaDoor.PFnTonaryJoin
open Go.RowKit Go.Proofs.YtmacedbpdhkagaaDoorW.PrintWords Go.Proofs.YtmacedbpdhkagaaDoorW.PrintLast Go.Proofs.YtmacedbpdhkagaaDoorW.PrintMore
attribute [local go_sem] max2_int min2_int max_two min_two max_three min_three max_four min_four   -- for this text's walks alone
set_option linter.unusedVariables false
set_option linter.unusedSimpArgs false

def spec_DrawTonaryJoin.l0 : Nat → List (S38) → List (S38) → List (S38) → Int → List Int → Int → Option ((List (S38)) × (List (S38)))
 | 0, _, _, _, _, _, _ => none
 | k + 1, x5, x6, x7, x8, x376000, x376001 => if x8 < (x5.length : Int) then ((spec_l6Rd_pick.f k x376000 x376001 3).bind fun bt392 => (if bt392.1 > 0 then (if 0 ≤ x8 then (if x6.length < 2932031007402 then ((some (x6 ++ [(⟨(rd_T38 x5 x8).f0, (rd_T38 x5 x8).f1, (rd_T38 x5 x8).f2⟩ : S38)] : List (S38))).bind fun y395 => ((spec_l6Rd_pick.f k x376000 bt392.2 3).bind fun bt398 => (if bt398.1 > 0 then (if x7.length < 2932031007402 then (spec_DrawTonaryJoin.l0 k x5 y395 (x7 ++ [(⟨(rd_T38 x5 x8).f0, (rd_T38 x5 x8).f1, (rd_T38 x5 x8).f2⟩ : S38)]) (wrap64 (x8 + 1)) x376000 bt398.2) else (none)) else (spec_DrawTonaryJoin.l0 k x5 y395 x7 (wrap64 (x8 + 1)) x376000 bt398.2)))) else (none)) else (none)) else ((spec_l6Rd_pick.f k x376000 bt392.2 3).bind fun bt404 => (if bt404.1 > 0 then (if 0 ≤ x8 then (if x7.length < 2932031007402 then (spec_DrawTonaryJoin.l0 k x5 x6 (x7 ++ [(⟨(rd_T38 x5 x8).f0, (rd_T38 x5 x8).f1, (rd_T38 x5 x8).f2⟩ : S38)]) (wrap64 (x8 + 1)) x376000 bt404.2) else (none)) else (none)) else (spec_DrawTonaryJoin.l0 k x5 x6 x7 (wrap64 (x8 + 1)) x376000 bt404.2))))) else (some (x6, x7))
def spec_DrawTonaryJoin.f (k : Nat) (l0 : List Int) : Option ((List (S38)) × (List (S38))) := (spec_l6Open.f l0).bind fun bt373 => ((spec_l92Tonary.f k bt373.1 bt373.2).bind fun bt376 => ((spec_l6Rd_pick.f k bt373.1 bt376.2 4).bind fun bt380 => (if bt380.1 = 0 then ((spec_l92Tonary.f k bt373.1 bt380.2).bind fun bt382 => (some (bt376.1, bt382.1))) else (spec_DrawTonaryJoin.l0 k bt376.1 (([] : List (S38))) (([] : List (S38))) 0 bt373.1 bt380.2))))
set_option maxHeartbeats 8000000 in
set_option maxRecDepth 100000 in
theorem spec_DrawTonaryJoin.calls (k : Nat) (A0 : Option Addr) (c0 : Nat) (l0 : List Int) (r1 : List (S38)) (r2 : List (S38)) (w : World) (hr0 : Kd.C (Kd.int .u8) w A0 l0.length l0) (hc0 : l0.length ≤ c0) (h : spec_DrawTonaryJoin.f k l0 = some (r1, r2)) :
 Calls Tryd.prog 48 #[.slice A0 l0.length c0] w fun e w' => ∃ v0_ v1_ : Value, e = .returned (.tuple #[v0_, v1_]) ∧ Kd.N k38 38 w' w.heap.size (fun k_ => (w.heap.size ≤ k_) ∧ some k_ ≠ (v1_ : Value).ownBlock) v0_ r1 ∧ Kd.N k38 38 w' w.heap.size (fun k_ => (w.heap.size ≤ k_) ∧ some k_ ≠ (v0_ : Value).ownBlock) v1_ r2 ∧ Below w.heap.size w w' := by
 have hu38 := Tryd.underlying38; have HR0 := Aside0.mk hr0; have HC0 := Aside0.mk hc0; clear hr0 hc0; have HB := Aside0.mk (Below.refl w.heap.size w); have H : ((spec_l6Open.f l0).bind fun bt373 => ((spec_l92Tonary.f k bt373.1 bt373.2).bind fun bt376 => ((spec_l6Rd_pick.f k bt373.1 bt376.2 4).bind fun bt380 => (if bt380.1 = 0 then ((spec_l92Tonary.f k bt373.1 bt380.2).bind fun bt382 => (some (bt376.1, bt382.1))) else (spec_DrawTonaryJoin.l0 k bt376.1 (([] : List (S38))) (([] : List (S38))) 0 bt373.1 bt380.2))))) = some (r1, r2) := h; clear h; replace H := Option.bind_eq_some_iff.mp H; obtain ⟨⟨t373, t374⟩, A20, H⟩ := H; replace H : ((spec_l92Tonary.f k t373 t374).bind fun bt376 => ((spec_l6Rd_pick.f k t373 bt376.2 4).bind fun bt380 => (if bt380.1 = 0 then ((spec_l92Tonary.f k t373 bt380.2).bind fun bt382 => (some (bt376.1, bt382.1))) else (spec_DrawTonaryJoin.l0 k bt376.1 (([] : List (S38))) (([] : List (S38))) 0 t373 bt380.2)))) = some (r1, r2) := H; have A2 := Aside0.mk A20; clear A20; replace H := Option.bind_eq_some_iff.mp H; obtain ⟨⟨t376, t379⟩, A30, H⟩ := H; replace H : ((spec_l6Rd_pick.f k t373 t379 4).bind fun bt380 => (if bt380.1 = 0 then ((spec_l92Tonary.f k t373 bt380.2).bind fun bt382 => (some (t376, bt382.1))) else (spec_DrawTonaryJoin.l0 k t376 (([] : List (S38))) (([] : List (S38))) 0 t373 bt380.2))) = some (r1, r2) := H; have A3 := Aside0.mk A30; clear A30; replace H := Option.bind_eq_some_iff.mp H; obtain ⟨⟨t380, t381⟩, A40, H⟩ := H; replace H : (if t380 = 0 then ((spec_l92Tonary.f k t373 t381).bind fun bt382 => (some (t376, bt382.1))) else (spec_DrawTonaryJoin.l0 k t376 (([] : List (S38))) (([] : List (S38))) 0 t373 t381)) = some (r1, r2) := H; have A4 := Aside0.mk A40; clear A40; by_cases c5 : t380 = 0
 ·
  rw [if_pos c5] at H; have c5b0 : (t380 == 0) = true := beq_iff_eq.mpr c5; have c5b1 : (t380 != 0) = false := bne_eq_false_iff_eq.mpr c5; clear c5; replace H := Option.bind_eq_some_iff.mp H; obtain ⟨⟨t382, t385⟩, A60, H⟩ := H; replace H : (some (t376, t382)) = some (r1, r2) := H; have A6 := Aside0.mk A60; clear A60; simp only [Option.some.injEq, Prod.mk.injEq] at H; obtain ⟨rfl, rfl⟩ := H; go_enter Tryd.func48, Tryd.ntmps48
  go_wp2_with (first | ((with_reducible refine gate_callee (f := 61) rfl ?_); refine goesL_ (some 10) rfl rfl Tryd.func61 (by kernel_rfl) rfl #[.slice A0 l0.length c0] rfl (by (try simp only [List.map_toArray, List.map_cons, List.map_nil]); first | done | rfl | (simp only [List.length_drop, List.length_take]; rfl)) ?_; (with_reducible refine (spec_l6Open.calls _ _ l0 t373 t374 w _ ?side1 ?side2 ?side3 A2.out).mono ?_); (case side1 => repeat (first | (with_reducible first | exact HB.out | apply below_alloc | apply pw_below_drewN | apply below_drew1) | exact HB.out)); (case side2 => exact HR0.out); (case side3 => exact HC0.out); rintro e w7 ⟨g375, rfl, hi, hb, hb2⟩; refine ⟨_, rfl, ?_⟩; have n0_ := Aside0.mk (hb); have n1_ := Aside0.mk (hi); clear HB; have HB := n0_; have HI375 := n1_; clear n0_ n1_; (try clear hb); (try clear hb2); (try clear hk); (try clear hi)) | ((with_reducible refine gate_callee (f := 62) rfl ?_); refine goesL_ (some 12) rfl rfl Tryd.func62 (by kernel_rfl) rfl #[.pointer (some ⟨g375, 0, none⟩)] rfl (by (try simp only [List.map_toArray, List.map_cons, List.map_nil]); first | done | rfl | (simp only [List.length_drop, List.length_take]; rfl)) ?_; (with_reducible refine (spec_l92Tonary.calls k g375 t373 t374 t376 t379 w _ ?side1 ?side2 A3.out).mono ?_); (case side1 => repeat (first | (with_reducible first | exact HI375.out | apply IsS112.alloc | apply IsS112.drewN | apply IsS112.drew | apply IsS112.set_1) | exact HI375.out)); (case side2 => repeat (first | (with_reducible first | exact HB.out | apply below_alloc | apply pw_below_drewN | apply below_drew1 | refine below_set ?_ (IsS112.ge HI375.out)) | exact HB.out)); rintro e w8 ⟨v377, rfl, ho0, hi, hb, hk⟩; refine ⟨_, rfl, ?_⟩; have n0_ := Aside0.mk (Kd.N_lower (Kd.N_mono (ok' := fun k_ => (w.heap.size ≤ k_) ∧ k_ ≠ g375) ho0 (fun k_ hk_ => ⟨(Nat.le_trans (below_size (by repeat (first | (with_reducible first | exact HB.out | apply below_alloc | apply pw_below_drewN | apply below_drew1 | refine below_set ?_ (IsS112.ge HI375.out)) | exact HB.out))) hk_), (IsS112.fresh (by repeat (first | (with_reducible first | exact HI375.out | apply IsS112.alloc | apply IsS112.drewN | apply IsS112.drew | apply IsS112.set_1) | exact HI375.out)) k_ hk_)⟩)) (below_size (by repeat (first | (with_reducible first | exact HB.out | apply below_alloc | apply pw_below_drewN | apply below_drew1 | refine below_set ?_ (IsS112.ge HI375.out)) | exact HB.out)))); have n1_ := Aside0.mk (hb); have n2_ := Aside0.mk (hi); clear HB; clear HI375; have HO378 := n0_; have HB := n1_; have HI375 := n2_; clear n0_ n1_ n2_; (try clear hb); (try clear hb2); (try clear hk); (try clear hi); (try clear ho0)) | ((with_reducible refine gate_callee (f := 63) rfl ?_); refine goesL_ (some 14) rfl rfl Tryd.func63 (by kernel_rfl) rfl #[.pointer (some ⟨g375, 0, none⟩), .int .i64 4] rfl (by (try simp only [List.map_toArray, List.map_cons, List.map_nil]); first | done | rfl | (simp only [List.length_drop, List.length_take]; rfl)) ?_; (with_reducible refine (spec_l6Rd_pick.calls k g375 t373 t379 4 t380 t381 w _ ?side1 ?side2 A4.out).mono ?_); (case side1 => repeat (first | (with_reducible first | exact HI375.out | apply IsS112.alloc | apply IsS112.drewN | apply IsS112.drew | apply IsS112.set_1) | exact HI375.out)); (case side2 => repeat (first | (with_reducible first | exact HB.out | apply below_alloc | apply pw_below_drewN | apply below_drew1 | refine below_set ?_ (IsS112.ge HI375.out)) | exact HB.out)); rintro e w9 ⟨rfl, hi, hb, hk⟩; refine ⟨_, rfl, ?_⟩; have n0_ := Aside0.mk (Kd.N_mono (Kd.N_keep (Kd.N_mono (ok := fun k_ => (((w.heap.size ≤ k_)) ∧ k_ ≠ g375)) (by (with_reducible repeat (first | apply Kd.N_alloc | apply Kd.N_drewN | apply Kd.N_drew)); exact HO378.out) (fun k_ hk_ => (⟨hk_, hk_.2⟩ : _ ∧ k_ ≠ g375))) hk (fun _ h => h.2)) (fun _ h => h.1)); have n1_ := Aside0.mk (hb); have n2_ := Aside0.mk (hi); clear HO378; clear HB; clear HI375; have HO378 := n0_; have HB := n1_; have HI375 := n2_; clear n0_ n1_ n2_; (try clear hb); (try clear hb2); (try clear hk); (try clear hi)) | ((with_reducible refine gate_callee (f := 62) rfl ?_); refine goesL_ (some 18) rfl rfl Tryd.func62 (by kernel_rfl) rfl #[.pointer (some ⟨g375, 0, none⟩)] rfl (by (try simp only [List.map_toArray, List.map_cons, List.map_nil]); first | done | rfl | (simp only [List.length_drop, List.length_take]; rfl)) ?_; (with_reducible refine (spec_l92Tonary.calls k g375 t373 t381 t382 t385 w _ ?side1 ?side2 A6.out).mono ?_); (case side1 => repeat (first | (with_reducible first | exact HI375.out | apply IsS112.alloc | apply IsS112.drewN | apply IsS112.drew | apply IsS112.set_1) | exact HI375.out)); (case side2 => repeat (first | (with_reducible first | exact HB.out | apply below_alloc | apply pw_below_drewN | apply below_drew1 | refine below_set ?_ (IsS112.ge HI375.out)) | exact HB.out)); rintro e w10 ⟨v383, rfl, ho0, hi, hb, hk⟩; refine ⟨_, rfl, ?_⟩; have n0_ := Aside0.mk (Kd.N_mono (Kd.N_told (Kd.N_oldK (Kd.N_mono (ok := fun k_ => (((w.heap.size ≤ k_)) ∧ k_ ≠ g375)) (by (with_reducible repeat (first | apply Kd.N_alloc | apply Kd.N_drewN | apply Kd.N_drew)); exact HO378.out) (fun k_ hk_ => (⟨hk_, hk_.2⟩ : _ ∧ k_ ≠ g375))) hk) (by first | exact Kd.N_base ho0 | exact Kd.N_base (Kd.S_N ho0) | exact Kd.N_base (Kd.S_N (Kd.S_bound ho0)))) (fun _ h_ => h_.1)); have n1_ := Aside0.mk (Kd.N_lower (Kd.N_mono (ok' := fun k_ => (w.heap.size ≤ k_) ∧ some k_ ≠ (v377 : Value).ownBlock ∧ k_ ≠ g375) ho0 (fun k_ hk_ => ⟨(Nat.le_trans (below_size (by repeat (first | (with_reducible first | exact HB.out | apply below_alloc | apply pw_below_drewN | apply below_drew1 | refine below_set ?_ (IsS112.ge HI375.out)) | exact HB.out))) hk_), (Kd.fresh' (Kd.N_lt (by (with_reducible repeat (first | apply Kd.N_alloc | apply Kd.N_drewN | apply Kd.N_drew)); exact HO378.out)) k_ hk_), (IsS112.fresh (by repeat (first | (with_reducible first | exact HI375.out | apply IsS112.alloc | apply IsS112.drewN | apply IsS112.drew | apply IsS112.set_1) | exact HI375.out)) k_ hk_)⟩)) (below_size (by repeat (first | (with_reducible first | exact HB.out | apply below_alloc | apply pw_below_drewN | apply below_drew1 | refine below_set ?_ (IsS112.ge HI375.out)) | exact HB.out)))); have n2_ := Aside0.mk (hb); have n3_ := Aside0.mk (hi); clear HO378; clear HB; clear HI375; have HO378 := n0_; have HO384 := n1_; have HB := n2_; have HI375 := n3_; clear n0_ n1_ n2_ n3_; (try clear hb); (try clear hb2); (try clear hk); (try clear hi); (try clear ho0)))
  go_ret2
  exact ⟨_, _, by first | rfl | (simp [errW_none, errW_some] <;> rfl) | (simp [*, errW_none, errW_some] <;> rfl), by (with_reducible repeat (first | apply Kd.N_alloc | apply Kd.N_drewN | apply Kd.N_drew)); exact Kd.N_mono HO378.out (fun _ hk => ⟨hk.1.1, hk.2⟩), by (with_reducible repeat (first | apply Kd.N_alloc | apply Kd.N_drewN | apply Kd.N_drew)); exact Kd.N_mono HO384.out (fun _ hk => ⟨hk.1, hk.2.1⟩), by repeat (first | (with_reducible first | exact HB.out | apply below_alloc | apply pw_below_drewN | apply below_drew1 | refine below_set ?_ (IsS112.ge HI375.out)) | exact HB.out)⟩
 ·
  rw [if_neg c5] at H; have c5b0 : (t380 == 0) = false := beq_eq_false_iff_ne.mpr c5; have c5b1 : (t380 != 0) = true := bne_iff_ne.mpr c5; obtain ⟨y386, hy386⟩ : ∃ y_ : List (S38), y_ = (([] : List (S38))) := ⟨_, rfl⟩
  replace H : (spec_DrawTonaryJoin.l0 k t376 y386 (([] : List (S38))) 0 t373 t381) = some (r1, r2) := by first | (rw [hy386]; with_reducible exact H) | (have H2_ := (Option.bind_some _ _).symm.trans H; rw [hy386]; with_reducible exact H2_) | (have H2_ := (Option.bind_some _ _).symm.trans H; with_reducible exact H2_) | with_reducible exact H | (rw [hy386]; exact H) | exact H
  have Ny386 := Aside0.mk hy386; clear hy386; obtain ⟨y389, hy389⟩ : ∃ y_ : List (S38), y_ = (([] : List (S38))) := ⟨_, rfl⟩
  replace H : (spec_DrawTonaryJoin.l0 k t376 y386 y389 0 t373 t381) = some (r1, r2) := by first | (rw [hy389]; with_reducible exact H) | (have H2_ := (Option.bind_some _ _).symm.trans H; rw [hy389]; with_reducible exact H2_) | (have H2_ := (Option.bind_some _ _).symm.trans H; with_reducible exact H2_) | with_reducible exact H | (rw [hy389]; exact H) | exact H
  have Ny389 := Aside0.mk hy389; clear hy389; have H' := Aside0.mk H; clear H; go_enter Tryd.func48, Tryd.ntmps48
  go_wp2_with (first | ((with_reducible refine gate_callee (f := 61) rfl ?_); refine goesL_ (some 10) rfl rfl Tryd.func61 (by kernel_rfl) rfl #[.slice A0 l0.length c0] rfl (by (try simp only [List.map_toArray, List.map_cons, List.map_nil]); first | done | rfl | (simp only [List.length_drop, List.length_take]; rfl)) ?_; (with_reducible refine (spec_l6Open.calls _ _ l0 t373 t374 w _ ?side1 ?side2 ?side3 A2.out).mono ?_); (case side1 => repeat (first | (with_reducible first | exact HB.out | apply below_alloc | apply pw_below_drewN | apply below_drew1) | exact HB.out)); (case side2 => exact HR0.out); (case side3 => exact HC0.out); rintro e w11 ⟨g375, rfl, hi, hb, hb2⟩; refine ⟨_, rfl, ?_⟩; have n0_ := Aside0.mk (hb); have n1_ := Aside0.mk (hi); clear HB; have HB := n0_; have HI375 := n1_; clear n0_ n1_; (try clear hb); (try clear hb2); (try clear hk); (try clear hi)) | ((with_reducible refine gate_callee (f := 62) rfl ?_); refine goesL_ (some 12) rfl rfl Tryd.func62 (by kernel_rfl) rfl #[.pointer (some ⟨g375, 0, none⟩)] rfl (by (try simp only [List.map_toArray, List.map_cons, List.map_nil]); first | done | rfl | (simp only [List.length_drop, List.length_take]; rfl)) ?_; (with_reducible refine (spec_l92Tonary.calls k g375 t373 t374 t376 t379 w _ ?side1 ?side2 A3.out).mono ?_); (case side1 => repeat (first | (with_reducible first | exact HI375.out | apply IsS112.alloc | apply IsS112.drewN | apply IsS112.drew | apply IsS112.set_1) | exact HI375.out)); (case side2 => repeat (first | (with_reducible first | exact HB.out | apply below_alloc | apply pw_below_drewN | apply below_drew1 | refine below_set ?_ (IsS112.ge HI375.out)) | exact HB.out)); rintro e w12 ⟨v377, rfl, ho0, hi, hb, hk⟩; refine ⟨_, rfl, ?_⟩; have n0_ := Aside0.mk (Kd.N_lower (Kd.N_mono (ok' := fun k_ => (w.heap.size ≤ k_) ∧ k_ ≠ g375) ho0 (fun k_ hk_ => ⟨(Nat.le_trans (below_size (by repeat (first | (with_reducible first | exact HB.out | apply below_alloc | apply pw_below_drewN | apply below_drew1 | refine below_set ?_ (IsS112.ge HI375.out)) | exact HB.out))) hk_), (IsS112.fresh (by repeat (first | (with_reducible first | exact HI375.out | apply IsS112.alloc | apply IsS112.drewN | apply IsS112.drew | apply IsS112.set_1) | exact HI375.out)) k_ hk_)⟩)) (below_size (by repeat (first | (with_reducible first | exact HB.out | apply below_alloc | apply pw_below_drewN | apply below_drew1 | refine below_set ?_ (IsS112.ge HI375.out)) | exact HB.out)))); have n1_ := Aside0.mk (hb); have n2_ := Aside0.mk (hi); clear HB; clear HI375; have HO378 := n0_; have HB := n1_; have HI375 := n2_; clear n0_ n1_ n2_; (try clear hb); (try clear hb2); (try clear hk); (try clear hi); (try clear ho0)) | ((with_reducible refine gate_callee (f := 63) rfl ?_); refine goesL_ (some 14) rfl rfl Tryd.func63 (by kernel_rfl) rfl #[.pointer (some ⟨g375, 0, none⟩), .int .i64 4] rfl (by (try simp only [List.map_toArray, List.map_cons, List.map_nil]); first | done | rfl | (simp only [List.length_drop, List.length_take]; rfl)) ?_; (with_reducible refine (spec_l6Rd_pick.calls k g375 t373 t379 4 t380 t381 w _ ?side1 ?side2 A4.out).mono ?_); (case side1 => repeat (first | (with_reducible first | exact HI375.out | apply IsS112.alloc | apply IsS112.drewN | apply IsS112.drew | apply IsS112.set_1) | exact HI375.out)); (case side2 => repeat (first | (with_reducible first | exact HB.out | apply below_alloc | apply pw_below_drewN | apply below_drew1 | refine below_set ?_ (IsS112.ge HI375.out)) | exact HB.out)); rintro e w13 ⟨rfl, hi, hb, hk⟩; refine ⟨_, rfl, ?_⟩; have n0_ := Aside0.mk (Kd.N_mono (Kd.N_keep (Kd.N_mono (ok := fun k_ => (((w.heap.size ≤ k_)) ∧ k_ ≠ g375)) (by (with_reducible repeat (first | apply Kd.N_alloc | apply Kd.N_drewN | apply Kd.N_drew)); exact HO378.out) (fun k_ hk_ => (⟨hk_, hk_.2⟩ : _ ∧ k_ ≠ g375))) hk (fun _ h => h.2)) (fun _ h => h.1)); have n1_ := Aside0.mk (hb); have n2_ := Aside0.mk (hi); clear HO378; clear HB; clear HI375; have HO378 := n0_; have HB := n1_; have HI375 := n2_; clear n0_ n1_ n2_; (try clear hb); (try clear hb2); (try clear hk); (try clear hi)) | ((with_reducible refine gate_dst (N := 19) rfl ?_); refine Kd.N_lit k38 _ 38 ?hg (N' := 19) ?hd (xs := ([] : List (S38))) (inner := []) (ok := (fun k_ => (w.heap.size ≤ k_) ∧ some k_ ≠ (v377 : Value).ownBlock ∧ k_ ≠ g375)) (okp := (fun k_ => (w.heap.size ≤ k_) ∧ some k_ ≠ (v377 : Value).ownBlock ∧ k_ ≠ g375)) ?hr ?hp (fun _ hk => hk) ((show ∀ k_, w13.heap.size ≤ k_ → (fun k_ => (w.heap.size ≤ k_) ∧ some k_ ≠ (v377 : Value).ownBlock ∧ k_ ≠ g375) k_ from fun k_ hk => ⟨(Nat.le_trans (below_size (by repeat (first | (with_reducible first | exact HB.out | apply below_alloc | apply pw_below_drewN | apply below_drew1 | refine below_set ?_ (IsS112.ge HI375.out)) | exact HB.out))) hk), Kd.fresh' (Kd.N_lt (by (with_reducible repeat (first | apply Kd.N_alloc | apply Kd.N_drewN | apply Kd.N_drew)); exact HO378.out)) k_ hk, IsS112.fresh (by repeat (first | (with_reducible first | exact HI375.out | apply IsS112.alloc | apply IsS112.drewN | apply IsS112.drew | apply IsS112.set_1) | exact HI375.out)) k_ hk⟩) _ (Nat.le_refl _)) (Below.refl _ _) (Nat.le_refl _) (by simp) ?_; (case hd => rfl); (case hg => rfl); (case hr => first | (go_simp; done) | (go_simp; rfl)); (case hp => exact (Reps.none _ _)); intro v387 w14 ho15 hb hg_ hnew_; clear hg_ hnew_; (first | rw [← Ny386.out] at ho15 | (simp only [Int.reduceToNat] at ho15; rw [← Ny386.out] at ho15)); have n0_ := Aside0.mk (Kd.N_elder' (by (with_reducible repeat (first | apply Kd.N_alloc | apply Kd.N_drewN | apply Kd.N_drew)); exact HO378.out) (Kd.N_base ho15) hb); have n1_ := Aside0.mk (Kd.N_lower ho15 (below_size (by repeat (first | (with_reducible first | exact HB.out | apply below_alloc | apply pw_below_drewN | apply below_drew1 | refine below_set ?_ (IsS112.ge HI375.out)) | exact HB.out)))); have n2_ := Aside0.mk (IsS112.below (by repeat (first | (with_reducible first | exact HI375.out | apply IsS112.alloc | apply IsS112.drewN | apply IsS112.drew | apply IsS112.set_1) | exact HI375.out)) hb); have n3_ := Aside0.mk (below_step (by repeat (first | (with_reducible first | exact HB.out | apply below_alloc | apply pw_below_drewN | apply below_drew1 | refine below_set ?_ (IsS112.ge HI375.out)) | exact HB.out)) hb); clear HO378; clear HI375; clear HB; have HO378 := n0_; have HO388 := n1_; have HI375 := n2_; have HB := n3_; clear n0_ n1_ n2_ n3_; clear hb ho15) | ((with_reducible refine gate_dst (N := 20) rfl ?_); refine Kd.N_lit k38 _ 38 ?hg (N' := 20) ?hd (xs := ([] : List (S38))) (inner := []) (ok := (fun k_ => (w.heap.size ≤ k_) ∧ some k_ ≠ (v377 : Value).ownBlock ∧ some k_ ≠ (v387 : Value).ownBlock ∧ k_ ≠ g375)) (okp := (fun k_ => (w.heap.size ≤ k_) ∧ some k_ ≠ (v377 : Value).ownBlock ∧ some k_ ≠ (v387 : Value).ownBlock ∧ k_ ≠ g375)) ?hr ?hp (fun _ hk => hk) ((show ∀ k_, w14.heap.size ≤ k_ → (fun k_ => (w.heap.size ≤ k_) ∧ some k_ ≠ (v377 : Value).ownBlock ∧ some k_ ≠ (v387 : Value).ownBlock ∧ k_ ≠ g375) k_ from fun k_ hk => ⟨(Nat.le_trans (below_size (by repeat (first | (with_reducible first | exact HB.out | apply below_alloc | apply pw_below_drewN | apply below_drew1 | refine below_set ?_ (IsS112.ge HI375.out)) | exact HB.out))) hk), Kd.fresh' (Kd.N_lt (by (with_reducible repeat (first | apply Kd.N_alloc | apply Kd.N_drewN | apply Kd.N_drew)); exact HO378.out)) k_ hk, Kd.fresh' (Kd.N_lt (by (with_reducible repeat (first | apply Kd.N_alloc | apply Kd.N_drewN | apply Kd.N_drew)); exact HO388.out)) k_ hk, IsS112.fresh (by repeat (first | (with_reducible first | exact HI375.out | apply IsS112.alloc | apply IsS112.drewN | apply IsS112.drew | apply IsS112.set_1) | exact HI375.out)) k_ hk⟩) _ (Nat.le_refl _)) (Below.refl _ _) (Nat.le_refl _) (by simp) ?_; (case hd => rfl); (case hg => rfl); (case hr => first | (go_simp; done) | (go_simp; rfl)); (case hp => exact (Reps.none _ _)); intro v390 w16 ho17 hb hg_ hnew_; clear hg_ hnew_; (first | rw [← Ny389.out] at ho17 | (simp only [Int.reduceToNat] at ho17; rw [← Ny389.out] at ho17)); have n0_ := Aside0.mk (Kd.N_elder' (by (with_reducible repeat (first | apply Kd.N_alloc | apply Kd.N_drewN | apply Kd.N_drew)); exact HO378.out) (Kd.N_base ho17) hb); have n1_ := Aside0.mk (Kd.N_elder' (by (with_reducible repeat (first | apply Kd.N_alloc | apply Kd.N_drewN | apply Kd.N_drew)); exact HO388.out) (Kd.N_base ho17) hb); have n2_ := Aside0.mk (Kd.N_lower ho17 (below_size (by repeat (first | (with_reducible first | exact HB.out | apply below_alloc | apply pw_below_drewN | apply below_drew1 | refine below_set ?_ (IsS112.ge HI375.out)) | exact HB.out)))); have n3_ := Aside0.mk (IsS112.below (by repeat (first | (with_reducible first | exact HI375.out | apply IsS112.alloc | apply IsS112.drewN | apply IsS112.drew | apply IsS112.set_1) | exact HI375.out)) hb); have n4_ := Aside0.mk (below_step (by repeat (first | (with_reducible first | exact HB.out | apply below_alloc | apply pw_below_drewN | apply below_drew1 | refine below_set ?_ (IsS112.ge HI375.out)) | exact HB.out)) hb); clear HO378; clear HO388; clear HI375; clear HB; have HO378 := n0_; have HO388 := n1_; have HO391 := n2_; have HI375 := n3_; have HB := n4_; clear n0_ n1_ n2_ n3_ n4_; clear hb ho17))
  go_loopg [6, 7, 8] k (fun kq v6 v7 v8 w' => ∃ (x6_1 : List (S38)) (x7_1 : List (S38)) (x8_1 : Int) (x376001_1 : Int), v8 = .int .i64 x8_1 ∧ Aside0 (spec_DrawTonaryJoin.l0 kq t376 x6_1 x7_1 x8_1 t373 x376001_1 = some (r1, r2)) ∧ Aside0 (kq ≤ k) ∧ Aside0 (Kd.N k38 38 w' w.heap.size (fun k_ => (w.heap.size ≤ k_) ∧ some k_ ≠ (v6 : Value).ownBlock ∧ some k_ ≠ (v7 : Value).ownBlock ∧ k_ ≠ g375) v377 t376) ∧ Aside0 (Kd.N k38 38 w' w.heap.size (fun k_ => (w.heap.size ≤ k_) ∧ some k_ ≠ (v377 : Value).ownBlock ∧ some k_ ≠ (v7 : Value).ownBlock ∧ k_ ≠ g375) v6 x6_1) ∧ Aside0 (Kd.N k38 38 w' w.heap.size (fun k_ => (w.heap.size ≤ k_) ∧ some k_ ≠ (v377 : Value).ownBlock ∧ some k_ ≠ (v6 : Value).ownBlock ∧ k_ ≠ g375) v7 x7_1) ∧ Aside0 (IsS112 w w' g375 t373 x376001_1) ∧ Aside0 (Below w.heap.size w w'))
  case atStart => exact ⟨(y386), (y389), (0), (t381), (by first | rfl | (simp; done) | (simp [*]; done)), H', ⟨Nat.le_refl _⟩, ⟨by (with_reducible repeat (first | apply Kd.N_alloc | apply Kd.N_drewN | apply Kd.N_drew)); exact Kd.N_mono HO378.out (fun _ hk => ⟨hk.1.1.1, ⟨hk.1.2, ⟨hk.2, hk.1.1.2⟩⟩⟩)⟩, ⟨by (with_reducible repeat (first | apply Kd.N_alloc | apply Kd.N_drewN | apply Kd.N_drew)); exact Kd.N_mono HO388.out (fun _ hk => ⟨hk.1.1, ⟨hk.1.2.1, ⟨hk.2, hk.1.2.2⟩⟩⟩)⟩, ⟨by (with_reducible repeat (first | apply Kd.N_alloc | apply Kd.N_drewN | apply Kd.N_drew)); exact HO391.out⟩, ⟨by repeat (first | (with_reducible first | exact HI375.out | apply IsS112.alloc | apply IsS112.drewN | apply IsS112.drew | apply IsS112.set_1) | exact HI375.out)⟩, ⟨by repeat (first | (with_reducible first | exact HB.out | apply below_alloc | apply pw_below_drewN | apply below_drew1 | refine below_set ?_ (IsS112.ge HI375.out)) | exact HB.out)⟩⟩
  case round =>
   clear H'; try clear p2
   try clear c4
   try clear c5
   try clear c5b0
   try clear c5b1
   try clear c6
   obtain ⟨x6_1, x7_1, x8_1, x376001_1, rfl, HA, HK1, HO_5, HO_6, HO_7, HI375, HB⟩ := hrel; cases gk with
   | zero => exact absurd HA.out (by simp [spec_DrawTonaryJoin.l0])
   | succ k1 =>
    have H := HA.out; clear HA; simp only [spec_DrawTonaryJoin.l0] at H; by_cases c18 : x8_1 < (t376.length : Int)
    ·
     rw [if_pos c18] at H; have c18b0 : decide (x8_1 < (t376.length : Int)) = true := decide_eq_true c18; clear c18; replace H := Option.bind_eq_some_iff.mp H; obtain ⟨⟨t392, t393⟩, A190, H⟩ := H; replace H : (if t392 > 0 then (if 0 ≤ x8_1 then (if x6_1.length < 2932031007402 then ((some (x6_1 ++ [(⟨(rd_T38 t376 x8_1).f0, (rd_T38 t376 x8_1).f1, (rd_T38 t376 x8_1).f2⟩ : S38)] : List (S38))).bind fun y395 => ((spec_l6Rd_pick.f k1 t373 t393 3).bind fun bt398 => (if bt398.1 > 0 then (if x7_1.length < 2932031007402 then (spec_DrawTonaryJoin.l0 k1 t376 y395 (x7_1 ++ [(⟨(rd_T38 t376 x8_1).f0, (rd_T38 t376 x8_1).f1, (rd_T38 t376 x8_1).f2⟩ : S38)]) (wrap64 (x8_1 + 1)) t373 bt398.2) else (none)) else (spec_DrawTonaryJoin.l0 k1 t376 y395 x7_1 (wrap64 (x8_1 + 1)) t373 bt398.2)))) else (none)) else (none)) else ((spec_l6Rd_pick.f k1 t373 t393 3).bind fun bt404 => (if bt404.1 > 0 then (if 0 ≤ x8_1 then (if x7_1.length < 2932031007402 then (spec_DrawTonaryJoin.l0 k1 t376 x6_1 (x7_1 ++ [(⟨(rd_T38 t376 x8_1).f0, (rd_T38 t376 x8_1).f1, (rd_T38 t376 x8_1).f2⟩ : S38)]) (wrap64 (x8_1 + 1)) t373 bt404.2) else (none)) else (none)) else (spec_DrawTonaryJoin.l0 k1 t376 x6_1 x7_1 (wrap64 (x8_1 + 1)) t373 bt404.2)))) = some (r1, r2) := H; have A19 := Aside0.mk A190; clear A190; by_cases c20 : t392 > 0
     ·
      rw [if_pos c20] at H; have c20b0 : decide (0 < t392) = true := decide_eq_true c20; clear c20; by_cases c21 : 0 ≤ x8_1
      ·
       rw [if_pos c21] at H; have c21b0 : decide (0 ≤ x8_1) = true := decide_eq_true c21; clear c21; by_cases c22 : x6_1.length < 2932031007402
       ·
        rw [if_pos c22] at H; have LMc22 := Aside0.mk c22; clear c22; obtain ⟨y395, hy395⟩ : ∃ y_ : List (S38), y_ = (x6_1 ++ [(⟨(rd_T38 t376 x8_1).f0, (rd_T38 t376 x8_1).f1, (rd_T38 t376 x8_1).f2⟩ : S38)]) := ⟨_, rfl⟩
        replace H : ((spec_l6Rd_pick.f k1 t373 t393 3).bind fun bt398 => (if bt398.1 > 0 then (if x7_1.length < 2932031007402 then (spec_DrawTonaryJoin.l0 k1 t376 y395 (x7_1 ++ [(⟨(rd_T38 t376 x8_1).f0, (rd_T38 t376 x8_1).f1, (rd_T38 t376 x8_1).f2⟩ : S38)]) (wrap64 (x8_1 + 1)) t373 bt398.2) else (none)) else (spec_DrawTonaryJoin.l0 k1 t376 y395 x7_1 (wrap64 (x8_1 + 1)) t373 bt398.2))) = some (r1, r2) := by first | (rw [hy395]; with_reducible exact H) | (have H2_ := (Option.bind_some _ _).symm.trans H; rw [hy395]; with_reducible exact H2_) | (have H2_ := (Option.bind_some _ _).symm.trans H; with_reducible exact H2_) | with_reducible exact H | (rw [hy395]; exact H) | exact H
        have Ny395 := Aside0.mk hy395; clear hy395; replace H := Option.bind_eq_some_iff.mp H; obtain ⟨⟨t398, t399⟩, A230, H⟩ := H; replace H : (if t398 > 0 then (if x7_1.length < 2932031007402 then (spec_DrawTonaryJoin.l0 k1 t376 y395 (x7_1 ++ [(⟨(rd_T38 t376 x8_1).f0, (rd_T38 t376 x8_1).f1, (rd_T38 t376 x8_1).f2⟩ : S38)]) (wrap64 (x8_1 + 1)) t373 t399) else (none)) else (spec_DrawTonaryJoin.l0 k1 t376 y395 x7_1 (wrap64 (x8_1 + 1)) t373 t399)) = some (r1, r2) := H; have A23 := Aside0.mk A230; clear A230; by_cases c24 : t398 > 0
        ·
         rw [if_pos c24] at H; have c24b0 : decide (0 < t398) = true := decide_eq_true c24; clear c24; by_cases c25 : x7_1.length < 2932031007402
         ·
          rw [if_pos c25] at H; have LMc25 := Aside0.mk c25; clear c25; obtain ⟨y401, hy401⟩ : ∃ y_ : List (S38), y_ = (x7_1 ++ [(⟨(rd_T38 t376 x8_1).f0, (rd_T38 t376 x8_1).f1, (rd_T38 t376 x8_1).f2⟩ : S38)]) := ⟨_, rfl⟩
          replace H : (spec_DrawTonaryJoin.l0 k1 t376 y395 y401 (wrap64 (x8_1 + 1)) t373 t399) = some (r1, r2) := by first | (rw [hy401]; with_reducible exact H) | (have H2_ := (Option.bind_some _ _).symm.trans H; rw [hy401]; with_reducible exact H2_) | (have H2_ := (Option.bind_some _ _).symm.trans H; with_reducible exact H2_) | with_reducible exact H | (rw [hy401]; exact H) | exact H
          have Ny401 := Aside0.mk hy401; clear hy401; have H' := Aside0.mk H; clear H; obtain ⟨Ao26, co26, eo26⟩ := Kd.N_slice HO_5.out; subst eo26; go_wp2_with (first | ((with_reducible refine gate_callee (f := 63) rfl ?_); refine goesL_ (some 28) rfl rfl Tryd.func63 (by kernel_rfl) rfl #[.pointer (some ⟨g375, 0, none⟩), .int .i64 3] rfl (by (try simp only [List.map_toArray, List.map_cons, List.map_nil]); first | done | rfl | (simp only [List.length_drop, List.length_take]; rfl)) ?_; (with_reducible refine (spec_l6Rd_pick.calls k1 g375 t373 x376001_1 3 t392 t393 w _ ?side1 ?side2 A19.out).mono ?_); (case side1 => repeat (first | (with_reducible first | exact HI375.out | apply IsS112.alloc | apply IsS112.drewN | apply IsS112.drew | apply IsS112.set_1) | exact HI375.out)); (case side2 => repeat (first | (with_reducible first | exact HB.out | apply below_alloc | apply pw_below_drewN | apply below_drew1 | refine below_set ?_ (IsS112.ge HI375.out)) | exact HB.out)); rintro e w27 ⟨rfl, hi, hb, hk⟩; refine ⟨_, rfl, ?_⟩; have n0_ := Aside0.mk (Kd.N_mono (Kd.N_keep (Kd.N_mono (ok := fun k_ => (((w.heap.size ≤ k_)) ∧ (some k_ ≠ (u6 : Value).ownBlock ∧ (some k_ ≠ (u7 : Value).ownBlock ∧ k_ ≠ g375)))) (by (with_reducible repeat (first | apply Kd.N_alloc | apply Kd.N_drewN | apply Kd.N_drew)); exact HO_5.out) (fun k_ hk_ => (⟨hk_, hk_.2.2.2⟩ : _ ∧ k_ ≠ g375))) hk (fun _ h => h.2)) (fun _ h => h.1)); have n1_ := Aside0.mk (Kd.N_mono (Kd.N_keep (Kd.N_mono (ok := fun k_ => (((w.heap.size ≤ k_)) ∧ (some k_ ≠ (.slice Ao26 t376.length co26 : Value).ownBlock ∧ (some k_ ≠ (u7 : Value).ownBlock ∧ k_ ≠ g375)))) (by (with_reducible repeat (first | apply Kd.N_alloc | apply Kd.N_drewN | apply Kd.N_drew)); exact HO_6.out) (fun k_ hk_ => (⟨hk_, hk_.2.2.2⟩ : _ ∧ k_ ≠ g375))) hk (fun _ h => h.2)) (fun _ h => h.1)); have n2_ := Aside0.mk (Kd.N_mono (Kd.N_keep (Kd.N_mono (ok := fun k_ => (((w.heap.size ≤ k_)) ∧ (some k_ ≠ (.slice Ao26 t376.length co26 : Value).ownBlock ∧ (some k_ ≠ (u6 : Value).ownBlock ∧ k_ ≠ g375)))) (by (with_reducible repeat (first | apply Kd.N_alloc | apply Kd.N_drewN | apply Kd.N_drew)); exact HO_7.out) (fun k_ hk_ => (⟨hk_, hk_.2.2.2⟩ : _ ∧ k_ ≠ g375))) hk (fun _ h => h.2)) (fun _ h => h.1)); have n3_ := Aside0.mk (hb); have n4_ := Aside0.mk (hi); clear HO_5; clear HO_6; clear HO_7; clear HB; clear HI375; have HO_5 := n0_; have HO_6 := n1_; have HO_7 := n2_; have HB := n3_; have HI375 := n4_; clear n0_ n1_ n2_ n3_ n4_; (try clear hb); (try clear hb2); (try clear hk); (try clear hi); have p394 : 0 ≤ (x8_1 : Int) := of_decide_eq_true (by first | (with_reducible assumption) | assumption); have q394 : x8_1 < (t376.length : Int) := of_decide_eq_true (by first | (with_reducible assumption) | assumption); obtain ⟨ad394, A394_2, c394_2, e394, hx394_0, hx394_1, hx394_2, hl394_2, hi394_2⟩ := at_T38 (Kd.N_reads' HO_5.out).2.2 x8_1 p394 q394; cases e394; obtain ⟨ce394, hce394, hMe394, hcc394⟩ := Kd.N_get HO_5.out z38 x8_1 p394 (by first | exact q394 | exact of_decide_eq_true (by first | (with_reducible assumption) | assumption) | (have e_ := (Kd.N_reads' HO_5.out).1; omega)); obtain ⟨ua394_2, uc394_2, rfl, ul394_2, ge394_2⟩ := k38_openF hMe394; have hv394_2 := hcc394 2 _ rfl; rw [add_field _ _ 2 (by omega)] at hv394_2; replace hv394_2 := Option.some.inj (hv394_2.symm.trans hx394_2); injection hv394_2 with hva_ hvn_ hvc_; rw [hva_] at ge394_2; rw [hvc_] at ul394_2; have HL394_2 := Aside0.mk (show Kd.V k90 90 _ w.heap.size _ _ ((rd_T38 t376 x8_1).f2) from Kd.V_mk ul394_2 ge394_2); clear hva_ hvn_ hvc_ ge394_2 ul394_2; clear hcc394 hce394; have HR394_2 := Aside0.mk hi394_2; have HC394_2 := Aside0.mk hl394_2; clear hi394_2 hl394_2; replace p394 := eq_true p394; replace q394 := eq_true q394) | ((with_reducible refine gate_builtin (b := .append) (xs := #[.tmp 30, .tmp 35]) rfl ?_); at_builtin; refine Kd.N_append k38 (w0 := w) w.heap.size rfl (.tmp 30) (.tmp 35) 24 38 (.agg #[(.string ⟨#[]⟩), (.int .i64 0), (.slice none 0 0)]) 48 rfl Tryd.underlying24 info38 rfl (by decide) (by omega) u6 x6_1 (⟨(rd_T38 t376 x8_1).f0, (rd_T38 t376 x8_1).f1, (rd_T38 t376 x8_1).f2⟩ : S38) [.string ((rd_T38 t376 x8_1).f0), .int .i64 ((rd_T38 t376 x8_1).f1), .slice A394_2 ((rd_T38 t376 x8_1).f2).length c394_2] (fun k_ => (w.heap.size ≤ k_) ∧ some k_ ≠ (.slice (some ad394) t376.length co26 : Value).ownBlock ∧ some k_ ≠ (u7 : Value).ownBlock ∧ k_ ≠ g375) (fun k_ => ((fun k_ => (w.heap.size ≤ k_) ∧ some k_ ≠ (.slice (some ad394) t376.length co26 : Value).ownBlock ∧ some k_ ≠ (u7 : Value).ownBlock ∧ k_ ≠ g375)) k_ ∧ some k_ ≠ (u6 : Value).ownBlock) rfl rfl ?aP (fun _ hk => hk) ?aF ?aO ?aB ?aS ?aL ?_; (case aP => exact (k38_mkF _ _ (⟨(rd_T38 t376 x8_1).f0, (rd_T38 t376 x8_1).f1, (rd_T38 t376 x8_1).f2⟩ : S38) (Kd.V_reads' (Kd.V_mono (ok' := (fun k_ => ((fun k_ => (w.heap.size ≤ k_) ∧ some k_ ≠ (.slice (some ad394) t376.length co26 : Value).ownBlock ∧ some k_ ≠ (u7 : Value).ownBlock ∧ k_ ≠ g375)) k_ ∧ some k_ ≠ (u6 : Value).ownBlock)) (HL394_2.out) (fun k_ hk => ⟨⟨hk.1.1, ⟨hk.2, ⟨hk.1.2.2.1, hk.1.2.2.2⟩⟩⟩, hk.1.2.1⟩))).2.1 (Kd.V_F (Kd.V_mono (ok' := (fun k_ => ((fun k_ => (w.heap.size ≤ k_) ∧ some k_ ≠ (.slice (some ad394) t376.length co26 : Value).ownBlock ∧ some k_ ≠ (u7 : Value).ownBlock ∧ k_ ≠ g375)) k_ ∧ some k_ ≠ (u6 : Value).ownBlock)) (HL394_2.out) (fun k_ hk => ⟨⟨hk.1.1, ⟨hk.2, ⟨hk.1.2.2.1, hk.1.2.2.2⟩⟩⟩, hk.1.2.1⟩))))); (case aB => exact (by repeat (first | (with_reducible first | exact HB.out | apply below_alloc | apply pw_below_drewN | apply below_drew1 | refine below_set ?_ (IsS112.ge HI375.out)) | exact HB.out))); (case aF => exact (fun k_ hk => ⟨(Nat.le_trans (below_size (by repeat (first | (with_reducible first | exact HB.out | apply below_alloc | apply pw_below_drewN | apply below_drew1 | refine below_set ?_ (IsS112.ge HI375.out)) | exact HB.out))) hk), Kd.fresh' (Kd.N_lt (by (with_reducible repeat (first | apply Kd.N_alloc | apply Kd.N_drewN | apply Kd.N_drew)); exact HO_5.out)) k_ hk, Kd.fresh' (Kd.N_lt (by (with_reducible repeat (first | apply Kd.N_alloc | apply Kd.N_drewN | apply Kd.N_drew)); exact HO_7.out)) k_ hk, IsS112.fresh (by repeat (first | (with_reducible first | exact HI375.out | apply IsS112.alloc | apply IsS112.drewN | apply IsS112.drew | apply IsS112.set_1) | exact HI375.out)) k_ hk⟩)); (case aO => exact (by (with_reducible repeat (first | apply Kd.N_alloc | apply Kd.N_drewN | apply Kd.N_drew)); exact HO_6.out)); (case aS => exact (below_size (by repeat (first | (with_reducible first | exact HB.out | apply below_alloc | apply pw_below_drewN | apply below_drew1 | refine below_set ?_ (IsS112.ge HI375.out)) | exact HB.out)))); (case aL => have := LMc22.out; omega); intro v396 w28 ho hb hg hat; rw [← Ny395.out] at ho; have n0_ := Aside0.mk (Kd.N_afterv (ok := (fun k_ => (w.heap.size ≤ k_) ∧ some k_ ≠ (u7 : Value).ownBlock ∧ k_ ≠ g375)) (by (with_reducible repeat (first | apply Kd.N_alloc | apply Kd.N_drewN | apply Kd.N_drew)); exact Kd.N_mono HO_5.out (fun _ hk => ⟨⟨hk.1, ⟨hk.2.2.1, hk.2.2.2⟩⟩, hk.2.1⟩)) hg hat); have n1_ := Aside0.mk (Kd.N_afterv (ok := (fun k_ => (w.heap.size ≤ k_) ∧ some k_ ≠ (.slice (some ad394) t376.length co26 : Value).ownBlock ∧ k_ ≠ g375)) (by (with_reducible repeat (first | apply Kd.N_alloc | apply Kd.N_drewN | apply Kd.N_drew)); exact Kd.N_mono HO_7.out (fun _ hk => ⟨⟨hk.1, ⟨hk.2.1, hk.2.2.2⟩⟩, hk.2.2.1⟩)) hg hat); have n2_ := Aside0.mk (IsS112.grown (by repeat (first | (with_reducible first | exact HI375.out | apply IsS112.alloc | apply IsS112.drewN | apply IsS112.drew | apply IsS112.set_1) | exact HI375.out)) hg (IsS112.own_neN HI375.out HO_6.out (by decide))); have n3_ := Aside0.mk (Kd.V_afterv (ok := (fun k_ => (w.heap.size ≤ k_) ∧ some k_ ≠ (.slice (some ad394) t376.length co26 : Value).ownBlock ∧ some k_ ≠ (u7 : Value).ownBlock ∧ k_ ≠ g375)) (by (with_reducible repeat (first | apply Kd.V_alloc | apply Kd.V_drewN | apply Kd.V_drew)); exact Kd.V_mono HL394_2.out (fun _ hk => ⟨⟨hk.1.1, ⟨hk.2, ⟨hk.1.2.2.1, hk.1.2.2.2⟩⟩⟩, hk.1.2.1⟩)) hg hat); have n4_ := Aside0.mk (hb); have n5_ := Aside0.mk (ho); clear HO_5; clear HO_7; clear HI375; clear HL394_2; clear HB; clear HO_6; have HO_5 := n0_; have HO_7 := n1_; have HI375 := n2_; have HL394_2 := n3_; have HB := n4_; have HO397 := n5_; clear n0_ n1_ n2_ n3_ n4_ n5_; clear ho hb hg hat) | ((with_reducible refine gate_callee (f := 63) rfl ?_); refine goesL_ (some 38) rfl rfl Tryd.func63 (by kernel_rfl) rfl #[.pointer (some ⟨g375, 0, none⟩), .int .i64 3] rfl (by (try simp only [List.map_toArray, List.map_cons, List.map_nil]); first | done | rfl | (simp only [List.length_drop, List.length_take]; rfl)) ?_; (with_reducible refine (spec_l6Rd_pick.calls k1 g375 t373 t393 3 t398 t399 w _ ?side1 ?side2 A23.out).mono ?_); (case side1 => repeat (first | (with_reducible first | exact HI375.out | apply IsS112.alloc | apply IsS112.drewN | apply IsS112.drew | apply IsS112.set_1) | exact HI375.out)); (case side2 => repeat (first | (with_reducible first | exact HB.out | apply below_alloc | apply pw_below_drewN | apply below_drew1 | refine below_set ?_ (IsS112.ge HI375.out)) | exact HB.out)); rintro e w29 ⟨rfl, hi, hb, hk⟩; refine ⟨_, rfl, ?_⟩; have n0_ := Aside0.mk (Kd.N_mono (Kd.N_keep (Kd.N_mono (ok := fun k_ => ((((w.heap.size ≤ k_)) ∧ (some k_ ≠ (u7 : Value).ownBlock ∧ k_ ≠ g375)) ∧ some k_ ≠ (v396 : Value).ownBlock)) (by (with_reducible repeat (first | apply Kd.N_alloc | apply Kd.N_drewN | apply Kd.N_drew)); exact HO_5.out) (fun k_ hk_ => (⟨hk_, hk_.1.2.2⟩ : _ ∧ k_ ≠ g375))) hk (fun _ h => h.2)) (fun _ h => h.1)); have n1_ := Aside0.mk (Kd.N_mono (Kd.N_keep (Kd.N_mono (ok := fun k_ => ((((w.heap.size ≤ k_)) ∧ (some k_ ≠ (.slice (some ad394) t376.length co26 : Value).ownBlock ∧ k_ ≠ g375)) ∧ some k_ ≠ (v396 : Value).ownBlock)) (by (with_reducible repeat (first | apply Kd.N_alloc | apply Kd.N_drewN | apply Kd.N_drew)); exact HO_7.out) (fun k_ hk_ => (⟨hk_, hk_.1.2.2⟩ : _ ∧ k_ ≠ g375))) hk (fun _ h => h.2)) (fun _ h => h.1)); have n2_ := Aside0.mk (Kd.V_mono (Kd.V_keep (Kd.V_mono (ok := fun k_ => ((((w.heap.size ≤ k_)) ∧ (some k_ ≠ (.slice (some ad394) t376.length co26 : Value).ownBlock ∧ (some k_ ≠ (u7 : Value).ownBlock ∧ k_ ≠ g375))) ∧ some k_ ≠ (v396 : Value).ownBlock)) (by (with_reducible repeat (first | apply Kd.V_alloc | apply Kd.V_drewN | apply Kd.V_drew)); exact HL394_2.out) (fun k_ hk_ => (⟨hk_, hk_.1.2.2.2⟩ : _ ∧ k_ ≠ g375))) hk (fun _ h => h.2)) (fun _ h => h.1)); have n3_ := Aside0.mk (Kd.N_mono (Kd.N_keep (Kd.N_mono (ok := fun k_ => (((w.heap.size ≤ k_)) ∧ (some k_ ≠ (.slice (some ad394) t376.length co26 : Value).ownBlock ∧ (some k_ ≠ (u7 : Value).ownBlock ∧ k_ ≠ g375)))) (by (with_reducible repeat (first | apply Kd.N_alloc | apply Kd.N_drewN | apply Kd.N_drew)); exact HO397.out) (fun k_ hk_ => (⟨hk_, hk_.2.2.2⟩ : _ ∧ k_ ≠ g375))) hk (fun _ h => h.2)) (fun _ h => h.1)); have n4_ := Aside0.mk (hb); have n5_ := Aside0.mk (hi); clear HO_5; clear HO_7; clear HL394_2; clear HO397; clear HB; clear HI375; have HO_5 := n0_; have HO_7 := n1_; have HL394_2 := n2_; have HO397 := n3_; have HB := n4_; have HI375 := n5_; clear n0_ n1_ n2_ n3_ n4_ n5_; (try clear hb); (try clear hb2); (try clear hk); (try clear hi); have p400 : 0 ≤ (x8_1 : Int) := of_decide_eq_true (by first | (with_reducible assumption) | assumption); have q400 : x8_1 < (t376.length : Int) := of_decide_eq_true (by first | (with_reducible assumption) | assumption); obtain ⟨ad400, A400_2, c400_2, e400, hx400_0, hx400_1, hx400_2, hl400_2, hi400_2⟩ := at_T38 (Kd.N_reads' HO_5.out).2.2 x8_1 p400 q400; obtain rfl : ad394 = ad400 := (by injection e400); obtain ⟨ce400, hce400, hMe400, hcc400⟩ := Kd.N_get HO_5.out z38 x8_1 p400 (by first | exact q400 | exact of_decide_eq_true (by first | (with_reducible assumption) | assumption) | (have e_ := (Kd.N_reads' HO_5.out).1; omega)); obtain ⟨ua400_2, uc400_2, rfl, ul400_2, ge400_2⟩ := k38_openF hMe400; have hv400_2 := hcc400 2 _ rfl; rw [add_field _ _ 2 (by omega)] at hv400_2; replace hv400_2 := Option.some.inj (hv400_2.symm.trans hx400_2); injection hv400_2 with hva_ hvn_ hvc_; rw [hva_] at ge400_2; rw [hvc_] at ul400_2; have HL400_2 := Aside0.mk (show Kd.V k90 90 _ w.heap.size _ _ ((rd_T38 t376 x8_1).f2) from Kd.V_mk ul400_2 ge400_2); clear hva_ hvn_ hvc_ ge400_2 ul400_2; clear hcc400 hce400; have HR400_2 := Aside0.mk hi400_2; have HC400_2 := Aside0.mk hl400_2; clear hi400_2 hl400_2; replace p400 := eq_true p400; replace q400 := eq_true q400) | ((with_reducible refine gate_builtin (b := .append) (xs := #[.tmp 40, .tmp 45]) rfl ?_); at_builtin; refine Kd.N_append k38 (w0 := w) w.heap.size rfl (.tmp 40) (.tmp 45) 24 38 (.agg #[(.string ⟨#[]⟩), (.int .i64 0), (.slice none 0 0)]) 48 rfl Tryd.underlying24 info38 rfl (by decide) (by omega) u7 x7_1 (⟨(rd_T38 t376 x8_1).f0, (rd_T38 t376 x8_1).f1, (rd_T38 t376 x8_1).f2⟩ : S38) [.string ((rd_T38 t376 x8_1).f0), .int .i64 ((rd_T38 t376 x8_1).f1), .slice A400_2 ((rd_T38 t376 x8_1).f2).length c400_2] (fun k_ => (w.heap.size ≤ k_) ∧ some k_ ≠ (.slice (some ad394) t376.length co26 : Value).ownBlock ∧ some k_ ≠ (v396 : Value).ownBlock ∧ k_ ≠ g375) (fun k_ => ((fun k_ => (w.heap.size ≤ k_) ∧ some k_ ≠ (.slice (some ad394) t376.length co26 : Value).ownBlock ∧ some k_ ≠ (v396 : Value).ownBlock ∧ k_ ≠ g375)) k_ ∧ some k_ ≠ (u7 : Value).ownBlock) rfl rfl ?aP (fun _ hk => hk) ?aF ?aO ?aB ?aS ?aL ?_; (case aP => exact (k38_mkF _ _ (⟨(rd_T38 t376 x8_1).f0, (rd_T38 t376 x8_1).f1, (rd_T38 t376 x8_1).f2⟩ : S38) (Kd.V_reads' (Kd.V_mono (ok' := (fun k_ => ((fun k_ => (w.heap.size ≤ k_) ∧ some k_ ≠ (.slice (some ad394) t376.length co26 : Value).ownBlock ∧ some k_ ≠ (v396 : Value).ownBlock ∧ k_ ≠ g375)) k_ ∧ some k_ ≠ (u7 : Value).ownBlock)) (HL400_2.out) (fun k_ hk => ⟨⟨hk.1.1.1, ⟨hk.2, ⟨hk.1.2, hk.1.1.2.2⟩⟩⟩, hk.1.1.2.1⟩))).2.1 (Kd.V_F (Kd.V_mono (ok' := (fun k_ => ((fun k_ => (w.heap.size ≤ k_) ∧ some k_ ≠ (.slice (some ad394) t376.length co26 : Value).ownBlock ∧ some k_ ≠ (v396 : Value).ownBlock ∧ k_ ≠ g375)) k_ ∧ some k_ ≠ (u7 : Value).ownBlock)) (HL400_2.out) (fun k_ hk => ⟨⟨hk.1.1.1, ⟨hk.2, ⟨hk.1.2, hk.1.1.2.2⟩⟩⟩, hk.1.1.2.1⟩))))); (case aB => exact (by repeat (first | (with_reducible first | exact HB.out | apply below_alloc | apply pw_below_drewN | apply below_drew1 | refine below_set ?_ (IsS112.ge HI375.out)) | exact HB.out))); (case aF => exact (fun k_ hk => ⟨(Nat.le_trans (below_size (by repeat (first | (with_reducible first | exact HB.out | apply below_alloc | apply pw_below_drewN | apply below_drew1 | refine below_set ?_ (IsS112.ge HI375.out)) | exact HB.out))) hk), Kd.fresh' (Kd.N_lt (by (with_reducible repeat (first | apply Kd.N_alloc | apply Kd.N_drewN | apply Kd.N_drew)); exact HO_5.out)) k_ hk, Kd.fresh' (Kd.N_lt (by (with_reducible repeat (first | apply Kd.N_alloc | apply Kd.N_drewN | apply Kd.N_drew)); exact HO397.out)) k_ hk, IsS112.fresh (by repeat (first | (with_reducible first | exact HI375.out | apply IsS112.alloc | apply IsS112.drewN | apply IsS112.drew | apply IsS112.set_1) | exact HI375.out)) k_ hk⟩)); (case aO => exact (by (with_reducible repeat (first | apply Kd.N_alloc | apply Kd.N_drewN | apply Kd.N_drew)); exact Kd.N_mono HO_7.out (fun _ hk => ⟨hk.1.1, ⟨hk.1.2.1, ⟨hk.2, hk.1.2.2⟩⟩⟩))); (case aS => exact (below_size (by repeat (first | (with_reducible first | exact HB.out | apply below_alloc | apply pw_below_drewN | apply below_drew1 | refine below_set ?_ (IsS112.ge HI375.out)) | exact HB.out)))); (case aL => have := LMc25.out; omega); intro v402 w30 ho hb hg hat; rw [← Ny401.out] at ho; have n0_ := Aside0.mk (Kd.N_afterv (ok := (fun k_ => (w.heap.size ≤ k_) ∧ some k_ ≠ (v396 : Value).ownBlock ∧ k_ ≠ g375)) (by (with_reducible repeat (first | apply Kd.N_alloc | apply Kd.N_drewN | apply Kd.N_drew)); exact Kd.N_mono HO_5.out (fun _ hk => ⟨⟨hk.1.1, ⟨hk.2, hk.1.2.2⟩⟩, hk.1.2.1⟩)) hg hat); have n1_ := Aside0.mk (IsS112.grown (by repeat (first | (with_reducible first | exact HI375.out | apply IsS112.alloc | apply IsS112.drewN | apply IsS112.drew | apply IsS112.set_1) | exact HI375.out)) hg (IsS112.own_neN HI375.out HO_7.out (by decide))); have n2_ := Aside0.mk (Kd.V_afterv (ok := (fun k_ => (w.heap.size ≤ k_) ∧ some k_ ≠ (.slice (some ad394) t376.length co26 : Value).ownBlock ∧ some k_ ≠ (v396 : Value).ownBlock ∧ k_ ≠ g375)) (by (with_reducible repeat (first | apply Kd.V_alloc | apply Kd.V_drewN | apply Kd.V_drew)); exact Kd.V_mono HL394_2.out (fun _ hk => ⟨⟨hk.1.1, ⟨hk.1.2.1, ⟨hk.2, hk.1.2.2.2⟩⟩⟩, hk.1.2.2.1⟩)) hg hat); have n3_ := Aside0.mk (Kd.N_afterv (ok := (fun k_ => (w.heap.size ≤ k_) ∧ some k_ ≠ (.slice (some ad394) t376.length co26 : Value).ownBlock ∧ k_ ≠ g375)) (by (with_reducible repeat (first | apply Kd.N_alloc | apply Kd.N_drewN | apply Kd.N_drew)); exact Kd.N_mono HO397.out (fun _ hk => ⟨⟨hk.1, ⟨hk.2.1, hk.2.2.2⟩⟩, hk.2.2.1⟩)) hg hat); have n4_ := Aside0.mk (Kd.V_afterv (ok := (fun k_ => (w.heap.size ≤ k_) ∧ some k_ ≠ (.slice (some ad394) t376.length co26 : Value).ownBlock ∧ some k_ ≠ (v396 : Value).ownBlock ∧ k_ ≠ g375)) (by (with_reducible repeat (first | apply Kd.V_alloc | apply Kd.V_drewN | apply Kd.V_drew)); exact Kd.V_mono HL400_2.out (fun _ hk => ⟨⟨hk.1.1.1, ⟨hk.2, ⟨hk.1.2, hk.1.1.2.2⟩⟩⟩, hk.1.1.2.1⟩)) hg hat); have n5_ := Aside0.mk (hb); have n6_ := Aside0.mk (ho); clear HO_5; clear HI375; clear HL394_2; clear HO397; clear HL400_2; clear HB; clear HO_7; have HO_5 := n0_; have HI375 := n1_; have HL394_2 := n2_; have HO397 := n3_; have HL400_2 := n4_; have HB := n5_; have HO403 := n6_; clear n0_ n1_ n2_ n3_ n4_ n5_ n6_; clear ho hb hg hat))
          go_roundg k1
          case measure => have := HK1.out; omega
          case rel => exact ⟨(y395), (y401), (wrap64 (x8_1 + 1)), (t399), (by first | rfl | (simp; done) | (simp [*]; done)), H', ⟨by have := HK1.out; omega⟩, ⟨by (with_reducible repeat (first | apply Kd.N_alloc | apply Kd.N_drewN | apply Kd.N_drew)); exact Kd.N_mono HO_5.out (fun _ hk => ⟨hk.1.1, ⟨hk.1.2.1, ⟨hk.2, hk.1.2.2⟩⟩⟩)⟩, ⟨by (with_reducible repeat (first | apply Kd.N_alloc | apply Kd.N_drewN | apply Kd.N_drew)); exact Kd.N_mono HO397.out (fun _ hk => ⟨hk.1.1, ⟨hk.1.2.1, ⟨hk.2, hk.1.2.2⟩⟩⟩)⟩, ⟨by (with_reducible repeat (first | apply Kd.N_alloc | apply Kd.N_drewN | apply Kd.N_drew)); exact HO403.out⟩, ⟨by repeat (first | (with_reducible first | exact HI375.out | apply IsS112.alloc | apply IsS112.drewN | apply IsS112.drew | apply IsS112.set_1) | exact HI375.out)⟩, ⟨by repeat (first | (with_reducible first | exact HB.out | apply below_alloc | apply pw_below_drewN | apply below_drew1 | refine below_set ?_ (IsS112.ge HI375.out)) | exact HB.out)⟩⟩
         ·
          rw [if_neg c25] at H; exact absurd H (by simp)
        ·
         rw [if_neg c24] at H; have c24b0 : decide (0 < t398) = false := decide_eq_false c24; clear c24; have H' := Aside0.mk H; clear H; obtain ⟨Ao31, co31, eo31⟩ := Kd.N_slice HO_5.out; subst eo31; go_wp2_with (first | ((with_reducible refine gate_callee (f := 63) rfl ?_); refine goesL_ (some 28) rfl rfl Tryd.func63 (by kernel_rfl) rfl #[.pointer (some ⟨g375, 0, none⟩), .int .i64 3] rfl (by (try simp only [List.map_toArray, List.map_cons, List.map_nil]); first | done | rfl | (simp only [List.length_drop, List.length_take]; rfl)) ?_; (with_reducible refine (spec_l6Rd_pick.calls k1 g375 t373 x376001_1 3 t392 t393 w _ ?side1 ?side2 A19.out).mono ?_); (case side1 => repeat (first | (with_reducible first | exact HI375.out | apply IsS112.alloc | apply IsS112.drewN | apply IsS112.drew | apply IsS112.set_1) | exact HI375.out)); (case side2 => repeat (first | (with_reducible first | exact HB.out | apply below_alloc | apply pw_below_drewN | apply below_drew1 | refine below_set ?_ (IsS112.ge HI375.out)) | exact HB.out)); rintro e w32 ⟨rfl, hi, hb, hk⟩; refine ⟨_, rfl, ?_⟩; have n0_ := Aside0.mk (Kd.N_mono (Kd.N_keep (Kd.N_mono (ok := fun k_ => (((w.heap.size ≤ k_)) ∧ (some k_ ≠ (u6 : Value).ownBlock ∧ (some k_ ≠ (u7 : Value).ownBlock ∧ k_ ≠ g375)))) (by (with_reducible repeat (first | apply Kd.N_alloc | apply Kd.N_drewN | apply Kd.N_drew)); exact HO_5.out) (fun k_ hk_ => (⟨hk_, hk_.2.2.2⟩ : _ ∧ k_ ≠ g375))) hk (fun _ h => h.2)) (fun _ h => h.1)); have n1_ := Aside0.mk (Kd.N_mono (Kd.N_keep (Kd.N_mono (ok := fun k_ => (((w.heap.size ≤ k_)) ∧ (some k_ ≠ (.slice Ao31 t376.length co31 : Value).ownBlock ∧ (some k_ ≠ (u7 : Value).ownBlock ∧ k_ ≠ g375)))) (by (with_reducible repeat (first | apply Kd.N_alloc | apply Kd.N_drewN | apply Kd.N_drew)); exact HO_6.out) (fun k_ hk_ => (⟨hk_, hk_.2.2.2⟩ : _ ∧ k_ ≠ g375))) hk (fun _ h => h.2)) (fun _ h => h.1)); have n2_ := Aside0.mk (Kd.N_mono (Kd.N_keep (Kd.N_mono (ok := fun k_ => (((w.heap.size ≤ k_)) ∧ (some k_ ≠ (.slice Ao31 t376.length co31 : Value).ownBlock ∧ (some k_ ≠ (u6 : Value).ownBlock ∧ k_ ≠ g375)))) (by (with_reducible repeat (first | apply Kd.N_alloc | apply Kd.N_drewN | apply Kd.N_drew)); exact HO_7.out) (fun k_ hk_ => (⟨hk_, hk_.2.2.2⟩ : _ ∧ k_ ≠ g375))) hk (fun _ h => h.2)) (fun _ h => h.1)); have n3_ := Aside0.mk (hb); have n4_ := Aside0.mk (hi); clear HO_5; clear HO_6; clear HO_7; clear HB; clear HI375; have HO_5 := n0_; have HO_6 := n1_; have HO_7 := n2_; have HB := n3_; have HI375 := n4_; clear n0_ n1_ n2_ n3_ n4_; (try clear hb); (try clear hb2); (try clear hk); (try clear hi); have p394 : 0 ≤ (x8_1 : Int) := of_decide_eq_true (by first | (with_reducible assumption) | assumption); have q394 : x8_1 < (t376.length : Int) := of_decide_eq_true (by first | (with_reducible assumption) | assumption); obtain ⟨ad394, A394_2, c394_2, e394, hx394_0, hx394_1, hx394_2, hl394_2, hi394_2⟩ := at_T38 (Kd.N_reads' HO_5.out).2.2 x8_1 p394 q394; cases e394; obtain ⟨ce394, hce394, hMe394, hcc394⟩ := Kd.N_get HO_5.out z38 x8_1 p394 (by first | exact q394 | exact of_decide_eq_true (by first | (with_reducible assumption) | assumption) | (have e_ := (Kd.N_reads' HO_5.out).1; omega)); obtain ⟨ua394_2, uc394_2, rfl, ul394_2, ge394_2⟩ := k38_openF hMe394; have hv394_2 := hcc394 2 _ rfl; rw [add_field _ _ 2 (by omega)] at hv394_2; replace hv394_2 := Option.some.inj (hv394_2.symm.trans hx394_2); injection hv394_2 with hva_ hvn_ hvc_; rw [hva_] at ge394_2; rw [hvc_] at ul394_2; have HL394_2 := Aside0.mk (show Kd.V k90 90 _ w.heap.size _ _ ((rd_T38 t376 x8_1).f2) from Kd.V_mk ul394_2 ge394_2); clear hva_ hvn_ hvc_ ge394_2 ul394_2; clear hcc394 hce394; have HR394_2 := Aside0.mk hi394_2; have HC394_2 := Aside0.mk hl394_2; clear hi394_2 hl394_2; replace p394 := eq_true p394; replace q394 := eq_true q394) | ((with_reducible refine gate_builtin (b := .append) (xs := #[.tmp 30, .tmp 35]) rfl ?_); at_builtin; refine Kd.N_append k38 (w0 := w) w.heap.size rfl (.tmp 30) (.tmp 35) 24 38 (.agg #[(.string ⟨#[]⟩), (.int .i64 0), (.slice none 0 0)]) 48 rfl Tryd.underlying24 info38 rfl (by decide) (by omega) u6 x6_1 (⟨(rd_T38 t376 x8_1).f0, (rd_T38 t376 x8_1).f1, (rd_T38 t376 x8_1).f2⟩ : S38) [.string ((rd_T38 t376 x8_1).f0), .int .i64 ((rd_T38 t376 x8_1).f1), .slice A394_2 ((rd_T38 t376 x8_1).f2).length c394_2] (fun k_ => (w.heap.size ≤ k_) ∧ some k_ ≠ (.slice (some ad394) t376.length co31 : Value).ownBlock ∧ some k_ ≠ (u7 : Value).ownBlock ∧ k_ ≠ g375) (fun k_ => ((fun k_ => (w.heap.size ≤ k_) ∧ some k_ ≠ (.slice (some ad394) t376.length co31 : Value).ownBlock ∧ some k_ ≠ (u7 : Value).ownBlock ∧ k_ ≠ g375)) k_ ∧ some k_ ≠ (u6 : Value).ownBlock) rfl rfl ?aP (fun _ hk => hk) ?aF ?aO ?aB ?aS ?aL ?_; (case aP => exact (k38_mkF _ _ (⟨(rd_T38 t376 x8_1).f0, (rd_T38 t376 x8_1).f1, (rd_T38 t376 x8_1).f2⟩ : S38) (Kd.V_reads' (Kd.V_mono (ok' := (fun k_ => ((fun k_ => (w.heap.size ≤ k_) ∧ some k_ ≠ (.slice (some ad394) t376.length co31 : Value).ownBlock ∧ some k_ ≠ (u7 : Value).ownBlock ∧ k_ ≠ g375)) k_ ∧ some k_ ≠ (u6 : Value).ownBlock)) (HL394_2.out) (fun k_ hk => ⟨⟨hk.1.1, ⟨hk.2, ⟨hk.1.2.2.1, hk.1.2.2.2⟩⟩⟩, hk.1.2.1⟩))).2.1 (Kd.V_F (Kd.V_mono (ok' := (fun k_ => ((fun k_ => (w.heap.size ≤ k_) ∧ some k_ ≠ (.slice (some ad394) t376.length co31 : Value).ownBlock ∧ some k_ ≠ (u7 : Value).ownBlock ∧ k_ ≠ g375)) k_ ∧ some k_ ≠ (u6 : Value).ownBlock)) (HL394_2.out) (fun k_ hk => ⟨⟨hk.1.1, ⟨hk.2, ⟨hk.1.2.2.1, hk.1.2.2.2⟩⟩⟩, hk.1.2.1⟩))))); (case aB => exact (by repeat (first | (with_reducible first | exact HB.out | apply below_alloc | apply pw_below_drewN | apply below_drew1 | refine below_set ?_ (IsS112.ge HI375.out)) | exact HB.out))); (case aF => exact (fun k_ hk => ⟨(Nat.le_trans (below_size (by repeat (first | (with_reducible first | exact HB.out | apply below_alloc | apply pw_below_drewN | apply below_drew1 | refine below_set ?_ (IsS112.ge HI375.out)) | exact HB.out))) hk), Kd.fresh' (Kd.N_lt (by (with_reducible repeat (first | apply Kd.N_alloc | apply Kd.N_drewN | apply Kd.N_drew)); exact HO_5.out)) k_ hk, Kd.fresh' (Kd.N_lt (by (with_reducible repeat (first | apply Kd.N_alloc | apply Kd.N_drewN | apply Kd.N_drew)); exact HO_7.out)) k_ hk, IsS112.fresh (by repeat (first | (with_reducible first | exact HI375.out | apply IsS112.alloc | apply IsS112.drewN | apply IsS112.drew | apply IsS112.set_1) | exact HI375.out)) k_ hk⟩)); (case aO => exact (by (with_reducible repeat (first | apply Kd.N_alloc | apply Kd.N_drewN | apply Kd.N_drew)); exact HO_6.out)); (case aS => exact (below_size (by repeat (first | (with_reducible first | exact HB.out | apply below_alloc | apply pw_below_drewN | apply below_drew1 | refine below_set ?_ (IsS112.ge HI375.out)) | exact HB.out)))); (case aL => have := LMc22.out; omega); intro v396 w33 ho hb hg hat; rw [← Ny395.out] at ho; have n0_ := Aside0.mk (Kd.N_afterv (ok := (fun k_ => (w.heap.size ≤ k_) ∧ some k_ ≠ (u7 : Value).ownBlock ∧ k_ ≠ g375)) (by (with_reducible repeat (first | apply Kd.N_alloc | apply Kd.N_drewN | apply Kd.N_drew)); exact Kd.N_mono HO_5.out (fun _ hk => ⟨⟨hk.1, ⟨hk.2.2.1, hk.2.2.2⟩⟩, hk.2.1⟩)) hg hat); have n1_ := Aside0.mk (Kd.N_afterv (ok := (fun k_ => (w.heap.size ≤ k_) ∧ some k_ ≠ (.slice (some ad394) t376.length co31 : Value).ownBlock ∧ k_ ≠ g375)) (by (with_reducible repeat (first | apply Kd.N_alloc | apply Kd.N_drewN | apply Kd.N_drew)); exact Kd.N_mono HO_7.out (fun _ hk => ⟨⟨hk.1, ⟨hk.2.1, hk.2.2.2⟩⟩, hk.2.2.1⟩)) hg hat); have n2_ := Aside0.mk (IsS112.grown (by repeat (first | (with_reducible first | exact HI375.out | apply IsS112.alloc | apply IsS112.drewN | apply IsS112.drew | apply IsS112.set_1) | exact HI375.out)) hg (IsS112.own_neN HI375.out HO_6.out (by decide))); have n3_ := Aside0.mk (Kd.V_afterv (ok := (fun k_ => (w.heap.size ≤ k_) ∧ some k_ ≠ (.slice (some ad394) t376.length co31 : Value).ownBlock ∧ some k_ ≠ (u7 : Value).ownBlock ∧ k_ ≠ g375)) (by (with_reducible repeat (first | apply Kd.V_alloc | apply Kd.V_drewN | apply Kd.V_drew)); exact Kd.V_mono HL394_2.out (fun _ hk => ⟨⟨hk.1.1, ⟨hk.2, ⟨hk.1.2.2.1, hk.1.2.2.2⟩⟩⟩, hk.1.2.1⟩)) hg hat); have n4_ := Aside0.mk (hb); have n5_ := Aside0.mk (ho); clear HO_5; clear HO_7; clear HI375; clear HL394_2; clear HB; clear HO_6; have HO_5 := n0_; have HO_7 := n1_; have HI375 := n2_; have HL394_2 := n3_; have HB := n4_; have HO397 := n5_; clear n0_ n1_ n2_ n3_ n4_ n5_; clear ho hb hg hat) | ((with_reducible refine gate_callee (f := 63) rfl ?_); refine goesL_ (some 38) rfl rfl Tryd.func63 (by kernel_rfl) rfl #[.pointer (some ⟨g375, 0, none⟩), .int .i64 3] rfl (by (try simp only [List.map_toArray, List.map_cons, List.map_nil]); first | done | rfl | (simp only [List.length_drop, List.length_take]; rfl)) ?_; (with_reducible refine (spec_l6Rd_pick.calls k1 g375 t373 t393 3 t398 t399 w _ ?side1 ?side2 A23.out).mono ?_); (case side1 => repeat (first | (with_reducible first | exact HI375.out | apply IsS112.alloc | apply IsS112.drewN | apply IsS112.drew | apply IsS112.set_1) | exact HI375.out)); (case side2 => repeat (first | (with_reducible first | exact HB.out | apply below_alloc | apply pw_below_drewN | apply below_drew1 | refine below_set ?_ (IsS112.ge HI375.out)) | exact HB.out)); rintro e w34 ⟨rfl, hi, hb, hk⟩; refine ⟨_, rfl, ?_⟩; have n0_ := Aside0.mk (Kd.N_mono (Kd.N_keep (Kd.N_mono (ok := fun k_ => ((((w.heap.size ≤ k_)) ∧ (some k_ ≠ (u7 : Value).ownBlock ∧ k_ ≠ g375)) ∧ some k_ ≠ (v396 : Value).ownBlock)) (by (with_reducible repeat (first | apply Kd.N_alloc | apply Kd.N_drewN | apply Kd.N_drew)); exact HO_5.out) (fun k_ hk_ => (⟨hk_, hk_.1.2.2⟩ : _ ∧ k_ ≠ g375))) hk (fun _ h => h.2)) (fun _ h => h.1)); have n1_ := Aside0.mk (Kd.N_mono (Kd.N_keep (Kd.N_mono (ok := fun k_ => ((((w.heap.size ≤ k_)) ∧ (some k_ ≠ (.slice (some ad394) t376.length co31 : Value).ownBlock ∧ k_ ≠ g375)) ∧ some k_ ≠ (v396 : Value).ownBlock)) (by (with_reducible repeat (first | apply Kd.N_alloc | apply Kd.N_drewN | apply Kd.N_drew)); exact HO_7.out) (fun k_ hk_ => (⟨hk_, hk_.1.2.2⟩ : _ ∧ k_ ≠ g375))) hk (fun _ h => h.2)) (fun _ h => h.1)); have n2_ := Aside0.mk (Kd.V_mono (Kd.V_keep (Kd.V_mono (ok := fun k_ => ((((w.heap.size ≤ k_)) ∧ (some k_ ≠ (.slice (some ad394) t376.length co31 : Value).ownBlock ∧ (some k_ ≠ (u7 : Value).ownBlock ∧ k_ ≠ g375))) ∧ some k_ ≠ (v396 : Value).ownBlock)) (by (with_reducible repeat (first | apply Kd.V_alloc | apply Kd.V_drewN | apply Kd.V_drew)); exact HL394_2.out) (fun k_ hk_ => (⟨hk_, hk_.1.2.2.2⟩ : _ ∧ k_ ≠ g375))) hk (fun _ h => h.2)) (fun _ h => h.1)); have n3_ := Aside0.mk (Kd.N_mono (Kd.N_keep (Kd.N_mono (ok := fun k_ => (((w.heap.size ≤ k_)) ∧ (some k_ ≠ (.slice (some ad394) t376.length co31 : Value).ownBlock ∧ (some k_ ≠ (u7 : Value).ownBlock ∧ k_ ≠ g375)))) (by (with_reducible repeat (first | apply Kd.N_alloc | apply Kd.N_drewN | apply Kd.N_drew)); exact HO397.out) (fun k_ hk_ => (⟨hk_, hk_.2.2.2⟩ : _ ∧ k_ ≠ g375))) hk (fun _ h => h.2)) (fun _ h => h.1)); have n4_ := Aside0.mk (hb); have n5_ := Aside0.mk (hi); clear HO_5; clear HO_7; clear HL394_2; clear HO397; clear HB; clear HI375; have HO_5 := n0_; have HO_7 := n1_; have HL394_2 := n2_; have HO397 := n3_; have HB := n4_; have HI375 := n5_; clear n0_ n1_ n2_ n3_ n4_ n5_; (try clear hb); (try clear hb2); (try clear hk); (try clear hi)))
         go_roundg k1
         case measure => have := HK1.out; omega
         case rel => exact ⟨(y395), (x7_1), (wrap64 (x8_1 + 1)), (t399), (by first | rfl | (simp; done) | (simp [*]; done)), H', ⟨by have := HK1.out; omega⟩, ⟨by (with_reducible repeat (first | apply Kd.N_alloc | apply Kd.N_drewN | apply Kd.N_drew)); exact Kd.N_mono HO_5.out (fun _ hk => ⟨hk.1.1, ⟨hk.2, ⟨hk.1.2.1, hk.1.2.2⟩⟩⟩)⟩, ⟨by (with_reducible repeat (first | apply Kd.N_alloc | apply Kd.N_drewN | apply Kd.N_drew)); exact HO397.out⟩, ⟨by (with_reducible repeat (first | apply Kd.N_alloc | apply Kd.N_drewN | apply Kd.N_drew)); exact Kd.N_mono HO_7.out (fun _ hk => ⟨hk.1.1, ⟨hk.1.2.1, ⟨hk.2, hk.1.2.2⟩⟩⟩)⟩, ⟨by repeat (first | (with_reducible first | exact HI375.out | apply IsS112.alloc | apply IsS112.drewN | apply IsS112.drew | apply IsS112.set_1) | exact HI375.out)⟩, ⟨by repeat (first | (with_reducible first | exact HB.out | apply below_alloc | apply pw_below_drewN | apply below_drew1 | refine below_set ?_ (IsS112.ge HI375.out)) | exact HB.out)⟩⟩
       ·
        rw [if_neg c22] at H; exact absurd H (by simp)
      ·
       rw [if_neg c21] at H; exact absurd H (by simp)
     ·
      rw [if_neg c20] at H; have c20b0 : decide (0 < t392) = false := decide_eq_false c20; clear c20; replace H := Option.bind_eq_some_iff.mp H; obtain ⟨⟨t404, t405⟩, A350, H⟩ := H; replace H : (if t404 > 0 then (if 0 ≤ x8_1 then (if x7_1.length < 2932031007402 then (spec_DrawTonaryJoin.l0 k1 t376 x6_1 (x7_1 ++ [(⟨(rd_T38 t376 x8_1).f0, (rd_T38 t376 x8_1).f1, (rd_T38 t376 x8_1).f2⟩ : S38)]) (wrap64 (x8_1 + 1)) t373 t405) else (none)) else (none)) else (spec_DrawTonaryJoin.l0 k1 t376 x6_1 x7_1 (wrap64 (x8_1 + 1)) t373 t405)) = some (r1, r2) := H; have A35 := Aside0.mk A350; clear A350; by_cases c36 : t404 > 0
      ·
       rw [if_pos c36] at H; have c36b0 : decide (0 < t404) = true := decide_eq_true c36; clear c36; by_cases c37 : 0 ≤ x8_1
       ·
        rw [if_pos c37] at H; have c37b0 : decide (0 ≤ x8_1) = true := decide_eq_true c37; clear c37; by_cases c38 : x7_1.length < 2932031007402
        ·
         rw [if_pos c38] at H; have LMc38 := Aside0.mk c38; clear c38; obtain ⟨y407, hy407⟩ : ∃ y_ : List (S38), y_ = (x7_1 ++ [(⟨(rd_T38 t376 x8_1).f0, (rd_T38 t376 x8_1).f1, (rd_T38 t376 x8_1).f2⟩ : S38)]) := ⟨_, rfl⟩
         replace H : (spec_DrawTonaryJoin.l0 k1 t376 x6_1 y407 (wrap64 (x8_1 + 1)) t373 t405) = some (r1, r2) := by first | (rw [hy407]; with_reducible exact H) | (have H2_ := (Option.bind_some _ _).symm.trans H; rw [hy407]; with_reducible exact H2_) | (have H2_ := (Option.bind_some _ _).symm.trans H; with_reducible exact H2_) | with_reducible exact H | (rw [hy407]; exact H) | exact H
         have Ny407 := Aside0.mk hy407; clear hy407; have H' := Aside0.mk H; clear H; obtain ⟨Ao39, co39, eo39⟩ := Kd.N_slice HO_5.out; subst eo39; go_wp2_with (first | ((with_reducible refine gate_callee (f := 63) rfl ?_); refine goesL_ (some 28) rfl rfl Tryd.func63 (by kernel_rfl) rfl #[.pointer (some ⟨g375, 0, none⟩), .int .i64 3] rfl (by (try simp only [List.map_toArray, List.map_cons, List.map_nil]); first | done | rfl | (simp only [List.length_drop, List.length_take]; rfl)) ?_; (with_reducible refine (spec_l6Rd_pick.calls k1 g375 t373 x376001_1 3 t392 t393 w _ ?side1 ?side2 A19.out).mono ?_); (case side1 => repeat (first | (with_reducible first | exact HI375.out | apply IsS112.alloc | apply IsS112.drewN | apply IsS112.drew | apply IsS112.set_1) | exact HI375.out)); (case side2 => repeat (first | (with_reducible first | exact HB.out | apply below_alloc | apply pw_below_drewN | apply below_drew1 | refine below_set ?_ (IsS112.ge HI375.out)) | exact HB.out)); rintro e w40 ⟨rfl, hi, hb, hk⟩; refine ⟨_, rfl, ?_⟩; have n0_ := Aside0.mk (Kd.N_mono (Kd.N_keep (Kd.N_mono (ok := fun k_ => (((w.heap.size ≤ k_)) ∧ (some k_ ≠ (u6 : Value).ownBlock ∧ (some k_ ≠ (u7 : Value).ownBlock ∧ k_ ≠ g375)))) (by (with_reducible repeat (first | apply Kd.N_alloc | apply Kd.N_drewN | apply Kd.N_drew)); exact HO_5.out) (fun k_ hk_ => (⟨hk_, hk_.2.2.2⟩ : _ ∧ k_ ≠ g375))) hk (fun _ h => h.2)) (fun _ h => h.1)); have n1_ := Aside0.mk (Kd.N_mono (Kd.N_keep (Kd.N_mono (ok := fun k_ => (((w.heap.size ≤ k_)) ∧ (some k_ ≠ (.slice Ao39 t376.length co39 : Value).ownBlock ∧ (some k_ ≠ (u7 : Value).ownBlock ∧ k_ ≠ g375)))) (by (with_reducible repeat (first | apply Kd.N_alloc | apply Kd.N_drewN | apply Kd.N_drew)); exact HO_6.out) (fun k_ hk_ => (⟨hk_, hk_.2.2.2⟩ : _ ∧ k_ ≠ g375))) hk (fun _ h => h.2)) (fun _ h => h.1)); have n2_ := Aside0.mk (Kd.N_mono (Kd.N_keep (Kd.N_mono (ok := fun k_ => (((w.heap.size ≤ k_)) ∧ (some k_ ≠ (.slice Ao39 t376.length co39 : Value).ownBlock ∧ (some k_ ≠ (u6 : Value).ownBlock ∧ k_ ≠ g375)))) (by (with_reducible repeat (first | apply Kd.N_alloc | apply Kd.N_drewN | apply Kd.N_drew)); exact HO_7.out) (fun k_ hk_ => (⟨hk_, hk_.2.2.2⟩ : _ ∧ k_ ≠ g375))) hk (fun _ h => h.2)) (fun _ h => h.1)); have n3_ := Aside0.mk (hb); have n4_ := Aside0.mk (hi); clear HO_5; clear HO_6; clear HO_7; clear HB; clear HI375; have HO_5 := n0_; have HO_6 := n1_; have HO_7 := n2_; have HB := n3_; have HI375 := n4_; clear n0_ n1_ n2_ n3_ n4_; (try clear hb); (try clear hb2); (try clear hk); (try clear hi)) | ((with_reducible refine gate_callee (f := 63) rfl ?_); refine goesL_ (some 38) rfl rfl Tryd.func63 (by kernel_rfl) rfl #[.pointer (some ⟨g375, 0, none⟩), .int .i64 3] rfl (by (try simp only [List.map_toArray, List.map_cons, List.map_nil]); first | done | rfl | (simp only [List.length_drop, List.length_take]; rfl)) ?_; (with_reducible refine (spec_l6Rd_pick.calls k1 g375 t373 t393 3 t404 t405 w _ ?side1 ?side2 A35.out).mono ?_); (case side1 => repeat (first | (with_reducible first | exact HI375.out | apply IsS112.alloc | apply IsS112.drewN | apply IsS112.drew | apply IsS112.set_1) | exact HI375.out)); (case side2 => repeat (first | (with_reducible first | exact HB.out | apply below_alloc | apply pw_below_drewN | apply below_drew1 | refine below_set ?_ (IsS112.ge HI375.out)) | exact HB.out)); rintro e w41 ⟨rfl, hi, hb, hk⟩; refine ⟨_, rfl, ?_⟩; have n0_ := Aside0.mk (Kd.N_mono (Kd.N_keep (Kd.N_mono (ok := fun k_ => (((w.heap.size ≤ k_)) ∧ (some k_ ≠ (u6 : Value).ownBlock ∧ (some k_ ≠ (u7 : Value).ownBlock ∧ k_ ≠ g375)))) (by (with_reducible repeat (first | apply Kd.N_alloc | apply Kd.N_drewN | apply Kd.N_drew)); exact HO_5.out) (fun k_ hk_ => (⟨hk_, hk_.2.2.2⟩ : _ ∧ k_ ≠ g375))) hk (fun _ h => h.2)) (fun _ h => h.1)); have n1_ := Aside0.mk (Kd.N_mono (Kd.N_keep (Kd.N_mono (ok := fun k_ => (((w.heap.size ≤ k_)) ∧ (some k_ ≠ (.slice Ao39 t376.length co39 : Value).ownBlock ∧ (some k_ ≠ (u7 : Value).ownBlock ∧ k_ ≠ g375)))) (by (with_reducible repeat (first | apply Kd.N_alloc | apply Kd.N_drewN | apply Kd.N_drew)); exact HO_6.out) (fun k_ hk_ => (⟨hk_, hk_.2.2.2⟩ : _ ∧ k_ ≠ g375))) hk (fun _ h => h.2)) (fun _ h => h.1)); have n2_ := Aside0.mk (Kd.N_mono (Kd.N_keep (Kd.N_mono (ok := fun k_ => (((w.heap.size ≤ k_)) ∧ (some k_ ≠ (.slice Ao39 t376.length co39 : Value).ownBlock ∧ (some k_ ≠ (u6 : Value).ownBlock ∧ k_ ≠ g375)))) (by (with_reducible repeat (first | apply Kd.N_alloc | apply Kd.N_drewN | apply Kd.N_drew)); exact HO_7.out) (fun k_ hk_ => (⟨hk_, hk_.2.2.2⟩ : _ ∧ k_ ≠ g375))) hk (fun _ h => h.2)) (fun _ h => h.1)); have n3_ := Aside0.mk (hb); have n4_ := Aside0.mk (hi); clear HO_5; clear HO_6; clear HO_7; clear HB; clear HI375; have HO_5 := n0_; have HO_6 := n1_; have HO_7 := n2_; have HB := n3_; have HI375 := n4_; clear n0_ n1_ n2_ n3_ n4_; (try clear hb); (try clear hb2); (try clear hk); (try clear hi); have p406 : 0 ≤ (x8_1 : Int) := of_decide_eq_true (by first | (with_reducible assumption) | assumption); have q406 : x8_1 < (t376.length : Int) := of_decide_eq_true (by first | (with_reducible assumption) | assumption); obtain ⟨ad406, A406_2, c406_2, e406, hx406_0, hx406_1, hx406_2, hl406_2, hi406_2⟩ := at_T38 (Kd.N_reads' HO_5.out).2.2 x8_1 p406 q406; cases e406; obtain ⟨ce406, hce406, hMe406, hcc406⟩ := Kd.N_get HO_5.out z38 x8_1 p406 (by first | exact q406 | exact of_decide_eq_true (by first | (with_reducible assumption) | assumption) | (have e_ := (Kd.N_reads' HO_5.out).1; omega)); obtain ⟨ua406_2, uc406_2, rfl, ul406_2, ge406_2⟩ := k38_openF hMe406; have hv406_2 := hcc406 2 _ rfl; rw [add_field _ _ 2 (by omega)] at hv406_2; replace hv406_2 := Option.some.inj (hv406_2.symm.trans hx406_2); injection hv406_2 with hva_ hvn_ hvc_; rw [hva_] at ge406_2; rw [hvc_] at ul406_2; have HL406_2 := Aside0.mk (show Kd.V k90 90 _ w.heap.size _ _ ((rd_T38 t376 x8_1).f2) from Kd.V_mk ul406_2 ge406_2); clear hva_ hvn_ hvc_ ge406_2 ul406_2; clear hcc406 hce406; have HR406_2 := Aside0.mk hi406_2; have HC406_2 := Aside0.mk hl406_2; clear hi406_2 hl406_2; replace p406 := eq_true p406; replace q406 := eq_true q406) | ((with_reducible refine gate_builtin (b := .append) (xs := #[.tmp 40, .tmp 45]) rfl ?_); at_builtin; refine Kd.N_append k38 (w0 := w) w.heap.size rfl (.tmp 40) (.tmp 45) 24 38 (.agg #[(.string ⟨#[]⟩), (.int .i64 0), (.slice none 0 0)]) 48 rfl Tryd.underlying24 info38 rfl (by decide) (by omega) u7 x7_1 (⟨(rd_T38 t376 x8_1).f0, (rd_T38 t376 x8_1).f1, (rd_T38 t376 x8_1).f2⟩ : S38) [.string ((rd_T38 t376 x8_1).f0), .int .i64 ((rd_T38 t376 x8_1).f1), .slice A406_2 ((rd_T38 t376 x8_1).f2).length c406_2] (fun k_ => (w.heap.size ≤ k_) ∧ some k_ ≠ (.slice (some ad406) t376.length co39 : Value).ownBlock ∧ some k_ ≠ (u6 : Value).ownBlock ∧ k_ ≠ g375) (fun k_ => ((fun k_ => (w.heap.size ≤ k_) ∧ some k_ ≠ (.slice (some ad406) t376.length co39 : Value).ownBlock ∧ some k_ ≠ (u6 : Value).ownBlock ∧ k_ ≠ g375)) k_ ∧ some k_ ≠ (u7 : Value).ownBlock) rfl rfl ?aP (fun _ hk => hk) ?aF ?aO ?aB ?aS ?aL ?_; (case aP => exact (k38_mkF _ _ (⟨(rd_T38 t376 x8_1).f0, (rd_T38 t376 x8_1).f1, (rd_T38 t376 x8_1).f2⟩ : S38) (Kd.V_reads' (Kd.V_mono (ok' := (fun k_ => ((fun k_ => (w.heap.size ≤ k_) ∧ some k_ ≠ (.slice (some ad406) t376.length co39 : Value).ownBlock ∧ some k_ ≠ (u6 : Value).ownBlock ∧ k_ ≠ g375)) k_ ∧ some k_ ≠ (u7 : Value).ownBlock)) (HL406_2.out) (fun k_ hk => ⟨⟨hk.1.1, ⟨hk.2, ⟨hk.1.2.1, hk.1.2.2.2⟩⟩⟩, hk.1.2.2.1⟩))).2.1 (Kd.V_F (Kd.V_mono (ok' := (fun k_ => ((fun k_ => (w.heap.size ≤ k_) ∧ some k_ ≠ (.slice (some ad406) t376.length co39 : Value).ownBlock ∧ some k_ ≠ (u6 : Value).ownBlock ∧ k_ ≠ g375)) k_ ∧ some k_ ≠ (u7 : Value).ownBlock)) (HL406_2.out) (fun k_ hk => ⟨⟨hk.1.1, ⟨hk.2, ⟨hk.1.2.1, hk.1.2.2.2⟩⟩⟩, hk.1.2.2.1⟩))))); (case aB => exact (by repeat (first | (with_reducible first | exact HB.out | apply below_alloc | apply pw_below_drewN | apply below_drew1 | refine below_set ?_ (IsS112.ge HI375.out)) | exact HB.out))); (case aF => exact (fun k_ hk => ⟨(Nat.le_trans (below_size (by repeat (first | (with_reducible first | exact HB.out | apply below_alloc | apply pw_below_drewN | apply below_drew1 | refine below_set ?_ (IsS112.ge HI375.out)) | exact HB.out))) hk), Kd.fresh' (Kd.N_lt (by (with_reducible repeat (first | apply Kd.N_alloc | apply Kd.N_drewN | apply Kd.N_drew)); exact HO_5.out)) k_ hk, Kd.fresh' (Kd.N_lt (by (with_reducible repeat (first | apply Kd.N_alloc | apply Kd.N_drewN | apply Kd.N_drew)); exact HO_6.out)) k_ hk, IsS112.fresh (by repeat (first | (with_reducible first | exact HI375.out | apply IsS112.alloc | apply IsS112.drewN | apply IsS112.drew | apply IsS112.set_1) | exact HI375.out)) k_ hk⟩)); (case aO => exact (by (with_reducible repeat (first | apply Kd.N_alloc | apply Kd.N_drewN | apply Kd.N_drew)); exact HO_7.out)); (case aS => exact (below_size (by repeat (first | (with_reducible first | exact HB.out | apply below_alloc | apply pw_below_drewN | apply below_drew1 | refine below_set ?_ (IsS112.ge HI375.out)) | exact HB.out)))); (case aL => have := LMc38.out; omega); intro v408 w42 ho hb hg hat; rw [← Ny407.out] at ho; have n0_ := Aside0.mk (Kd.N_afterv (ok := (fun k_ => (w.heap.size ≤ k_) ∧ some k_ ≠ (u6 : Value).ownBlock ∧ k_ ≠ g375)) (by (with_reducible repeat (first | apply Kd.N_alloc | apply Kd.N_drewN | apply Kd.N_drew)); exact Kd.N_mono HO_5.out (fun _ hk => ⟨⟨hk.1, ⟨hk.2.1, hk.2.2.2⟩⟩, hk.2.2.1⟩)) hg hat); have n1_ := Aside0.mk (Kd.N_afterv (ok := (fun k_ => (w.heap.size ≤ k_) ∧ some k_ ≠ (.slice (some ad406) t376.length co39 : Value).ownBlock ∧ k_ ≠ g375)) (by (with_reducible repeat (first | apply Kd.N_alloc | apply Kd.N_drewN | apply Kd.N_drew)); exact Kd.N_mono HO_6.out (fun _ hk => ⟨⟨hk.1, ⟨hk.2.1, hk.2.2.2⟩⟩, hk.2.2.1⟩)) hg hat); have n2_ := Aside0.mk (IsS112.grown (by repeat (first | (with_reducible first | exact HI375.out | apply IsS112.alloc | apply IsS112.drewN | apply IsS112.drew | apply IsS112.set_1) | exact HI375.out)) hg (IsS112.own_neN HI375.out HO_7.out (by decide))); have n3_ := Aside0.mk (Kd.V_afterv (ok := (fun k_ => (w.heap.size ≤ k_) ∧ some k_ ≠ (.slice (some ad406) t376.length co39 : Value).ownBlock ∧ some k_ ≠ (u6 : Value).ownBlock ∧ k_ ≠ g375)) (by (with_reducible repeat (first | apply Kd.V_alloc | apply Kd.V_drewN | apply Kd.V_drew)); exact Kd.V_mono HL406_2.out (fun _ hk => ⟨⟨hk.1.1, ⟨hk.2, ⟨hk.1.2.1, hk.1.2.2.2⟩⟩⟩, hk.1.2.2.1⟩)) hg hat); have n4_ := Aside0.mk (hb); have n5_ := Aside0.mk (ho); clear HO_5; clear HO_6; clear HI375; clear HL406_2; clear HB; clear HO_7; have HO_5 := n0_; have HO_6 := n1_; have HI375 := n2_; have HL406_2 := n3_; have HB := n4_; have HO409 := n5_; clear n0_ n1_ n2_ n3_ n4_ n5_; clear ho hb hg hat))
         go_roundg k1
         case measure => have := HK1.out; omega
         case rel => exact ⟨(x6_1), (y407), (wrap64 (x8_1 + 1)), (t405), (by first | rfl | (simp; done) | (simp [*]; done)), H', ⟨by have := HK1.out; omega⟩, ⟨by (with_reducible repeat (first | apply Kd.N_alloc | apply Kd.N_drewN | apply Kd.N_drew)); exact Kd.N_mono HO_5.out (fun _ hk => ⟨hk.1.1, ⟨hk.1.2.1, ⟨hk.2, hk.1.2.2⟩⟩⟩)⟩, ⟨by (with_reducible repeat (first | apply Kd.N_alloc | apply Kd.N_drewN | apply Kd.N_drew)); exact Kd.N_mono HO_6.out (fun _ hk => ⟨hk.1.1, ⟨hk.1.2.1, ⟨hk.2, hk.1.2.2⟩⟩⟩)⟩, ⟨by (with_reducible repeat (first | apply Kd.N_alloc | apply Kd.N_drewN | apply Kd.N_drew)); exact HO409.out⟩, ⟨by repeat (first | (with_reducible first | exact HI375.out | apply IsS112.alloc | apply IsS112.drewN | apply IsS112.drew | apply IsS112.set_1) | exact HI375.out)⟩, ⟨by repeat (first | (with_reducible first | exact HB.out | apply below_alloc | apply pw_below_drewN | apply below_drew1 | refine below_set ?_ (IsS112.ge HI375.out)) | exact HB.out)⟩⟩
        ·
         rw [if_neg c38] at H; exact absurd H (by simp)
       ·
        rw [if_neg c37] at H; exact absurd H (by simp)
      ·
       rw [if_neg c36] at H; have c36b0 : decide (0 < t404) = false := decide_eq_false c36; clear c36; have H' := Aside0.mk H; clear H; obtain ⟨Ao43, co43, eo43⟩ := Kd.N_slice HO_5.out; subst eo43; go_wp2_with (first | ((with_reducible refine gate_callee (f := 63) rfl ?_); refine goesL_ (some 28) rfl rfl Tryd.func63 (by kernel_rfl) rfl #[.pointer (some ⟨g375, 0, none⟩), .int .i64 3] rfl (by (try simp only [List.map_toArray, List.map_cons, List.map_nil]); first | done | rfl | (simp only [List.length_drop, List.length_take]; rfl)) ?_; (with_reducible refine (spec_l6Rd_pick.calls k1 g375 t373 x376001_1 3 t392 t393 w _ ?side1 ?side2 A19.out).mono ?_); (case side1 => repeat (first | (with_reducible first | exact HI375.out | apply IsS112.alloc | apply IsS112.drewN | apply IsS112.drew | apply IsS112.set_1) | exact HI375.out)); (case side2 => repeat (first | (with_reducible first | exact HB.out | apply below_alloc | apply pw_below_drewN | apply below_drew1 | refine below_set ?_ (IsS112.ge HI375.out)) | exact HB.out)); rintro e w44 ⟨rfl, hi, hb, hk⟩; refine ⟨_, rfl, ?_⟩; have n0_ := Aside0.mk (Kd.N_mono (Kd.N_keep (Kd.N_mono (ok := fun k_ => (((w.heap.size ≤ k_)) ∧ (some k_ ≠ (u6 : Value).ownBlock ∧ (some k_ ≠ (u7 : Value).ownBlock ∧ k_ ≠ g375)))) (by (with_reducible repeat (first | apply Kd.N_alloc | apply Kd.N_drewN | apply Kd.N_drew)); exact HO_5.out) (fun k_ hk_ => (⟨hk_, hk_.2.2.2⟩ : _ ∧ k_ ≠ g375))) hk (fun _ h => h.2)) (fun _ h => h.1)); have n1_ := Aside0.mk (Kd.N_mono (Kd.N_keep (Kd.N_mono (ok := fun k_ => (((w.heap.size ≤ k_)) ∧ (some k_ ≠ (.slice Ao43 t376.length co43 : Value).ownBlock ∧ (some k_ ≠ (u7 : Value).ownBlock ∧ k_ ≠ g375)))) (by (with_reducible repeat (first | apply Kd.N_alloc | apply Kd.N_drewN | apply Kd.N_drew)); exact HO_6.out) (fun k_ hk_ => (⟨hk_, hk_.2.2.2⟩ : _ ∧ k_ ≠ g375))) hk (fun _ h => h.2)) (fun _ h => h.1)); have n2_ := Aside0.mk (Kd.N_mono (Kd.N_keep (Kd.N_mono (ok := fun k_ => (((w.heap.size ≤ k_)) ∧ (some k_ ≠ (.slice Ao43 t376.length co43 : Value).ownBlock ∧ (some k_ ≠ (u6 : Value).ownBlock ∧ k_ ≠ g375)))) (by (with_reducible repeat (first | apply Kd.N_alloc | apply Kd.N_drewN | apply Kd.N_drew)); exact HO_7.out) (fun k_ hk_ => (⟨hk_, hk_.2.2.2⟩ : _ ∧ k_ ≠ g375))) hk (fun _ h => h.2)) (fun _ h => h.1)); have n3_ := Aside0.mk (hb); have n4_ := Aside0.mk (hi); clear HO_5; clear HO_6; clear HO_7; clear HB; clear HI375; have HO_5 := n0_; have HO_6 := n1_; have HO_7 := n2_; have HB := n3_; have HI375 := n4_; clear n0_ n1_ n2_ n3_ n4_; (try clear hb); (try clear hb2); (try clear hk); (try clear hi)) | ((with_reducible refine gate_callee (f := 63) rfl ?_); refine goesL_ (some 38) rfl rfl Tryd.func63 (by kernel_rfl) rfl #[.pointer (some ⟨g375, 0, none⟩), .int .i64 3] rfl (by (try simp only [List.map_toArray, List.map_cons, List.map_nil]); first | done | rfl | (simp only [List.length_drop, List.length_take]; rfl)) ?_; (with_reducible refine (spec_l6Rd_pick.calls k1 g375 t373 t393 3 t404 t405 w _ ?side1 ?side2 A35.out).mono ?_); (case side1 => repeat (first | (with_reducible first | exact HI375.out | apply IsS112.alloc | apply IsS112.drewN | apply IsS112.drew | apply IsS112.set_1) | exact HI375.out)); (case side2 => repeat (first | (with_reducible first | exact HB.out | apply below_alloc | apply pw_below_drewN | apply below_drew1 | refine below_set ?_ (IsS112.ge HI375.out)) | exact HB.out)); rintro e w45 ⟨rfl, hi, hb, hk⟩; refine ⟨_, rfl, ?_⟩; have n0_ := Aside0.mk (Kd.N_mono (Kd.N_keep (Kd.N_mono (ok := fun k_ => (((w.heap.size ≤ k_)) ∧ (some k_ ≠ (u6 : Value).ownBlock ∧ (some k_ ≠ (u7 : Value).ownBlock ∧ k_ ≠ g375)))) (by (with_reducible repeat (first | apply Kd.N_alloc | apply Kd.N_drewN | apply Kd.N_drew)); exact HO_5.out) (fun k_ hk_ => (⟨hk_, hk_.2.2.2⟩ : _ ∧ k_ ≠ g375))) hk (fun _ h => h.2)) (fun _ h => h.1)); have n1_ := Aside0.mk (Kd.N_mono (Kd.N_keep (Kd.N_mono (ok := fun k_ => (((w.heap.size ≤ k_)) ∧ (some k_ ≠ (.slice Ao43 t376.length co43 : Value).ownBlock ∧ (some k_ ≠ (u7 : Value).ownBlock ∧ k_ ≠ g375)))) (by (with_reducible repeat (first | apply Kd.N_alloc | apply Kd.N_drewN | apply Kd.N_drew)); exact HO_6.out) (fun k_ hk_ => (⟨hk_, hk_.2.2.2⟩ : _ ∧ k_ ≠ g375))) hk (fun _ h => h.2)) (fun _ h => h.1)); have n2_ := Aside0.mk (Kd.N_mono (Kd.N_keep (Kd.N_mono (ok := fun k_ => (((w.heap.size ≤ k_)) ∧ (some k_ ≠ (.slice Ao43 t376.length co43 : Value).ownBlock ∧ (some k_ ≠ (u6 : Value).ownBlock ∧ k_ ≠ g375)))) (by (with_reducible repeat (first | apply Kd.N_alloc | apply Kd.N_drewN | apply Kd.N_drew)); exact HO_7.out) (fun k_ hk_ => (⟨hk_, hk_.2.2.2⟩ : _ ∧ k_ ≠ g375))) hk (fun _ h => h.2)) (fun _ h => h.1)); have n3_ := Aside0.mk (hb); have n4_ := Aside0.mk (hi); clear HO_5; clear HO_6; clear HO_7; clear HB; clear HI375; have HO_5 := n0_; have HO_6 := n1_; have HO_7 := n2_; have HB := n3_; have HI375 := n4_; clear n0_ n1_ n2_ n3_ n4_; (try clear hb); (try clear hb2); (try clear hk); (try clear hi)))
       go_roundg k1
       case measure => have := HK1.out; omega
       case rel => exact ⟨(x6_1), (x7_1), (wrap64 (x8_1 + 1)), (t405), (by first | rfl | (simp; done) | (simp [*]; done)), H', ⟨by have := HK1.out; omega⟩, ⟨by (with_reducible repeat (first | apply Kd.N_alloc | apply Kd.N_drewN | apply Kd.N_drew)); exact HO_5.out⟩, ⟨by (with_reducible repeat (first | apply Kd.N_alloc | apply Kd.N_drewN | apply Kd.N_drew)); exact HO_6.out⟩, ⟨by (with_reducible repeat (first | apply Kd.N_alloc | apply Kd.N_drewN | apply Kd.N_drew)); exact HO_7.out⟩, ⟨by repeat (first | (with_reducible first | exact HI375.out | apply IsS112.alloc | apply IsS112.drewN | apply IsS112.drew | apply IsS112.set_1) | exact HI375.out)⟩, ⟨by repeat (first | (with_reducible first | exact HB.out | apply below_alloc | apply pw_below_drewN | apply below_drew1 | refine below_set ?_ (IsS112.ge HI375.out)) | exact HB.out)⟩⟩
    ·
     rw [if_neg c18] at H; have c18b0 : decide (x8_1 < (t376.length : Int)) = false := decide_eq_false c18; clear c18; simp only [Option.some.injEq, Prod.mk.injEq] at H; obtain ⟨rfl, rfl⟩ := H; obtain ⟨Ao46, co46, eo46⟩ := Kd.N_slice HO_5.out; subst eo46; go_wp2; go_ret2
     exact ⟨_, _, by first | rfl | (simp [errW_none, errW_some] <;> rfl) | (simp [*, errW_none, errW_some] <;> rfl), by (with_reducible repeat (first | apply Kd.N_alloc | apply Kd.N_drewN | apply Kd.N_drew)); exact Kd.N_mono HO_6.out (fun _ hk => ⟨hk.1, hk.2.2.1⟩), by (with_reducible repeat (first | apply Kd.N_alloc | apply Kd.N_drewN | apply Kd.N_drew)); exact Kd.N_mono HO_7.out (fun _ hk => ⟨hk.1, hk.2.2.1⟩), by repeat (first | (with_reducible first | exact HB.out | apply below_alloc | apply pw_below_drewN | apply below_drew1 | refine below_set ?_ (IsS112.ge HI375.out)) | exact HB.out)⟩

end Go.Proofs.YtmacedbpdhkagaaDoor.PFnTonaryJoin
namespace Go.Proofs.YtmacedbpdhkagaaDoor.PFnTonaryJoin
open Go.RowKit Go.Proofs.YtmacedbpdhkagaaDoorW.PrintWords Go.Proofs.YtmacedbpdhkagaaDoorW.PrintLast Go.Proofs.YtmacedbpdhkagaaDoorW.PrintMore Go.Proofs.YtmacedbpdhkagaaDoor.Pure
attribute [local go_sem] max2_int min2_int max_two min_two max_three min_three max_four min_four   -- for this text's walks alone
set_option linter.unusedVariables false
set_option linter.unusedSimpArgs false

mutual
def laws_FnTonaryJoin.j0 : Nat → List (S38) → List (S38) → List (S38) → Bool → List (S38) → Bool → Bool → Option (Bool)
 | 0, _, _, _, _, _, _, _ => none
 | k + 1, x3, x4, x5, x6, x7, x8, x49 => if x49 = true then (if (x6 == x8) = true then ((laws_sameEntries.f k x5 x7).bind fun t425 => (some t425)) else (some false)) else ((impl_TonaryJoin.f x4 x3).bind fun bt426 => ((impl_TonaryJoin.f x5 x4).bind fun bt430 => (laws_FnTonaryJoin.l0 k x4 x5 bt426.1 bt426.2 bt430.1 bt430.2 x3 0)))
def laws_FnTonaryJoin.l0 : Nat → List (S38) → List (S38) → List (S38) → Bool → List (S38) → Bool → List (S38) → Int → Option (Bool)
 | 0, _, _, _, _, _, _, _, _ => none
 | k + 1, x4, x5, x9, x10, x11, x12, x13, x14 => if x14 < (x4.length : Int) then (if 0 ≤ x14 then ((impl_TonaryAdd.f x13 ((rd_T38 x4 x14).f0) ((rd_T38 x4 x14).f1) ((rd_T38 x4 x14).f2)).bind fun bt435 => (if bt435.2 = true then (laws_FnTonaryJoin.l0 k x4 x5 x9 x10 x11 x12 bt435.1 (wrap64 (x14 + 1))) else (laws_FnTonaryJoin.l0 k x4 x5 x9 x10 x11 x12 x13 (wrap64 (x14 + 1))))) else (none)) else (if x10 = true then (if x12 = true then ((laws_sameEntries.f k x9 x5).bind fun t439 => (if t439 = true then ((laws_sameEntries.f k x11 x5).bind fun t440 => (if t440 = true then ((laws_sameEntries.f k x13 x5).bind fun t441 => (if t441 = true then ((impl_TonaryValid.f x5).bind fun t442 => (some t442)) else (some false))) else (some false))) else (some false))) else (some false)) else (some false))
end
def laws_FnTonaryJoin.f (k : Nat) (l0 : List Int) : Option (Bool) := if (l0.length : Int) > 1048576 then (some true) else ((spec_DrawTonaryJoin.f k l0).bind fun bt410 => ((impl_TonaryJoin.f bt410.1 bt410.2).bind fun bt416 => ((spec_TonaryJoin.f k bt410.1 bt410.2).bind fun bt420 => (if (bt416.2 != bt420.2) = true then (laws_FnTonaryJoin.j0 k bt410.1 bt410.2 bt416.1 bt416.2 bt420.1 bt420.2 true) else ((laws_sameEntries.f k bt416.1 bt420.1).bind fun t424 => (if t424 = true then (laws_FnTonaryJoin.j0 k bt410.1 bt410.2 bt416.1 bt416.2 bt420.1 bt420.2 (!bt416.2)) else (laws_FnTonaryJoin.j0 k bt410.1 bt410.2 bt416.1 bt416.2 bt420.1 bt420.2 true)))))))
set_option maxHeartbeats 8000000 in
set_option maxRecDepth 100000 in
theorem laws_FnTonaryJoin.calls (k : Nat) (A0 : Option Addr) (c0 : Nat) (l0 : List Int) (r : Bool) (w : World) (ht : MTab w) (hr0 : Kd.C (Kd.int .u8) w A0 l0.length l0) (hc0 : l0.length ≤ c0) (hr : r = true) (h : laws_FnTonaryJoin.f k l0 = some r) :
 Calls Tryd.prog 12 #[.slice A0 l0.length c0] w fun e w' => e = .returned (.bool r) ∧ Below w.heap.size w w' := by
 have HRR := Aside0.mk hr; clear hr; have HT := Aside0.mk ht; clear ht; have hu38 := Tryd.underlying38; have HR0 := Aside0.mk hr0; have HC0 := Aside0.mk hc0; clear hr0 hc0; have HB := Aside0.mk (Below.refl w.heap.size w); have H : (if (l0.length : Int) > 1048576 then (some true) else ((spec_DrawTonaryJoin.f k l0).bind fun bt410 => ((impl_TonaryJoin.f bt410.1 bt410.2).bind fun bt416 => ((spec_TonaryJoin.f k bt410.1 bt410.2).bind fun bt420 => (if (bt416.2 != bt420.2) = true then (laws_FnTonaryJoin.j0 k bt410.1 bt410.2 bt416.1 bt416.2 bt420.1 bt420.2 true) else ((laws_sameEntries.f k bt416.1 bt420.1).bind fun t424 => (if t424 = true then (laws_FnTonaryJoin.j0 k bt410.1 bt410.2 bt416.1 bt416.2 bt420.1 bt420.2 (!bt416.2)) else (laws_FnTonaryJoin.j0 k bt410.1 bt410.2 bt416.1 bt416.2 bt420.1 bt420.2 true)))))))) = some r := h; clear h; by_cases c2 : (l0.length : Int) > 1048576
 ·
  rw [if_pos c2] at H; have c2b0 : decide (1048576 < (l0.length : Int)) = true := decide_eq_true c2; have c2b1 : decide (1048576 < l0.length) = true := decide_eq_true (by omega); clear c2; obtain rfl := Option.some.inj H; go_enter Tryd.func12, Tryd.ntmps12
  go_wp2; go_ret
  exact ⟨by first | rfl | (simp [errW_none, errW_some] <;> rfl) | (simp [*, errW_none, errW_some] <;> rfl), by repeat (first | (with_reducible first | exact HB.out | apply below_alloc | apply pw_below_drewN | apply below_drew1) | exact HB.out)⟩
 ·
  rw [if_neg c2] at H; have c2b0 : decide (1048576 < (l0.length : Int)) = false := decide_eq_false c2; have c2b1 : decide (1048576 < l0.length) = false := decide_eq_false (by omega); clear c2; replace H := Option.bind_eq_some_iff.mp H; obtain ⟨⟨t410, t413⟩, A30, H⟩ := H; replace H : ((impl_TonaryJoin.f t410 t413).bind fun bt416 => ((spec_TonaryJoin.f k t410 t413).bind fun bt420 => (if (bt416.2 != bt420.2) = true then (laws_FnTonaryJoin.j0 k t410 t413 bt416.1 bt416.2 bt420.1 bt420.2 true) else ((laws_sameEntries.f k bt416.1 bt420.1).bind fun t424 => (if t424 = true then (laws_FnTonaryJoin.j0 k t410 t413 bt416.1 bt416.2 bt420.1 bt420.2 (!bt416.2)) else (laws_FnTonaryJoin.j0 k t410 t413 bt416.1 bt416.2 bt420.1 bt420.2 true)))))) = some r := H; have A3 := Aside0.mk A30; clear A30; replace H := Option.bind_eq_some_iff.mp H; obtain ⟨⟨t416, t417⟩, A40, H⟩ := H; replace H : ((spec_TonaryJoin.f k t410 t413).bind fun bt420 => (if (t417 != bt420.2) = true then (laws_FnTonaryJoin.j0 k t410 t413 t416 t417 bt420.1 bt420.2 true) else ((laws_sameEntries.f k t416 bt420.1).bind fun t424 => (if t424 = true then (laws_FnTonaryJoin.j0 k t410 t413 t416 t417 bt420.1 bt420.2 (!t417)) else (laws_FnTonaryJoin.j0 k t410 t413 t416 t417 bt420.1 bt420.2 true))))) = some r := H; have A4 := Aside0.mk A40; clear A40; replace H := Option.bind_eq_some_iff.mp H; obtain ⟨⟨t420, t421⟩, A50, H⟩ := H; replace H : (if (t417 != t421) = true then (laws_FnTonaryJoin.j0 k t410 t413 t416 t417 t420 t421 true) else ((laws_sameEntries.f k t416 t420).bind fun t424 => (if t424 = true then (laws_FnTonaryJoin.j0 k t410 t413 t416 t417 t420 t421 (!t417)) else (laws_FnTonaryJoin.j0 k t410 t413 t416 t417 t420 t421 true)))) = some r := H; have A5 := Aside0.mk A50; clear A50; have HC6 := Aside0.mk H; clear H; go_enter Tryd.func12, Tryd.ntmps12
  go_upto_region 6 with (first | ((with_reducible refine gate_callee (f := 48) rfl ?_); refine goesL_ (some 22) rfl rfl Tryd.func48 (by kernel_rfl) rfl #[.slice A0 l0.length c0] rfl (by (try simp only [List.map_toArray, List.map_cons, List.map_nil]); first | done | rfl | (simp only [List.length_drop, List.length_take]; rfl)) ?_; (with_reducible refine (spec_DrawTonaryJoin.calls k _ _ l0 t410 t413 _ ?side1 ?side2 A3.out).mono ?_); (case side1 => repeat (first | exact HR0.out | (with_reducible refine Kd.C_alloc ?_ _) | (with_reducible refine Kd.C_drewN ?_ _) | (with_reducible refine Kd.C_drew ?_))); (case side2 => exact HC0.out); rintro e w7 ⟨v411, v414, rfl, ho0, ho1, hb⟩; refine ⟨_, rfl, ?_⟩; have n0_ := Aside0.mk (Kd.N_lower (Kd.N_mono (ok' := fun k_ => some k_ ≠ (v414 : Value).ownBlock) ho0 (fun k_ hk_ => hk_.2)) (below_size (by repeat (first | (with_reducible first | exact HB.out | apply below_alloc | apply pw_below_drewN | apply below_drew1) | exact HB.out)))); have n1_ := Aside0.mk (Kd.N_lower (Kd.N_mono (ok' := fun k_ => some k_ ≠ (v411 : Value).ownBlock) ho1 (fun k_ hk_ => hk_.2)) (below_size (by repeat (first | (with_reducible first | exact HB.out | apply below_alloc | apply pw_below_drewN | apply below_drew1) | exact HB.out)))); have n2_ := Aside0.mk (below_step (by repeat (first | (with_reducible first | exact HB.out | apply below_alloc | apply pw_below_drewN | apply below_drew1) | exact HB.out)) hb); clear HB; have HO412 := n0_; have HO415 := n1_; have HB := n2_; clear n0_ n1_ n2_; (try clear hb); (try clear hb2); (try clear hk); (try clear hi); (try clear ho0); (try clear ho1); obtain ⟨Ao8, co8, eo8⟩ := Kd.N_slice HO412.out; subst eo8; obtain ⟨Ao9, co9, eo9⟩ := Kd.N_slice HO415.out; subst eo9) | ((with_reducible refine gate_callee (f := 16) rfl ?_); refine goesL_ (some 28) rfl rfl Tryd.func16 (by kernel_rfl) rfl #[.slice Ao8 t410.length co8, .slice Ao9 t413.length co9] rfl (by (try simp only [List.map_toArray, List.map_cons, List.map_nil]); first | done | rfl | (simp only [List.length_drop, List.length_take]; rfl)) ?_; (with_reducible refine (impl_TonaryJoin.calls _ _ t410 _ _ t413 t416 t417 _ ?side1 ?side2 ?side3 ?side4 A4.out (ht := HT.out.below (by repeat (first | (with_reducible first | exact HB.out | apply below_alloc | apply pw_below_drewN | apply below_drew1) | exact HB.out)))).mono ?_); (case side1 => repeat (first | exact (Kd.N_reads' HO412.out).2.2 | (with_reducible refine Kd.C_alloc ?_ _) | (with_reducible refine Kd.C_drewN ?_ _) | (with_reducible refine Kd.C_drew ?_))); (case side2 => exact (Kd.N_reads' HO412.out).2.1); (case side3 => repeat (first | exact (Kd.N_reads' HO415.out).2.2 | (with_reducible refine Kd.C_alloc ?_ _) | (with_reducible refine Kd.C_drewN ?_ _) | (with_reducible refine Kd.C_drew ?_))); (case side4 => exact (Kd.N_reads' HO415.out).2.1); rintro e w10 ⟨v418, rfl, ho0, hb⟩; refine ⟨_, rfl, ?_⟩; have n0_ := Aside0.mk (Kd.N_elder' (by (with_reducible repeat (first | apply Kd.N_alloc | apply Kd.N_drewN | apply Kd.N_drew)); exact HO412.out) (by first | exact Kd.N_base ho0 | exact Kd.N_base (Kd.S_N ho0) | exact Kd.N_base (Kd.S_N (Kd.S_bound ho0))) hb); have n1_ := Aside0.mk (Kd.N_elder' (by (with_reducible repeat (first | apply Kd.N_alloc | apply Kd.N_drewN | apply Kd.N_drew)); exact HO415.out) (by first | exact Kd.N_base ho0 | exact Kd.N_base (Kd.S_N ho0) | exact Kd.N_base (Kd.S_N (Kd.S_bound ho0))) hb); have n2_ := Aside0.mk (Kd.N_lower (Kd.N_mono (ok' := fun k_ => some k_ ≠ (.slice Ao8 t410.length co8 : Value).ownBlock ∧ some k_ ≠ (.slice Ao9 t413.length co9 : Value).ownBlock) (Kd.S_N (Kd.S_bound ho0)) (fun k_ hk_ => ⟨(Kd.fresh' (Kd.N_lt (by (with_reducible repeat (first | apply Kd.N_alloc | apply Kd.N_drewN | apply Kd.N_drew)); exact HO412.out)) k_ hk_.2.1), (Kd.fresh' (Kd.N_lt (by (with_reducible repeat (first | apply Kd.N_alloc | apply Kd.N_drewN | apply Kd.N_drew)); exact HO415.out)) k_ hk_.2.1)⟩)) (below_size (by repeat (first | (with_reducible first | exact HB.out | apply below_alloc | apply pw_below_drewN | apply below_drew1) | exact HB.out)))); have n3_ := Aside0.mk (below_step (by repeat (first | (with_reducible first | exact HB.out | apply below_alloc | apply pw_below_drewN | apply below_drew1) | exact HB.out)) hb); clear HO412; clear HO415; clear HB; have HO412 := n0_; have HO415 := n1_; have HO419 := n2_; have HB := n3_; clear n0_ n1_ n2_ n3_; (try clear hb); (try clear hb2); (try clear hk); (try clear hi); (try clear ho0)) | ((with_reducible refine gate_callee (f := 14) rfl ?_); refine goesL_ (some 34) rfl rfl Tryd.func14 (by kernel_rfl) rfl #[.slice Ao8 t410.length co8, .slice Ao9 t413.length co9] rfl (by (try simp only [List.map_toArray, List.map_cons, List.map_nil]); first | done | rfl | (simp only [List.length_drop, List.length_take]; rfl)) ?_; (with_reducible refine (spec_TonaryJoin.calls k _ _ t410 _ _ t413 t420 t421 _ ?side1 ?side2 ?side3 ?side4 A5.out).mono ?_); (case side1 => repeat (first | exact (Kd.N_reads' HO412.out).2.2 | (with_reducible refine Kd.C_alloc ?_ _) | (with_reducible refine Kd.C_drewN ?_ _) | (with_reducible refine Kd.C_drew ?_))); (case side2 => exact (Kd.N_reads' HO412.out).2.1); (case side3 => repeat (first | exact (Kd.N_reads' HO415.out).2.2 | (with_reducible refine Kd.C_alloc ?_ _) | (with_reducible refine Kd.C_drewN ?_ _) | (with_reducible refine Kd.C_drew ?_))); (case side4 => exact (Kd.N_reads' HO415.out).2.1); rintro e w11 ⟨v422, rfl, ho0, hb⟩; refine ⟨_, rfl, ?_⟩; have n0_ := Aside0.mk (Kd.N_elder' (by (with_reducible repeat (first | apply Kd.N_alloc | apply Kd.N_drewN | apply Kd.N_drew)); exact HO412.out) (by first | exact Kd.N_base ho0 | exact Kd.N_base (Kd.S_N ho0) | exact Kd.N_base (Kd.S_N (Kd.S_bound ho0))) hb); have n1_ := Aside0.mk (Kd.N_elder' (by (with_reducible repeat (first | apply Kd.N_alloc | apply Kd.N_drewN | apply Kd.N_drew)); exact HO415.out) (by first | exact Kd.N_base ho0 | exact Kd.N_base (Kd.S_N ho0) | exact Kd.N_base (Kd.S_N (Kd.S_bound ho0))) hb); have n2_ := Aside0.mk (Kd.N_elder' (by (with_reducible repeat (first | apply Kd.N_alloc | apply Kd.N_drewN | apply Kd.N_drew)); exact HO419.out) (by first | exact Kd.N_base ho0 | exact Kd.N_base (Kd.S_N ho0) | exact Kd.N_base (Kd.S_N (Kd.S_bound ho0))) hb); have n3_ := Aside0.mk (Kd.N_lower (Kd.N_mono (ok' := fun k_ => some k_ ≠ (.slice Ao8 t410.length co8 : Value).ownBlock ∧ some k_ ≠ (.slice Ao9 t413.length co9 : Value).ownBlock ∧ some k_ ≠ (v418 : Value).ownBlock) (Kd.S_N (Kd.S_bound ho0)) (fun k_ hk_ => ⟨(Kd.fresh' (Kd.N_lt (by (with_reducible repeat (first | apply Kd.N_alloc | apply Kd.N_drewN | apply Kd.N_drew)); exact HO412.out)) k_ hk_.2.1), (Kd.fresh' (Kd.N_lt (by (with_reducible repeat (first | apply Kd.N_alloc | apply Kd.N_drewN | apply Kd.N_drew)); exact HO415.out)) k_ hk_.2.1), (Kd.fresh' (Kd.N_lt (by (with_reducible repeat (first | apply Kd.N_alloc | apply Kd.N_drewN | apply Kd.N_drew)); exact HO419.out)) k_ hk_.2.1)⟩)) (below_size (by repeat (first | (with_reducible first | exact HB.out | apply below_alloc | apply pw_below_drewN | apply below_drew1) | exact HB.out)))); have n4_ := Aside0.mk (below_step (by repeat (first | (with_reducible first | exact HB.out | apply below_alloc | apply pw_below_drewN | apply below_drew1) | exact HB.out)) hb); clear HO412; clear HO415; clear HO419; clear HB; have HO412 := n0_; have HO415 := n1_; have HO419 := n2_; have HO423 := n3_; have HB := n4_; clear n0_ n1_ n2_ n3_ n4_; (try clear hb); (try clear hb2); (try clear hk); (try clear hi); (try clear ho0)))
  (try simp only [Act.put, List.setIfInBounds_toArray, List.set_cons_zero, List.set_cons_succ])
  go_cut [49] (fun v49 wc => ∃ (kq : Nat) (x49_5 : Bool), v49 = .bool x49_5 ∧ Aside0 (laws_FnTonaryJoin.j0 kq t410 t413 t416 t417 t420 t421 x49_5 = some r) ∧ Aside0 (kq ≤ k) ∧ Aside0 (Kd.N k38 38 wc w.heap.size (fun k_ => some k_ ≠ ((.slice Ao9 t413.length co9) : Value).ownBlock ∧ some k_ ≠ (v418 : Value).ownBlock ∧ some k_ ≠ (v422 : Value).ownBlock) (.slice Ao8 t410.length co8) t410) ∧ Aside0 (Kd.N k38 38 wc w.heap.size (fun k_ => some k_ ≠ ((.slice Ao8 t410.length co8) : Value).ownBlock ∧ some k_ ≠ (v418 : Value).ownBlock ∧ some k_ ≠ (v422 : Value).ownBlock) (.slice Ao9 t413.length co9) t413) ∧ Aside0 (Kd.N k38 38 wc w.heap.size (fun k_ => some k_ ≠ ((.slice Ao8 t410.length co8) : Value).ownBlock ∧ some k_ ≠ ((.slice Ao9 t413.length co9) : Value).ownBlock ∧ some k_ ≠ (v422 : Value).ownBlock) v418 t416) ∧ Aside0 (Kd.N k38 38 wc w.heap.size (fun k_ => some k_ ≠ ((.slice Ao8 t410.length co8) : Value).ownBlock ∧ some k_ ≠ ((.slice Ao9 t413.length co9) : Value).ownBlock ∧ some k_ ≠ (v418 : Value).ownBlock) v422 t420) ∧ Aside0 (Below w.heap.size w wc))
  case first =>
   have H := HC6.out; clear HC6; by_cases c12 : (t417 != t421) = true
   ·
    rw [if_pos c12] at H; have c12b0 : (t417 != t421) = true := c12; (try (have c12b1 : decide (t417 = t421) = false := by simpa using c12))
    (try (have c12b2 : (t417 == t421) = false := by simpa using c12))
    (try (have c12b3 : ¬ (t417 = t421) := by simpa using c12))
    clear c12; (first | rw [c12b0] | (simp only [i64_w, i32_w]; rw [c12b0]) | skip)
    have H' := Aside0.mk H; clear H; go_wp2; go_meet
    case rel => exact ⟨_, (true), (by first | rfl | (simp; done) | (simp [*]; done)), H', ⟨by first | omega | exact Nat.le_refl _⟩, ⟨by (with_reducible repeat (first | apply Kd.N_alloc | apply Kd.N_drewN | apply Kd.N_drew)); exact Kd.N_mono HO412.out (fun _ hk => ⟨hk.1.1, ⟨hk.1.2, hk.2⟩⟩)⟩, ⟨by (with_reducible repeat (first | apply Kd.N_alloc | apply Kd.N_drewN | apply Kd.N_drew)); exact Kd.N_mono HO415.out (fun _ hk => ⟨hk.1.1, ⟨hk.1.2, hk.2⟩⟩)⟩, ⟨by (with_reducible repeat (first | apply Kd.N_alloc | apply Kd.N_drewN | apply Kd.N_drew)); exact Kd.N_mono HO419.out (fun _ hk => ⟨hk.1.1, ⟨hk.1.2, hk.2⟩⟩)⟩, ⟨by (with_reducible repeat (first | apply Kd.N_alloc | apply Kd.N_drewN | apply Kd.N_drew)); exact HO423.out⟩, ⟨by repeat (first | (with_reducible first | exact HB.out | apply below_alloc | apply pw_below_drewN | apply below_drew1) | exact HB.out)⟩⟩
   ·
    rw [if_neg c12] at H; have c12b0 : (t417 != t421) = false := by simpa using c12
    (try (have c12b1 : decide (t417 = t421) = true := by simpa using c12))
    (try (have c12b2 : (t417 == t421) = true := by simpa using c12))
    clear c12; (first | rw [c12b0] | (simp only [i64_w, i32_w]; rw [c12b0]) | skip)
    replace H := Option.bind_eq_some_iff.mp H; obtain ⟨t424, A130, H⟩ := H; replace H : (if t424 = true then (laws_FnTonaryJoin.j0 k t410 t413 t416 t417 t420 t421 (!t417)) else (laws_FnTonaryJoin.j0 k t410 t413 t416 t417 t420 t421 true)) = some r := H; have A13 := Aside0.mk A130; clear A130; by_cases c14 : t424 = true
    ·
     subst c14; have H1 : (laws_FnTonaryJoin.j0 k t410 t413 t416 t417 t420 t421 (!t417)) = some r := by rw [if_pos rfl] at H; exact H
     clear H; have H := H1; clear H1; have H' := Aside0.mk H; clear H; obtain ⟨Ao15, co15, eo15⟩ := Kd.N_slice HO419.out; subst eo15; obtain ⟨Ao16, co16, eo16⟩ := Kd.N_slice HO423.out; subst eo16; go_wp2_with (first | (go_at_call 24; (with_reducible refine (laws_sameEntries.calls k _ _ t416 _ _ t420 true _ ?side1 ?side2 ?side3 ?side4 A13.out).mono ?_); (case side1 => repeat (first | exact (Kd.N_reads' HO419.out).2.2 | (with_reducible refine Kd.C_alloc ?_ _) | (with_reducible refine Kd.C_drewN ?_ _) | (with_reducible refine Kd.C_drew ?_))); (case side2 => exact (Kd.N_reads' HO419.out).2.1); (case side3 => repeat (first | exact (Kd.N_reads' HO423.out).2.2 | (with_reducible refine Kd.C_alloc ?_ _) | (with_reducible refine Kd.C_drewN ?_ _) | (with_reducible refine Kd.C_drew ?_))); (case side4 => exact (Kd.N_reads' HO423.out).2.1); rintro e w17 ⟨rfl, hb⟩; have n0_ := Aside0.mk (Kd.N_below (by (with_reducible repeat (first | apply Kd.N_alloc | apply Kd.N_drewN | apply Kd.N_drew)); exact HO412.out) hb); have n1_ := Aside0.mk (Kd.N_below (by (with_reducible repeat (first | apply Kd.N_alloc | apply Kd.N_drewN | apply Kd.N_drew)); exact HO415.out) hb); have n2_ := Aside0.mk (Kd.N_below (by (with_reducible repeat (first | apply Kd.N_alloc | apply Kd.N_drewN | apply Kd.N_drew)); exact HO419.out) hb); have n3_ := Aside0.mk (Kd.N_below (by (with_reducible repeat (first | apply Kd.N_alloc | apply Kd.N_drewN | apply Kd.N_drew)); exact HO423.out) hb); have n4_ := Aside0.mk (below_step (by repeat (first | (with_reducible first | exact HB.out | apply below_alloc | apply pw_below_drewN | apply below_drew1) | exact HB.out)) hb); clear HO412; clear HO415; clear HO419; clear HO423; clear HB; have HO412 := n0_; have HO415 := n1_; have HO419 := n2_; have HO423 := n3_; have HB := n4_; clear n0_ n1_ n2_ n3_ n4_; (try clear hb); (try clear hb2); (try clear hk); (try clear hi)))
     go_meet
     case rel => exact ⟨_, (!t417), (by first | rfl | (simp; done) | (simp [*]; done)), H', ⟨by first | omega | exact Nat.le_refl _⟩, ⟨by (with_reducible repeat (first | apply Kd.N_alloc | apply Kd.N_drewN | apply Kd.N_drew)); exact Kd.N_mono HO412.out (fun _ hk => ⟨hk.1.1, ⟨hk.1.2, hk.2⟩⟩)⟩, ⟨by (with_reducible repeat (first | apply Kd.N_alloc | apply Kd.N_drewN | apply Kd.N_drew)); exact Kd.N_mono HO415.out (fun _ hk => ⟨hk.1.1, ⟨hk.1.2, hk.2⟩⟩)⟩, ⟨by (with_reducible repeat (first | apply Kd.N_alloc | apply Kd.N_drewN | apply Kd.N_drew)); exact Kd.N_mono HO419.out (fun _ hk => ⟨hk.1.1, ⟨hk.1.2, hk.2⟩⟩)⟩, ⟨by (with_reducible repeat (first | apply Kd.N_alloc | apply Kd.N_drewN | apply Kd.N_drew)); exact HO423.out⟩, ⟨by repeat (first | (with_reducible first | exact HB.out | apply below_alloc | apply pw_below_drewN | apply below_drew1) | exact HB.out)⟩⟩
    ·
     replace c14 := Bool.eq_false_iff.mpr c14; subst c14; have H1 : (laws_FnTonaryJoin.j0 k t410 t413 t416 t417 t420 t421 true) = some r := by rw [if_neg (show ¬ (false = true) by decide)] at H; exact H
     clear H; have H := H1; clear H1; have H' := Aside0.mk H; clear H; obtain ⟨Ao18, co18, eo18⟩ := Kd.N_slice HO419.out; subst eo18; obtain ⟨Ao19, co19, eo19⟩ := Kd.N_slice HO423.out; subst eo19; go_wp2_with (first | (go_at_call 24; (with_reducible refine (laws_sameEntries.calls k _ _ t416 _ _ t420 false _ ?side1 ?side2 ?side3 ?side4 A13.out).mono ?_); (case side1 => repeat (first | exact (Kd.N_reads' HO419.out).2.2 | (with_reducible refine Kd.C_alloc ?_ _) | (with_reducible refine Kd.C_drewN ?_ _) | (with_reducible refine Kd.C_drew ?_))); (case side2 => exact (Kd.N_reads' HO419.out).2.1); (case side3 => repeat (first | exact (Kd.N_reads' HO423.out).2.2 | (with_reducible refine Kd.C_alloc ?_ _) | (with_reducible refine Kd.C_drewN ?_ _) | (with_reducible refine Kd.C_drew ?_))); (case side4 => exact (Kd.N_reads' HO423.out).2.1); rintro e w20 ⟨rfl, hb⟩; have n0_ := Aside0.mk (Kd.N_below (by (with_reducible repeat (first | apply Kd.N_alloc | apply Kd.N_drewN | apply Kd.N_drew)); exact HO412.out) hb); have n1_ := Aside0.mk (Kd.N_below (by (with_reducible repeat (first | apply Kd.N_alloc | apply Kd.N_drewN | apply Kd.N_drew)); exact HO415.out) hb); have n2_ := Aside0.mk (Kd.N_below (by (with_reducible repeat (first | apply Kd.N_alloc | apply Kd.N_drewN | apply Kd.N_drew)); exact HO419.out) hb); have n3_ := Aside0.mk (Kd.N_below (by (with_reducible repeat (first | apply Kd.N_alloc | apply Kd.N_drewN | apply Kd.N_drew)); exact HO423.out) hb); have n4_ := Aside0.mk (below_step (by repeat (first | (with_reducible first | exact HB.out | apply below_alloc | apply pw_below_drewN | apply below_drew1) | exact HB.out)) hb); clear HO412; clear HO415; clear HO419; clear HO423; clear HB; have HO412 := n0_; have HO415 := n1_; have HO419 := n2_; have HO423 := n3_; have HB := n4_; clear n0_ n1_ n2_ n3_ n4_; (try clear hb); (try clear hb2); (try clear hk); (try clear hi)))
     go_meet
     case rel => exact ⟨_, (true), (by first | rfl | (simp; done) | (simp [*]; done)), H', ⟨by first | omega | exact Nat.le_refl _⟩, ⟨by (with_reducible repeat (first | apply Kd.N_alloc | apply Kd.N_drewN | apply Kd.N_drew)); exact Kd.N_mono HO412.out (fun _ hk => ⟨hk.1.1, ⟨hk.1.2, hk.2⟩⟩)⟩, ⟨by (with_reducible repeat (first | apply Kd.N_alloc | apply Kd.N_drewN | apply Kd.N_drew)); exact Kd.N_mono HO415.out (fun _ hk => ⟨hk.1.1, ⟨hk.1.2, hk.2⟩⟩)⟩, ⟨by (with_reducible repeat (first | apply Kd.N_alloc | apply Kd.N_drewN | apply Kd.N_drew)); exact Kd.N_mono HO419.out (fun _ hk => ⟨hk.1.1, ⟨hk.1.2, hk.2⟩⟩)⟩, ⟨by (with_reducible repeat (first | apply Kd.N_alloc | apply Kd.N_drewN | apply Kd.N_drew)); exact HO423.out⟩, ⟨by repeat (first | (with_reducible first | exact HB.out | apply below_alloc | apply pw_below_drewN | apply below_drew1) | exact HB.out)⟩⟩
  case rest =>
   clear HC6; try clear c1
   try clear c2
   try clear c2b0
   try clear c2b1
   try clear p2
   try clear c4
   try clear c12
   try clear c12b0
   try clear c12b1
   try clear c12b2
   try clear c14
   try clear c16
   obtain ⟨kq, x49_5, rfl, HA, HJ5, HO_3, HO_4, HO_5, HO_7, HB⟩ := hcut; cases kq with
   | zero => exact absurd HA.out (by simp [laws_FnTonaryJoin.j0])
   | succ kj5 =>
    have H := HA.out; clear HA; simp only [laws_FnTonaryJoin.j0] at H; by_cases c21 : x49_5 = true
    ·
     subst c21; have H1 : (if (t417 == t421) = true then ((laws_sameEntries.f kj5 t416 t420).bind fun t425 => (some t425)) else (some false)) = some r := by rw [if_pos rfl] at H; exact H
     clear H; have H := H1; clear H1; by_cases c22 : (t417 == t421) = true
     ·
      rw [if_pos c22] at H; have c22b0 : (t417 == t421) = true := c22; (try (have c22b1 : decide (t417 = t421) = true := by simpa using c22))
      (try (have c22b2 : (t417 == t421) = true := by simpa using c22))
      clear c22; replace H := Option.bind_eq_some_iff.mp H; obtain ⟨t425, A230, H⟩ := H; replace H : (some t425) = some r := H; have A23 := Aside0.mk A230; clear A230; obtain rfl := Option.some.inj H; obtain ⟨Ao24, co24, eo24⟩ := Kd.N_slice HO_5.out; subst eo24; obtain ⟨Ao25, co25, eo25⟩ := Kd.N_slice HO_7.out; subst eo25; go_wp2_with (first | (go_at_call 24; (with_reducible refine (laws_sameEntries.calls kj5 _ _ t416 _ _ t420 t425 _ ?side1 ?side2 ?side3 ?side4 A23.out).mono ?_); (case side1 => repeat (first | exact (Kd.N_reads' HO_5.out).2.2 | (with_reducible refine Kd.C_alloc ?_ _) | (with_reducible refine Kd.C_drewN ?_ _) | (with_reducible refine Kd.C_drew ?_))); (case side2 => exact (Kd.N_reads' HO_5.out).2.1); (case side3 => repeat (first | exact (Kd.N_reads' HO_7.out).2.2 | (with_reducible refine Kd.C_alloc ?_ _) | (with_reducible refine Kd.C_drewN ?_ _) | (with_reducible refine Kd.C_drew ?_))); (case side4 => exact (Kd.N_reads' HO_7.out).2.1); rintro e w26 ⟨rfl, hb⟩; have n0_ := Aside0.mk (Kd.N_below (by (with_reducible repeat (first | apply Kd.N_alloc | apply Kd.N_drewN | apply Kd.N_drew)); exact HO_3.out) hb); have n1_ := Aside0.mk (Kd.N_below (by (with_reducible repeat (first | apply Kd.N_alloc | apply Kd.N_drewN | apply Kd.N_drew)); exact HO_4.out) hb); have n2_ := Aside0.mk (Kd.N_below (by (with_reducible repeat (first | apply Kd.N_alloc | apply Kd.N_drewN | apply Kd.N_drew)); exact HO_5.out) hb); have n3_ := Aside0.mk (Kd.N_below (by (with_reducible repeat (first | apply Kd.N_alloc | apply Kd.N_drewN | apply Kd.N_drew)); exact HO_7.out) hb); have n4_ := Aside0.mk (below_step (by repeat (first | (with_reducible first | exact HB.out | apply below_alloc | apply pw_below_drewN | apply below_drew1) | exact HB.out)) hb); clear HO_3; clear HO_4; clear HO_5; clear HO_7; clear HB; have HO_3 := n0_; have HO_4 := n1_; have HO_5 := n2_; have HO_7 := n3_; have HB := n4_; clear n0_ n1_ n2_ n3_ n4_; (try clear hb); (try clear hb2); (try clear hk); (try clear hi)))
      go_ret
      exact ⟨by first | rfl | (simp [errW_none, errW_some] <;> rfl) | (simp [*, errW_none, errW_some] <;> rfl), by repeat (first | (with_reducible first | exact HB.out | apply below_alloc | apply pw_below_drewN | apply below_drew1) | exact HB.out)⟩
     ·
      rw [if_neg c22] at H; exact absurd (H.trans (congrArg some HRR.out)) (by simp)
    ·
     replace c21 := Bool.eq_false_iff.mpr c21; subst c21; have H1 : ((impl_TonaryJoin.f t413 t410).bind fun bt426 => ((impl_TonaryJoin.f t416 t413).bind fun bt430 => (laws_FnTonaryJoin.l0 kj5 t413 t416 bt426.1 bt426.2 bt430.1 bt430.2 t410 0))) = some r := by rw [if_neg (show ¬ (false = true) by decide)] at H; exact H
     clear H; have H := H1; clear H1; replace H := Option.bind_eq_some_iff.mp H; obtain ⟨⟨t426, t427⟩, A270, H⟩ := H; replace H : ((impl_TonaryJoin.f t416 t413).bind fun bt430 => (laws_FnTonaryJoin.l0 kj5 t413 t416 t426 t427 bt430.1 bt430.2 t410 0)) = some r := H; have A27 := Aside0.mk A270; clear A270; replace H := Option.bind_eq_some_iff.mp H; obtain ⟨⟨t430, t431⟩, A280, H⟩ := H; replace H : (laws_FnTonaryJoin.l0 kj5 t413 t416 t426 t427 t430 t431 t410 0) = some r := H; have A28 := Aside0.mk A280; clear A280; have H' := Aside0.mk H; clear H; go_wp2_with (first | ((with_reducible refine gate_callee (f := 16) rfl ?_); refine goesL_ (some 61) rfl rfl Tryd.func16 (by kernel_rfl) rfl #[.slice Ao9 t413.length co9, .slice Ao8 t410.length co8] rfl (by (try simp only [List.map_toArray, List.map_cons, List.map_nil]); first | done | rfl | (simp only [List.length_drop, List.length_take]; rfl)) ?_; (with_reducible refine (impl_TonaryJoin.calls _ _ t413 _ _ t410 t426 t427 _ ?side1 ?side2 ?side3 ?side4 A27.out (ht := HT.out.below (by repeat (first | (with_reducible first | exact HB.out | apply below_alloc | apply pw_below_drewN | apply below_drew1) | exact HB.out)))).mono ?_); (case side1 => repeat (first | exact (Kd.N_reads' HO_4.out).2.2 | (with_reducible refine Kd.C_alloc ?_ _) | (with_reducible refine Kd.C_drewN ?_ _) | (with_reducible refine Kd.C_drew ?_))); (case side2 => exact (Kd.N_reads' HO_4.out).2.1); (case side3 => repeat (first | exact (Kd.N_reads' HO_3.out).2.2 | (with_reducible refine Kd.C_alloc ?_ _) | (with_reducible refine Kd.C_drewN ?_ _) | (with_reducible refine Kd.C_drew ?_))); (case side4 => exact (Kd.N_reads' HO_3.out).2.1); rintro e w29 ⟨v428, rfl, ho0, hb⟩; refine ⟨_, rfl, ?_⟩; have n0_ := Aside0.mk (Kd.N_elder' (by (with_reducible repeat (first | apply Kd.N_alloc | apply Kd.N_drewN | apply Kd.N_drew)); exact HO_3.out) (by first | exact Kd.N_base ho0 | exact Kd.N_base (Kd.S_N ho0) | exact Kd.N_base (Kd.S_N (Kd.S_bound ho0))) hb); have n1_ := Aside0.mk (Kd.N_elder' (by (with_reducible repeat (first | apply Kd.N_alloc | apply Kd.N_drewN | apply Kd.N_drew)); exact HO_4.out) (by first | exact Kd.N_base ho0 | exact Kd.N_base (Kd.S_N ho0) | exact Kd.N_base (Kd.S_N (Kd.S_bound ho0))) hb); have n2_ := Aside0.mk (Kd.N_elder' (by (with_reducible repeat (first | apply Kd.N_alloc | apply Kd.N_drewN | apply Kd.N_drew)); exact HO_5.out) (by first | exact Kd.N_base ho0 | exact Kd.N_base (Kd.S_N ho0) | exact Kd.N_base (Kd.S_N (Kd.S_bound ho0))) hb); have n3_ := Aside0.mk (Kd.N_elder' (by (with_reducible repeat (first | apply Kd.N_alloc | apply Kd.N_drewN | apply Kd.N_drew)); exact HO_7.out) (by first | exact Kd.N_base ho0 | exact Kd.N_base (Kd.S_N ho0) | exact Kd.N_base (Kd.S_N (Kd.S_bound ho0))) hb); have n4_ := Aside0.mk (Kd.N_lower (Kd.N_mono (ok' := fun k_ => some k_ ≠ (.slice Ao8 t410.length co8 : Value).ownBlock ∧ some k_ ≠ (.slice Ao9 t413.length co9 : Value).ownBlock ∧ some k_ ≠ (v418 : Value).ownBlock ∧ some k_ ≠ (v422 : Value).ownBlock) (Kd.S_N (Kd.S_bound ho0)) (fun k_ hk_ => ⟨(Kd.fresh' (Kd.N_lt (by (with_reducible repeat (first | apply Kd.N_alloc | apply Kd.N_drewN | apply Kd.N_drew)); exact HO_3.out)) k_ hk_.2.1), (Kd.fresh' (Kd.N_lt (by (with_reducible repeat (first | apply Kd.N_alloc | apply Kd.N_drewN | apply Kd.N_drew)); exact HO_4.out)) k_ hk_.2.1), (Kd.fresh' (Kd.N_lt (by (with_reducible repeat (first | apply Kd.N_alloc | apply Kd.N_drewN | apply Kd.N_drew)); exact HO_5.out)) k_ hk_.2.1), (Kd.fresh' (Kd.N_lt (by (with_reducible repeat (first | apply Kd.N_alloc | apply Kd.N_drewN | apply Kd.N_drew)); exact HO_7.out)) k_ hk_.2.1)⟩)) (below_size (by repeat (first | (with_reducible first | exact HB.out | apply below_alloc | apply pw_below_drewN | apply below_drew1) | exact HB.out)))); have n5_ := Aside0.mk (below_step (by repeat (first | (with_reducible first | exact HB.out | apply below_alloc | apply pw_below_drewN | apply below_drew1) | exact HB.out)) hb); clear HO_3; clear HO_4; clear HO_5; clear HO_7; clear HB; have HO_3 := n0_; have HO_4 := n1_; have HO_5 := n2_; have HO_7 := n3_; have HO429 := n4_; have HB := n5_; clear n0_ n1_ n2_ n3_ n4_ n5_; (try clear hb); (try clear hb2); (try clear hk); (try clear hi); (try clear ho0); obtain ⟨Ao30, co30, eo30⟩ := Kd.N_slice HO_5.out; subst eo30) | ((with_reducible refine gate_callee (f := 16) rfl ?_); refine goesL_ (some 67) rfl rfl Tryd.func16 (by kernel_rfl) rfl #[.slice Ao30 t416.length co30, .slice Ao9 t413.length co9] rfl (by (try simp only [List.map_toArray, List.map_cons, List.map_nil]); first | done | rfl | (simp only [List.length_drop, List.length_take]; rfl)) ?_; (with_reducible refine (impl_TonaryJoin.calls _ _ t416 _ _ t413 t430 t431 _ ?side1 ?side2 ?side3 ?side4 A28.out (ht := HT.out.below (by repeat (first | (with_reducible first | exact HB.out | apply below_alloc | apply pw_below_drewN | apply below_drew1) | exact HB.out)))).mono ?_); (case side1 => repeat (first | exact (Kd.N_reads' HO_5.out).2.2 | (with_reducible refine Kd.C_alloc ?_ _) | (with_reducible refine Kd.C_drewN ?_ _) | (with_reducible refine Kd.C_drew ?_))); (case side2 => exact (Kd.N_reads' HO_5.out).2.1); (case side3 => repeat (first | exact (Kd.N_reads' HO_4.out).2.2 | (with_reducible refine Kd.C_alloc ?_ _) | (with_reducible refine Kd.C_drewN ?_ _) | (with_reducible refine Kd.C_drew ?_))); (case side4 => exact (Kd.N_reads' HO_4.out).2.1); rintro e w31 ⟨v432, rfl, ho0, hb⟩; refine ⟨_, rfl, ?_⟩; have n0_ := Aside0.mk (Kd.N_elder' (by (with_reducible repeat (first | apply Kd.N_alloc | apply Kd.N_drewN | apply Kd.N_drew)); exact HO_3.out) (by first | exact Kd.N_base ho0 | exact Kd.N_base (Kd.S_N ho0) | exact Kd.N_base (Kd.S_N (Kd.S_bound ho0))) hb); have n1_ := Aside0.mk (Kd.N_elder' (by (with_reducible repeat (first | apply Kd.N_alloc | apply Kd.N_drewN | apply Kd.N_drew)); exact HO_4.out) (by first | exact Kd.N_base ho0 | exact Kd.N_base (Kd.S_N ho0) | exact Kd.N_base (Kd.S_N (Kd.S_bound ho0))) hb); have n2_ := Aside0.mk (Kd.N_elder' (by (with_reducible repeat (first | apply Kd.N_alloc | apply Kd.N_drewN | apply Kd.N_drew)); exact HO_5.out) (by first | exact Kd.N_base ho0 | exact Kd.N_base (Kd.S_N ho0) | exact Kd.N_base (Kd.S_N (Kd.S_bound ho0))) hb); have n3_ := Aside0.mk (Kd.N_elder' (by (with_reducible repeat (first | apply Kd.N_alloc | apply Kd.N_drewN | apply Kd.N_drew)); exact HO_7.out) (by first | exact Kd.N_base ho0 | exact Kd.N_base (Kd.S_N ho0) | exact Kd.N_base (Kd.S_N (Kd.S_bound ho0))) hb); have n4_ := Aside0.mk (Kd.N_elder' (by (with_reducible repeat (first | apply Kd.N_alloc | apply Kd.N_drewN | apply Kd.N_drew)); exact HO429.out) (by first | exact Kd.N_base ho0 | exact Kd.N_base (Kd.S_N ho0) | exact Kd.N_base (Kd.S_N (Kd.S_bound ho0))) hb); have n5_ := Aside0.mk (Kd.N_lower (Kd.N_mono (ok' := fun k_ => some k_ ≠ (.slice Ao8 t410.length co8 : Value).ownBlock ∧ some k_ ≠ (.slice Ao9 t413.length co9 : Value).ownBlock ∧ some k_ ≠ (.slice Ao30 t416.length co30 : Value).ownBlock ∧ some k_ ≠ (v422 : Value).ownBlock ∧ some k_ ≠ (v428 : Value).ownBlock) (Kd.S_N (Kd.S_bound ho0)) (fun k_ hk_ => ⟨(Kd.fresh' (Kd.N_lt (by (with_reducible repeat (first | apply Kd.N_alloc | apply Kd.N_drewN | apply Kd.N_drew)); exact HO_3.out)) k_ hk_.2.1), (Kd.fresh' (Kd.N_lt (by (with_reducible repeat (first | apply Kd.N_alloc | apply Kd.N_drewN | apply Kd.N_drew)); exact HO_4.out)) k_ hk_.2.1), (Kd.fresh' (Kd.N_lt (by (with_reducible repeat (first | apply Kd.N_alloc | apply Kd.N_drewN | apply Kd.N_drew)); exact HO_5.out)) k_ hk_.2.1), (Kd.fresh' (Kd.N_lt (by (with_reducible repeat (first | apply Kd.N_alloc | apply Kd.N_drewN | apply Kd.N_drew)); exact HO_7.out)) k_ hk_.2.1), (Kd.fresh' (Kd.N_lt (by (with_reducible repeat (first | apply Kd.N_alloc | apply Kd.N_drewN | apply Kd.N_drew)); exact HO429.out)) k_ hk_.2.1)⟩)) (below_size (by repeat (first | (with_reducible first | exact HB.out | apply below_alloc | apply pw_below_drewN | apply below_drew1) | exact HB.out)))); have n6_ := Aside0.mk (below_step (by repeat (first | (with_reducible first | exact HB.out | apply below_alloc | apply pw_below_drewN | apply below_drew1) | exact HB.out)) hb); clear HO_3; clear HO_4; clear HO_5; clear HO_7; clear HO429; clear HB; have HO_3 := n0_; have HO_4 := n1_; have HO_5 := n2_; have HO_7 := n3_; have HO429 := n4_; have HO433 := n5_; have HB := n6_; clear n0_ n1_ n2_ n3_ n4_ n5_ n6_; (try clear hb); (try clear hb2); (try clear hk); (try clear hi); (try clear ho0)))
     go_loopg [13, 14] kj5 (fun kq v13 v14 w' => ∃ (x13_2 : List (S38)) (x14_2 : Int), v14 = .int .i64 x14_2 ∧ Aside0 (laws_FnTonaryJoin.l0 kq t413 t416 t426 t427 t430 t431 x13_2 x14_2 = some r) ∧ Aside0 (kq ≤ kj5) ∧ Aside0 (Kd.N k38 38 w' w.heap.size (fun k_ => some k_ ≠ ((.slice Ao30 t416.length co30) : Value).ownBlock ∧ some k_ ≠ (v428 : Value).ownBlock ∧ some k_ ≠ (v432 : Value).ownBlock ∧ some k_ ≠ (v13 : Value).ownBlock) (.slice Ao9 t413.length co9) t413) ∧ Aside0 (Kd.N k38 38 w' w.heap.size (fun k_ => some k_ ≠ ((.slice Ao9 t413.length co9) : Value).ownBlock ∧ some k_ ≠ (v428 : Value).ownBlock ∧ some k_ ≠ (v432 : Value).ownBlock ∧ some k_ ≠ (v13 : Value).ownBlock) (.slice Ao30 t416.length co30) t416) ∧ Aside0 (Kd.N k38 38 w' w.heap.size (fun k_ => some k_ ≠ ((.slice Ao9 t413.length co9) : Value).ownBlock ∧ some k_ ≠ ((.slice Ao30 t416.length co30) : Value).ownBlock ∧ some k_ ≠ (v432 : Value).ownBlock ∧ some k_ ≠ (v13 : Value).ownBlock) v428 t426) ∧ Aside0 (Kd.N k38 38 w' w.heap.size (fun k_ => some k_ ≠ ((.slice Ao9 t413.length co9) : Value).ownBlock ∧ some k_ ≠ ((.slice Ao30 t416.length co30) : Value).ownBlock ∧ some k_ ≠ (v428 : Value).ownBlock ∧ some k_ ≠ (v13 : Value).ownBlock) v432 t430) ∧ Aside0 (Kd.N k38 38 w' w.heap.size (fun k_ => some k_ ≠ ((.slice Ao9 t413.length co9) : Value).ownBlock ∧ some k_ ≠ ((.slice Ao30 t416.length co30) : Value).ownBlock ∧ some k_ ≠ (v428 : Value).ownBlock ∧ some k_ ≠ (v432 : Value).ownBlock) v13 x13_2) ∧ Aside0 (Below w.heap.size w w'))
     case atStart => exact ⟨(t410), (0), (by first | rfl | (simp; done) | (simp [*]; done)), H', ⟨Nat.le_refl _⟩, ⟨by (with_reducible repeat (first | apply Kd.N_alloc | apply Kd.N_drewN | apply Kd.N_drew)); exact Kd.N_mono HO_4.out (fun _ hk => ⟨hk.1.1.2.1, ⟨hk.1.2, ⟨hk.2, hk.1.1.1⟩⟩⟩)⟩, ⟨by (with_reducible repeat (first | apply Kd.N_alloc | apply Kd.N_drewN | apply Kd.N_drew)); exact Kd.N_mono HO_5.out (fun _ hk => ⟨hk.1.1.2.1, ⟨hk.1.2, ⟨hk.2, hk.1.1.1⟩⟩⟩)⟩, ⟨by (with_reducible repeat (first | apply Kd.N_alloc | apply Kd.N_drewN | apply Kd.N_drew)); exact Kd.N_mono HO429.out (fun _ hk => ⟨hk.1.2.1, ⟨hk.1.2.2.1, ⟨hk.2, hk.1.1⟩⟩⟩)⟩, ⟨by (with_reducible repeat (first | apply Kd.N_alloc | apply Kd.N_drewN | apply Kd.N_drew)); exact Kd.N_mono HO433.out (fun _ hk => ⟨hk.2.1, ⟨hk.2.2.1, ⟨hk.2.2.2.2, hk.1⟩⟩⟩)⟩, ⟨by (with_reducible repeat (first | apply Kd.N_alloc | apply Kd.N_drewN | apply Kd.N_drew)); exact Kd.N_mono HO_3.out (fun _ hk => ⟨hk.1.1.1, ⟨hk.1.1.2.1, ⟨hk.1.2, hk.2⟩⟩⟩)⟩, ⟨by repeat (first | (with_reducible first | exact HB.out | apply below_alloc | apply pw_below_drewN | apply below_drew1) | exact HB.out)⟩⟩
     case round =>
      clear H'; try clear c1
      try clear c2
      try clear c2b0
      try clear c2b1
      try clear p2
      try clear c4
      try clear c12
      try clear c12b0
      try clear c12b1
      try clear c12b2
      try clear c14
      try clear c16
      try clear c21
      try clear c22
      try clear c22b0
      try clear c22b1
      try clear c22b2
      try clear p2
      obtain ⟨x13_2, x14_2, rfl, HA, HK2, HO_4, HO_5, HO_9, HO_11, HO_13, HB⟩ := hrel; cases gk with
      | zero => exact absurd HA.out (by simp [laws_FnTonaryJoin.l0])
      | succ k2 =>
       have H := HA.out; clear HA; simp only [laws_FnTonaryJoin.l0] at H; by_cases c32 : x14_2 < (t413.length : Int)
       ·
        rw [if_pos c32] at H; have c32b0 : decide (x14_2 < (t413.length : Int)) = true := decide_eq_true c32; clear c32; by_cases c33 : 0 ≤ x14_2
        ·
         rw [if_pos c33] at H; have c33b0 : decide (0 ≤ x14_2) = true := decide_eq_true c33; clear c33; replace H := Option.bind_eq_some_iff.mp H; obtain ⟨⟨t435, t438⟩, A340, H⟩ := H; replace H : (if t438 = true then (laws_FnTonaryJoin.l0 k2 t413 t416 t426 t427 t430 t431 t435 (wrap64 (x14_2 + 1))) else (laws_FnTonaryJoin.l0 k2 t413 t416 t426 t427 t430 t431 x13_2 (wrap64 (x14_2 + 1)))) = some r := H; have A34 := Aside0.mk A340; clear A340; by_cases c35 : t438 = true
         ·
          subst c35; have H1 : (laws_FnTonaryJoin.l0 k2 t413 t416 t426 t427 t430 t431 t435 (wrap64 (x14_2 + 1))) = some r := by rw [if_pos rfl] at H; exact H
          clear H; have H := H1; clear H1; have H' := Aside0.mk H; clear H; have p434 : 0 ≤ (x14_2 : Int) := of_decide_eq_true (by first | (with_reducible assumption) | assumption); have q434 : x14_2 < (t413.length : Int) := of_decide_eq_true (by first | (with_reducible assumption) | assumption); obtain ⟨ad434, A434_2, c434_2, e434, hx434_0, hx434_1, hx434_2, hl434_2, hi434_2⟩ := at_T38 (Kd.N_reads' HO_4.out).2.2 x14_2 p434 q434; cases e434; obtain ⟨ce434, hce434, hMe434, hcc434⟩ := Kd.N_get HO_4.out z38 x14_2 p434 (by first | exact q434 | exact of_decide_eq_true (by first | (with_reducible assumption) | assumption) | (have e_ := (Kd.N_reads' HO_4.out).1; omega)); obtain ⟨ua434_2, uc434_2, rfl, ul434_2, ge434_2⟩ := k38_openF hMe434; have hv434_2 := hcc434 2 _ rfl; rw [add_field _ _ 2 (by omega)] at hv434_2; replace hv434_2 := Option.some.inj (hv434_2.symm.trans hx434_2); injection hv434_2 with hva_ hvn_ hvc_
          rw [hva_] at ge434_2; rw [hvc_] at ul434_2; have HL434_2 := Aside0.mk (show Kd.V k90 90 _ w.heap.size _ _ ((rd_T38 t413 x14_2).f2) from Kd.V_mk ul434_2 ge434_2); clear hva_ hvn_ hvc_ ge434_2 ul434_2; clear hcc434 hce434; have HR434_2 := Aside0.mk hi434_2; have HC434_2 := Aside0.mk hl434_2; clear hi434_2 hl434_2; replace p434 := eq_true p434; replace q434 := eq_true q434; obtain ⟨Ao36, co36, eo36⟩ := Kd.N_slice HO_13.out; subst eo36; go_wp2_with (first | ((with_reducible refine gate_callee (f := 38) rfl ?_); refine goesL_ (some 83) rfl rfl Tryd.func38 (by kernel_rfl) rfl #[.slice Ao36 x13_2.length co36, .agg #[.string ((rd_T38 t413 x14_2).f0), .int .i64 ((rd_T38 t413 x14_2).f1), .slice A434_2 ((rd_T38 t413 x14_2).f2).length c434_2]] rfl (by (try simp only [List.map_toArray, List.map_cons, List.map_nil]); first | done | rfl | (simp only [List.length_drop, List.length_take]; rfl)) ?_; (with_reducible refine (impl_TonaryAdd.calls _ _ x13_2 ((rd_T38 t413 x14_2).f0) ((rd_T38 t413 x14_2).f1) _ _ ((rd_T38 t413 x14_2).f2) t435 true _ ?side1 ?side2 ?side3 ?side4 A34.out (ht := HT.out.below (by repeat (first | (with_reducible first | exact HB.out | apply below_alloc | apply pw_below_drewN | apply below_drew1) | exact HB.out)))).mono ?_); (case side1 => repeat (first | exact (Kd.N_reads' HO_13.out).2.2 | (with_reducible refine Kd.C_alloc ?_ _) | (with_reducible refine Kd.C_drewN ?_ _) | (with_reducible refine Kd.C_drew ?_))); (case side2 => exact (Kd.N_reads' HO_13.out).2.1); (case side3 => repeat (first | exact (by repeat (first | (with_reducible exact HR434_2.out) | (with_reducible refine Kd.C_alloc ?_ _) | (with_reducible refine Kd.C_drewN ?_ _) | (with_reducible refine Kd.C_drew ?_) | exact HR434_2.out)) | (with_reducible refine Kd.C_alloc ?_ _) | (with_reducible refine Kd.C_drewN ?_ _) | (with_reducible refine Kd.C_drew ?_))); (case side4 => exact HC434_2.out); rintro e w37 ⟨v436, rfl, ho0, hb⟩; refine ⟨_, rfl, ?_⟩; have n0_ := Aside0.mk (Kd.N_elder' (by (with_reducible repeat (first | apply Kd.N_alloc | apply Kd.N_drewN | apply Kd.N_drew)); exact HO_4.out) (by first | exact Kd.N_base ho0 | exact Kd.N_base (Kd.S_N ho0) | exact Kd.N_base (Kd.S_N (Kd.S_bound ho0))) hb); have n1_ := Aside0.mk (Kd.N_elder' (by (with_reducible repeat (first | apply Kd.N_alloc | apply Kd.N_drewN | apply Kd.N_drew)); exact HO_5.out) (by first | exact Kd.N_base ho0 | exact Kd.N_base (Kd.S_N ho0) | exact Kd.N_base (Kd.S_N (Kd.S_bound ho0))) hb); have n2_ := Aside0.mk (Kd.N_elder' (by (with_reducible repeat (first | apply Kd.N_alloc | apply Kd.N_drewN | apply Kd.N_drew)); exact HO_9.out) (by first | exact Kd.N_base ho0 | exact Kd.N_base (Kd.S_N ho0) | exact Kd.N_base (Kd.S_N (Kd.S_bound ho0))) hb); have n3_ := Aside0.mk (Kd.N_elder' (by (with_reducible repeat (first | apply Kd.N_alloc | apply Kd.N_drewN | apply Kd.N_drew)); exact HO_11.out) (by first | exact Kd.N_base ho0 | exact Kd.N_base (Kd.S_N ho0) | exact Kd.N_base (Kd.S_N (Kd.S_bound ho0))) hb); have n4_ := Aside0.mk (Kd.N_elder' (by (with_reducible repeat (first | apply Kd.N_alloc | apply Kd.N_drewN | apply Kd.N_drew)); exact HO_13.out) (by first | exact Kd.N_base ho0 | exact Kd.N_base (Kd.S_N ho0) | exact Kd.N_base (Kd.S_N (Kd.S_bound ho0))) hb); have n5_ := Aside0.mk (Kd.V_elder' (by (with_reducible repeat (first | apply Kd.V_alloc | apply Kd.V_drewN | apply Kd.V_drew)); exact HL434_2.out) (by first | exact Kd.N_base ho0 | exact Kd.N_base (Kd.S_N ho0) | exact Kd.N_base (Kd.S_N (Kd.S_bound ho0))) hb); have n6_ := Aside0.mk (Kd.N_lower (Kd.N_mono (ok' := fun k_ => some k_ ≠ (.slice (some ad434) t413.length co9 : Value).ownBlock ∧ some k_ ≠ (.slice Ao30 t416.length co30 : Value).ownBlock ∧ some k_ ≠ (v428 : Value).ownBlock ∧ some k_ ≠ (v432 : Value).ownBlock ∧ some k_ ≠ (.slice Ao36 x13_2.length co36 : Value).ownBlock) (Kd.S_N (Kd.S_bound ho0)) (fun k_ hk_ => ⟨(Kd.fresh' (Kd.N_lt (by (with_reducible repeat (first | apply Kd.N_alloc | apply Kd.N_drewN | apply Kd.N_drew)); exact HO_4.out)) k_ hk_.2.1), (Kd.fresh' (Kd.N_lt (by (with_reducible repeat (first | apply Kd.N_alloc | apply Kd.N_drewN | apply Kd.N_drew)); exact HO_5.out)) k_ hk_.2.1), (Kd.fresh' (Kd.N_lt (by (with_reducible repeat (first | apply Kd.N_alloc | apply Kd.N_drewN | apply Kd.N_drew)); exact HO_9.out)) k_ hk_.2.1), (Kd.fresh' (Kd.N_lt (by (with_reducible repeat (first | apply Kd.N_alloc | apply Kd.N_drewN | apply Kd.N_drew)); exact HO_11.out)) k_ hk_.2.1), (Kd.fresh' (Kd.N_lt (by (with_reducible repeat (first | apply Kd.N_alloc | apply Kd.N_drewN | apply Kd.N_drew)); exact HO_13.out)) k_ hk_.2.1)⟩)) (below_size (by repeat (first | (with_reducible first | exact HB.out | apply below_alloc | apply pw_below_drewN | apply below_drew1) | exact HB.out)))); have n7_ := Aside0.mk (Kd.C_below (by repeat (first | (with_reducible exact HR434_2.out) | (with_reducible refine Kd.C_alloc ?_ _) | (with_reducible refine Kd.C_drewN ?_ _) | (with_reducible refine Kd.C_drew ?_) | exact HR434_2.out)) hb); have n8_ := Aside0.mk (below_step (by repeat (first | (with_reducible first | exact HB.out | apply below_alloc | apply pw_below_drewN | apply below_drew1) | exact HB.out)) hb); clear HO_4; clear HO_5; clear HO_9; clear HO_11; clear HO_13; clear HL434_2; clear HR434_2; clear HB; have HO_4 := n0_; have HO_5 := n1_; have HO_9 := n2_; have HO_11 := n3_; have HO_13 := n4_; have HL434_2 := n5_; have HO437 := n6_; have HR434_2 := n7_; have HB := n8_; clear n0_ n1_ n2_ n3_ n4_ n5_ n6_ n7_ n8_; (try clear hb); (try clear hb2); (try clear hk); (try clear hi); (try clear ho0)))
          go_roundg k2
          case measure => have := HJ5.out; have := HK2.out; omega
          case rel => exact ⟨(t435), (wrap64 (x14_2 + 1)), (by first | rfl | (simp; done) | (simp [*]; done)), H', ⟨by have := HJ5.out; have := HK2.out; omega⟩, ⟨by (with_reducible repeat (first | apply Kd.N_alloc | apply Kd.N_drewN | apply Kd.N_drew)); exact Kd.N_mono HO_4.out (fun _ hk => ⟨hk.1.1, ⟨hk.1.2.1, ⟨hk.1.2.2.1, hk.2⟩⟩⟩)⟩, ⟨by (with_reducible repeat (first | apply Kd.N_alloc | apply Kd.N_drewN | apply Kd.N_drew)); exact Kd.N_mono HO_5.out (fun _ hk => ⟨hk.1.1, ⟨hk.1.2.1, ⟨hk.1.2.2.1, hk.2⟩⟩⟩)⟩, ⟨by (with_reducible repeat (first | apply Kd.N_alloc | apply Kd.N_drewN | apply Kd.N_drew)); exact Kd.N_mono HO_9.out (fun _ hk => ⟨hk.1.1, ⟨hk.1.2.1, ⟨hk.1.2.2.1, hk.2⟩⟩⟩)⟩, ⟨by (with_reducible repeat (first | apply Kd.N_alloc | apply Kd.N_drewN | apply Kd.N_drew)); exact Kd.N_mono HO_11.out (fun _ hk => ⟨hk.1.1, ⟨hk.1.2.1, ⟨hk.1.2.2.1, hk.2⟩⟩⟩)⟩, ⟨by (with_reducible repeat (first | apply Kd.N_alloc | apply Kd.N_drewN | apply Kd.N_drew)); exact Kd.N_mono HO437.out (fun _ hk => ⟨hk.1, ⟨hk.2.1, ⟨hk.2.2.1, hk.2.2.2.1⟩⟩⟩)⟩, ⟨by repeat (first | (with_reducible first | exact HB.out | apply below_alloc | apply pw_below_drewN | apply below_drew1) | exact HB.out)⟩⟩
         ·
          replace c35 := Bool.eq_false_iff.mpr c35; subst c35; have H1 : (laws_FnTonaryJoin.l0 k2 t413 t416 t426 t427 t430 t431 x13_2 (wrap64 (x14_2 + 1))) = some r := by rw [if_neg (show ¬ (false = true) by decide)] at H; exact H
          clear H; have H := H1; clear H1; have H' := Aside0.mk H; clear H; have p434 : 0 ≤ (x14_2 : Int) := of_decide_eq_true (by first | (with_reducible assumption) | assumption); have q434 : x14_2 < (t413.length : Int) := of_decide_eq_true (by first | (with_reducible assumption) | assumption); obtain ⟨ad434, A434_2, c434_2, e434, hx434_0, hx434_1, hx434_2, hl434_2, hi434_2⟩ := at_T38 (Kd.N_reads' HO_4.out).2.2 x14_2 p434 q434; cases e434; obtain ⟨ce434, hce434, hMe434, hcc434⟩ := Kd.N_get HO_4.out z38 x14_2 p434 (by first | exact q434 | exact of_decide_eq_true (by first | (with_reducible assumption) | assumption) | (have e_ := (Kd.N_reads' HO_4.out).1; omega)); obtain ⟨ua434_2, uc434_2, rfl, ul434_2, ge434_2⟩ := k38_openF hMe434; have hv434_2 := hcc434 2 _ rfl; rw [add_field _ _ 2 (by omega)] at hv434_2; replace hv434_2 := Option.some.inj (hv434_2.symm.trans hx434_2); injection hv434_2 with hva_ hvn_ hvc_
          rw [hva_] at ge434_2; rw [hvc_] at ul434_2; have HL434_2 := Aside0.mk (show Kd.V k90 90 _ w.heap.size _ _ ((rd_T38 t413 x14_2).f2) from Kd.V_mk ul434_2 ge434_2); clear hva_ hvn_ hvc_ ge434_2 ul434_2; clear hcc434 hce434; have HR434_2 := Aside0.mk hi434_2; have HC434_2 := Aside0.mk hl434_2; clear hi434_2 hl434_2; replace p434 := eq_true p434; replace q434 := eq_true q434; obtain ⟨Ao38, co38, eo38⟩ := Kd.N_slice HO_13.out; subst eo38; go_wp2_with (first | ((with_reducible refine gate_callee (f := 38) rfl ?_); refine goesL_ (some 83) rfl rfl Tryd.func38 (by kernel_rfl) rfl #[.slice Ao38 x13_2.length co38, .agg #[.string ((rd_T38 t413 x14_2).f0), .int .i64 ((rd_T38 t413 x14_2).f1), .slice A434_2 ((rd_T38 t413 x14_2).f2).length c434_2]] rfl (by (try simp only [List.map_toArray, List.map_cons, List.map_nil]); first | done | rfl | (simp only [List.length_drop, List.length_take]; rfl)) ?_; (with_reducible refine (impl_TonaryAdd.calls _ _ x13_2 ((rd_T38 t413 x14_2).f0) ((rd_T38 t413 x14_2).f1) _ _ ((rd_T38 t413 x14_2).f2) t435 false _ ?side1 ?side2 ?side3 ?side4 A34.out (ht := HT.out.below (by repeat (first | (with_reducible first | exact HB.out | apply below_alloc | apply pw_below_drewN | apply below_drew1) | exact HB.out)))).mono ?_); (case side1 => repeat (first | exact (Kd.N_reads' HO_13.out).2.2 | (with_reducible refine Kd.C_alloc ?_ _) | (with_reducible refine Kd.C_drewN ?_ _) | (with_reducible refine Kd.C_drew ?_))); (case side2 => exact (Kd.N_reads' HO_13.out).2.1); (case side3 => repeat (first | exact (by repeat (first | (with_reducible exact HR434_2.out) | (with_reducible refine Kd.C_alloc ?_ _) | (with_reducible refine Kd.C_drewN ?_ _) | (with_reducible refine Kd.C_drew ?_) | exact HR434_2.out)) | (with_reducible refine Kd.C_alloc ?_ _) | (with_reducible refine Kd.C_drewN ?_ _) | (with_reducible refine Kd.C_drew ?_))); (case side4 => exact HC434_2.out); rintro e w39 ⟨v436, rfl, ho0, hb⟩; refine ⟨_, rfl, ?_⟩; have n0_ := Aside0.mk (Kd.N_elder' (by (with_reducible repeat (first | apply Kd.N_alloc | apply Kd.N_drewN | apply Kd.N_drew)); exact HO_4.out) (by first | exact Kd.N_base ho0 | exact Kd.N_base (Kd.S_N ho0) | exact Kd.N_base (Kd.S_N (Kd.S_bound ho0))) hb); have n1_ := Aside0.mk (Kd.N_elder' (by (with_reducible repeat (first | apply Kd.N_alloc | apply Kd.N_drewN | apply Kd.N_drew)); exact HO_5.out) (by first | exact Kd.N_base ho0 | exact Kd.N_base (Kd.S_N ho0) | exact Kd.N_base (Kd.S_N (Kd.S_bound ho0))) hb); have n2_ := Aside0.mk (Kd.N_elder' (by (with_reducible repeat (first | apply Kd.N_alloc | apply Kd.N_drewN | apply Kd.N_drew)); exact HO_9.out) (by first | exact Kd.N_base ho0 | exact Kd.N_base (Kd.S_N ho0) | exact Kd.N_base (Kd.S_N (Kd.S_bound ho0))) hb); have n3_ := Aside0.mk (Kd.N_elder' (by (with_reducible repeat (first | apply Kd.N_alloc | apply Kd.N_drewN | apply Kd.N_drew)); exact HO_11.out) (by first | exact Kd.N_base ho0 | exact Kd.N_base (Kd.S_N ho0) | exact Kd.N_base (Kd.S_N (Kd.S_bound ho0))) hb); have n4_ := Aside0.mk (Kd.N_elder' (by (with_reducible repeat (first | apply Kd.N_alloc | apply Kd.N_drewN | apply Kd.N_drew)); exact HO_13.out) (by first | exact Kd.N_base ho0 | exact Kd.N_base (Kd.S_N ho0) | exact Kd.N_base (Kd.S_N (Kd.S_bound ho0))) hb); have n5_ := Aside0.mk (Kd.V_elder' (by (with_reducible repeat (first | apply Kd.V_alloc | apply Kd.V_drewN | apply Kd.V_drew)); exact HL434_2.out) (by first | exact Kd.N_base ho0 | exact Kd.N_base (Kd.S_N ho0) | exact Kd.N_base (Kd.S_N (Kd.S_bound ho0))) hb); have n6_ := Aside0.mk (Kd.N_lower (Kd.N_mono (ok' := fun k_ => some k_ ≠ (.slice (some ad434) t413.length co9 : Value).ownBlock ∧ some k_ ≠ (.slice Ao30 t416.length co30 : Value).ownBlock ∧ some k_ ≠ (v428 : Value).ownBlock ∧ some k_ ≠ (v432 : Value).ownBlock ∧ some k_ ≠ (.slice Ao38 x13_2.length co38 : Value).ownBlock) (Kd.S_N (Kd.S_bound ho0)) (fun k_ hk_ => ⟨(Kd.fresh' (Kd.N_lt (by (with_reducible repeat (first | apply Kd.N_alloc | apply Kd.N_drewN | apply Kd.N_drew)); exact HO_4.out)) k_ hk_.2.1), (Kd.fresh' (Kd.N_lt (by (with_reducible repeat (first | apply Kd.N_alloc | apply Kd.N_drewN | apply Kd.N_drew)); exact HO_5.out)) k_ hk_.2.1), (Kd.fresh' (Kd.N_lt (by (with_reducible repeat (first | apply Kd.N_alloc | apply Kd.N_drewN | apply Kd.N_drew)); exact HO_9.out)) k_ hk_.2.1), (Kd.fresh' (Kd.N_lt (by (with_reducible repeat (first | apply Kd.N_alloc | apply Kd.N_drewN | apply Kd.N_drew)); exact HO_11.out)) k_ hk_.2.1), (Kd.fresh' (Kd.N_lt (by (with_reducible repeat (first | apply Kd.N_alloc | apply Kd.N_drewN | apply Kd.N_drew)); exact HO_13.out)) k_ hk_.2.1)⟩)) (below_size (by repeat (first | (with_reducible first | exact HB.out | apply below_alloc | apply pw_below_drewN | apply below_drew1) | exact HB.out)))); have n7_ := Aside0.mk (Kd.C_below (by repeat (first | (with_reducible exact HR434_2.out) | (with_reducible refine Kd.C_alloc ?_ _) | (with_reducible refine Kd.C_drewN ?_ _) | (with_reducible refine Kd.C_drew ?_) | exact HR434_2.out)) hb); have n8_ := Aside0.mk (below_step (by repeat (first | (with_reducible first | exact HB.out | apply below_alloc | apply pw_below_drewN | apply below_drew1) | exact HB.out)) hb); clear HO_4; clear HO_5; clear HO_9; clear HO_11; clear HO_13; clear HL434_2; clear HR434_2; clear HB; have HO_4 := n0_; have HO_5 := n1_; have HO_9 := n2_; have HO_11 := n3_; have HO_13 := n4_; have HL434_2 := n5_; have HO437 := n6_; have HR434_2 := n7_; have HB := n8_; clear n0_ n1_ n2_ n3_ n4_ n5_ n6_ n7_ n8_; (try clear hb); (try clear hb2); (try clear hk); (try clear hi); (try clear ho0)))
          go_roundg k2
          case measure => have := HJ5.out; have := HK2.out; omega
          case rel => exact ⟨(x13_2), (wrap64 (x14_2 + 1)), (by first | rfl | (simp; done) | (simp [*]; done)), H', ⟨by have := HJ5.out; have := HK2.out; omega⟩, ⟨by (with_reducible repeat (first | apply Kd.N_alloc | apply Kd.N_drewN | apply Kd.N_drew)); exact Kd.N_mono HO_4.out (fun _ hk => ⟨hk.1.1, ⟨hk.1.2.1, ⟨hk.1.2.2.1, hk.1.2.2.2⟩⟩⟩)⟩, ⟨by (with_reducible repeat (first | apply Kd.N_alloc | apply Kd.N_drewN | apply Kd.N_drew)); exact Kd.N_mono HO_5.out (fun _ hk => ⟨hk.1.1, ⟨hk.1.2.1, ⟨hk.1.2.2.1, hk.1.2.2.2⟩⟩⟩)⟩, ⟨by (with_reducible repeat (first | apply Kd.N_alloc | apply Kd.N_drewN | apply Kd.N_drew)); exact Kd.N_mono HO_9.out (fun _ hk => ⟨hk.1.1, ⟨hk.1.2.1, ⟨hk.1.2.2.1, hk.1.2.2.2⟩⟩⟩)⟩, ⟨by (with_reducible repeat (first | apply Kd.N_alloc | apply Kd.N_drewN | apply Kd.N_drew)); exact Kd.N_mono HO_11.out (fun _ hk => ⟨hk.1.1, ⟨hk.1.2.1, ⟨hk.1.2.2.1, hk.1.2.2.2⟩⟩⟩)⟩, ⟨by (with_reducible repeat (first | apply Kd.N_alloc | apply Kd.N_drewN | apply Kd.N_drew)); exact Kd.N_mono HO_13.out (fun _ hk => ⟨hk.1.1, ⟨hk.1.2.1, ⟨hk.1.2.2.1, hk.1.2.2.2⟩⟩⟩)⟩, ⟨by repeat (first | (with_reducible first | exact HB.out | apply below_alloc | apply pw_below_drewN | apply below_drew1) | exact HB.out)⟩⟩
        ·
         rw [if_neg c33] at H; exact absurd H (by simp)
       ·
        rw [if_neg c32] at H; have c32b0 : decide (x14_2 < (t413.length : Int)) = false := decide_eq_false c32; clear c32; by_cases c40 : t427 = true
        ·
         subst c40; have H1 : (if t431 = true then ((laws_sameEntries.f k2 t426 t416).bind fun t439 => (if t439 = true then ((laws_sameEntries.f k2 t430 t416).bind fun t440 => (if t440 = true then ((laws_sameEntries.f k2 x13_2 t416).bind fun t441 => (if t441 = true then ((impl_TonaryValid.f t416).bind fun t442 => (some t442)) else (some false))) else (some false))) else (some false))) else (some false)) = some r := by rw [if_pos rfl] at H; exact H
         clear H; have H := H1; clear H1; by_cases c41 : t431 = true
         ·
          subst c41; have H1 : ((laws_sameEntries.f k2 t426 t416).bind fun t439 => (if t439 = true then ((laws_sameEntries.f k2 t430 t416).bind fun t440 => (if t440 = true then ((laws_sameEntries.f k2 x13_2 t416).bind fun t441 => (if t441 = true then ((impl_TonaryValid.f t416).bind fun t442 => (some t442)) else (some false))) else (some false))) else (some false))) = some r := by rw [if_pos rfl] at H; exact H
          clear H; have H := H1; clear H1; replace H := Option.bind_eq_some_iff.mp H; obtain ⟨t439, A420, H⟩ := H; replace H : (if t439 = true then ((laws_sameEntries.f k2 t430 t416).bind fun t440 => (if t440 = true then ((laws_sameEntries.f k2 x13_2 t416).bind fun t441 => (if t441 = true then ((impl_TonaryValid.f t416).bind fun t442 => (some t442)) else (some false))) else (some false))) else (some false)) = some r := H; have A42 := Aside0.mk A420; clear A420; by_cases c43 : t439 = true
          ·
           subst c43; have H1 : ((laws_sameEntries.f k2 t430 t416).bind fun t440 => (if t440 = true then ((laws_sameEntries.f k2 x13_2 t416).bind fun t441 => (if t441 = true then ((impl_TonaryValid.f t416).bind fun t442 => (some t442)) else (some false))) else (some false))) = some r := by rw [if_pos rfl] at H; exact H
           clear H; have H := H1; clear H1; replace H := Option.bind_eq_some_iff.mp H; obtain ⟨t440, A440, H⟩ := H; replace H : (if t440 = true then ((laws_sameEntries.f k2 x13_2 t416).bind fun t441 => (if t441 = true then ((impl_TonaryValid.f t416).bind fun t442 => (some t442)) else (some false))) else (some false)) = some r := H; have A44 := Aside0.mk A440; clear A440; by_cases c45 : t440 = true
           ·
            subst c45; have H1 : ((laws_sameEntries.f k2 x13_2 t416).bind fun t441 => (if t441 = true then ((impl_TonaryValid.f t416).bind fun t442 => (some t442)) else (some false))) = some r := by rw [if_pos rfl] at H; exact H
            clear H; have H := H1; clear H1; replace H := Option.bind_eq_some_iff.mp H; obtain ⟨t441, A460, H⟩ := H; replace H : (if t441 = true then ((impl_TonaryValid.f t416).bind fun t442 => (some t442)) else (some false)) = some r := H; have A46 := Aside0.mk A460; clear A460; by_cases c47 : t441 = true
            ·
             subst c47; have H1 : ((impl_TonaryValid.f t416).bind fun t442 => (some t442)) = some r := by rw [if_pos rfl] at H; exact H
             clear H; have H := H1; clear H1; replace H := Option.bind_eq_some_iff.mp H; obtain ⟨t442, A480, H⟩ := H; replace H : (some t442) = some r := H; have A48 := Aside0.mk A480; clear A480; obtain rfl := Option.some.inj H; obtain ⟨Ao49, co49, eo49⟩ := Kd.N_slice HO_9.out; subst eo49; go_wp2_with (first | (go_at_call 24; (with_reducible refine (laws_sameEntries.calls k2 _ _ t426 _ _ t416 true _ ?side1 ?side2 ?side3 ?side4 A42.out).mono ?_); (case side1 => repeat (first | exact (Kd.N_reads' HO_9.out).2.2 | (with_reducible refine Kd.C_alloc ?_ _) | (with_reducible refine Kd.C_drewN ?_ _) | (with_reducible refine Kd.C_drew ?_))); (case side2 => exact (Kd.N_reads' HO_9.out).2.1); (case side3 => repeat (first | exact (Kd.N_reads' HO_5.out).2.2 | (with_reducible refine Kd.C_alloc ?_ _) | (with_reducible refine Kd.C_drewN ?_ _) | (with_reducible refine Kd.C_drew ?_))); (case side4 => exact (Kd.N_reads' HO_5.out).2.1); rintro e w50 ⟨rfl, hb⟩; have n0_ := Aside0.mk (Kd.N_below (by (with_reducible repeat (first | apply Kd.N_alloc | apply Kd.N_drewN | apply Kd.N_drew)); exact HO_4.out) hb); have n1_ := Aside0.mk (Kd.N_below (by (with_reducible repeat (first | apply Kd.N_alloc | apply Kd.N_drewN | apply Kd.N_drew)); exact HO_5.out) hb); have n2_ := Aside0.mk (Kd.N_below (by (with_reducible repeat (first | apply Kd.N_alloc | apply Kd.N_drewN | apply Kd.N_drew)); exact HO_9.out) hb); have n3_ := Aside0.mk (Kd.N_below (by (with_reducible repeat (first | apply Kd.N_alloc | apply Kd.N_drewN | apply Kd.N_drew)); exact HO_11.out) hb); have n4_ := Aside0.mk (Kd.N_below (by (with_reducible repeat (first | apply Kd.N_alloc | apply Kd.N_drewN | apply Kd.N_drew)); exact HO_13.out) hb); have n5_ := Aside0.mk (below_step (by repeat (first | (with_reducible first | exact HB.out | apply below_alloc | apply pw_below_drewN | apply below_drew1) | exact HB.out)) hb); clear HO_4; clear HO_5; clear HO_9; clear HO_11; clear HO_13; clear HB; have HO_4 := n0_; have HO_5 := n1_; have HO_9 := n2_; have HO_11 := n3_; have HO_13 := n4_; have HB := n5_; clear n0_ n1_ n2_ n3_ n4_ n5_; (try clear hb); (try clear hb2); (try clear hk); (try clear hi); obtain ⟨Ao51, co51, eo51⟩ := Kd.N_slice HO_11.out; subst eo51) | (go_at_call 24; (with_reducible refine (laws_sameEntries.calls k2 _ _ t430 _ _ t416 true _ ?side1 ?side2 ?side3 ?side4 A44.out).mono ?_); (case side1 => repeat (first | exact (Kd.N_reads' HO_11.out).2.2 | (with_reducible refine Kd.C_alloc ?_ _) | (with_reducible refine Kd.C_drewN ?_ _) | (with_reducible refine Kd.C_drew ?_))); (case side2 => exact (Kd.N_reads' HO_11.out).2.1); (case side3 => repeat (first | exact (Kd.N_reads' HO_5.out).2.2 | (with_reducible refine Kd.C_alloc ?_ _) | (with_reducible refine Kd.C_drewN ?_ _) | (with_reducible refine Kd.C_drew ?_))); (case side4 => exact (Kd.N_reads' HO_5.out).2.1); rintro e w52 ⟨rfl, hb⟩; have n0_ := Aside0.mk (Kd.N_below (by (with_reducible repeat (first | apply Kd.N_alloc | apply Kd.N_drewN | apply Kd.N_drew)); exact HO_4.out) hb); have n1_ := Aside0.mk (Kd.N_below (by (with_reducible repeat (first | apply Kd.N_alloc | apply Kd.N_drewN | apply Kd.N_drew)); exact HO_5.out) hb); have n2_ := Aside0.mk (Kd.N_below (by (with_reducible repeat (first | apply Kd.N_alloc | apply Kd.N_drewN | apply Kd.N_drew)); exact HO_9.out) hb); have n3_ := Aside0.mk (Kd.N_below (by (with_reducible repeat (first | apply Kd.N_alloc | apply Kd.N_drewN | apply Kd.N_drew)); exact HO_11.out) hb); have n4_ := Aside0.mk (Kd.N_below (by (with_reducible repeat (first | apply Kd.N_alloc | apply Kd.N_drewN | apply Kd.N_drew)); exact HO_13.out) hb); have n5_ := Aside0.mk (below_step (by repeat (first | (with_reducible first | exact HB.out | apply below_alloc | apply pw_below_drewN | apply below_drew1) | exact HB.out)) hb); clear HO_4; clear HO_5; clear HO_9; clear HO_11; clear HO_13; clear HB; have HO_4 := n0_; have HO_5 := n1_; have HO_9 := n2_; have HO_11 := n3_; have HO_13 := n4_; have HB := n5_; clear n0_ n1_ n2_ n3_ n4_ n5_; (try clear hb); (try clear hb2); (try clear hk); (try clear hi); obtain ⟨Ao53, co53, eo53⟩ := Kd.N_slice HO_13.out; subst eo53) | (go_at_call 24; (with_reducible refine (laws_sameEntries.calls k2 _ _ x13_2 _ _ t416 true _ ?side1 ?side2 ?side3 ?side4 A46.out).mono ?_); (case side1 => repeat (first | exact (Kd.N_reads' HO_13.out).2.2 | (with_reducible refine Kd.C_alloc ?_ _) | (with_reducible refine Kd.C_drewN ?_ _) | (with_reducible refine Kd.C_drew ?_))); (case side2 => exact (Kd.N_reads' HO_13.out).2.1); (case side3 => repeat (first | exact (Kd.N_reads' HO_5.out).2.2 | (with_reducible refine Kd.C_alloc ?_ _) | (with_reducible refine Kd.C_drewN ?_ _) | (with_reducible refine Kd.C_drew ?_))); (case side4 => exact (Kd.N_reads' HO_5.out).2.1); rintro e w54 ⟨rfl, hb⟩; have n0_ := Aside0.mk (Kd.N_below (by (with_reducible repeat (first | apply Kd.N_alloc | apply Kd.N_drewN | apply Kd.N_drew)); exact HO_4.out) hb); have n1_ := Aside0.mk (Kd.N_below (by (with_reducible repeat (first | apply Kd.N_alloc | apply Kd.N_drewN | apply Kd.N_drew)); exact HO_5.out) hb); have n2_ := Aside0.mk (Kd.N_below (by (with_reducible repeat (first | apply Kd.N_alloc | apply Kd.N_drewN | apply Kd.N_drew)); exact HO_9.out) hb); have n3_ := Aside0.mk (Kd.N_below (by (with_reducible repeat (first | apply Kd.N_alloc | apply Kd.N_drewN | apply Kd.N_drew)); exact HO_11.out) hb); have n4_ := Aside0.mk (Kd.N_below (by (with_reducible repeat (first | apply Kd.N_alloc | apply Kd.N_drewN | apply Kd.N_drew)); exact HO_13.out) hb); have n5_ := Aside0.mk (below_step (by repeat (first | (with_reducible first | exact HB.out | apply below_alloc | apply pw_below_drewN | apply below_drew1) | exact HB.out)) hb); clear HO_4; clear HO_5; clear HO_9; clear HO_11; clear HO_13; clear HB; have HO_4 := n0_; have HO_5 := n1_; have HO_9 := n2_; have HO_11 := n3_; have HO_13 := n4_; have HB := n5_; clear n0_ n1_ n2_ n3_ n4_ n5_; (try clear hb); (try clear hb2); (try clear hk); (try clear hi)) | (go_at_call 21; (with_reducible refine (impl_TonaryValid.calls _ _ t416 t442 _ ?side1 ?side2 A48.out (ht := HT.out.below (by repeat (first | (with_reducible first | exact HB.out | apply below_alloc | apply pw_below_drewN | apply below_drew1) | exact HB.out)))).mono ?_); (case side1 => repeat (first | exact (Kd.N_reads' HO_5.out).2.2 | (with_reducible refine Kd.C_alloc ?_ _) | (with_reducible refine Kd.C_drewN ?_ _) | (with_reducible refine Kd.C_drew ?_))); (case side2 => exact (Kd.N_reads' HO_5.out).2.1); rintro e w55 ⟨rfl, hb⟩; have n0_ := Aside0.mk (Kd.N_below (by (with_reducible repeat (first | apply Kd.N_alloc | apply Kd.N_drewN | apply Kd.N_drew)); exact HO_4.out) hb); have n1_ := Aside0.mk (Kd.N_below (by (with_reducible repeat (first | apply Kd.N_alloc | apply Kd.N_drewN | apply Kd.N_drew)); exact HO_5.out) hb); have n2_ := Aside0.mk (Kd.N_below (by (with_reducible repeat (first | apply Kd.N_alloc | apply Kd.N_drewN | apply Kd.N_drew)); exact HO_9.out) hb); have n3_ := Aside0.mk (Kd.N_below (by (with_reducible repeat (first | apply Kd.N_alloc | apply Kd.N_drewN | apply Kd.N_drew)); exact HO_11.out) hb); have n4_ := Aside0.mk (Kd.N_below (by (with_reducible repeat (first | apply Kd.N_alloc | apply Kd.N_drewN | apply Kd.N_drew)); exact HO_13.out) hb); have n5_ := Aside0.mk (below_step (by repeat (first | (with_reducible first | exact HB.out | apply below_alloc | apply pw_below_drewN | apply below_drew1) | exact HB.out)) hb); clear HO_4; clear HO_5; clear HO_9; clear HO_11; clear HO_13; clear HB; have HO_4 := n0_; have HO_5 := n1_; have HO_9 := n2_; have HO_11 := n3_; have HO_13 := n4_; have HB := n5_; clear n0_ n1_ n2_ n3_ n4_ n5_; (try clear hb); (try clear hb2); (try clear hk); (try clear hi)))
             go_ret
             exact ⟨by first | rfl | (simp [errW_none, errW_some] <;> rfl) | (simp [*, errW_none, errW_some] <;> rfl), by repeat (first | (with_reducible first | exact HB.out | apply below_alloc | apply pw_below_drewN | apply below_drew1) | exact HB.out)⟩
            ·
             replace c47 := Bool.eq_false_iff.mpr c47; subst c47; have H1 : (some false) = some r := by rw [if_neg (show ¬ (false = true) by decide)] at H; exact H
             exact absurd (H1.trans (congrArg some HRR.out)) (by simp)
           ·
            replace c45 := Bool.eq_false_iff.mpr c45; subst c45; have H1 : (some false) = some r := by rw [if_neg (show ¬ (false = true) by decide)] at H; exact H
            exact absurd (H1.trans (congrArg some HRR.out)) (by simp)
          ·
           replace c43 := Bool.eq_false_iff.mpr c43; subst c43; have H1 : (some false) = some r := by rw [if_neg (show ¬ (false = true) by decide)] at H; exact H
           exact absurd (H1.trans (congrArg some HRR.out)) (by simp)
         ·
          replace c41 := Bool.eq_false_iff.mpr c41; subst c41; have H1 : (some false) = some r := by rw [if_neg (show ¬ (false = true) by decide)] at H; exact H
          exact absurd (H1.trans (congrArg some HRR.out)) (by simp)
        ·
         replace c40 := Bool.eq_false_iff.mpr c40; subst c40; have H1 : (some false) = some r := by rw [if_neg (show ¬ (false = true) by decide)] at H; exact H
         exact absurd (H1.trans (congrArg some HRR.out)) (by simp)
end Go.Proofs.YtmacedbpdhkagaaDoor.PFnTonaryJoin
namespace Go.Proofs.YtmacedbpdhkagaaDoor.Pure
set_option linter.unusedVariables false
set_option linter.unusedSimpArgs false
open Go Go.RowKit Go.Proofs.YtmacedbpdhkagaaDoor.PFnTonaryJoin Go.Proofs.YtmacedbpdhkagaaDoorW.PrintWords Go.Proofs.YtmacedbpdhkagaaDoorW.PrintLast Go.Proofs.YtmacedbpdhkagaaDoorW.PrintMore

theorem spec_l6In_eq (a b c : Int) : spec_l6In.f a b c = some (decide (b ≤ a ∧ a ≤ c)) := by
 unfold spec_l6In.f
 by_cases h : a ≥ b
 ·
  rw [if_pos h]; simp [show b ≤ a from h]
 ·
  rw [if_neg h]; simp [show ¬ b ≤ a from h]
theorem spec_ToneValid_eq (a : Int) (b : Bool) : spec_ToneValid.f a b = some (toneOk ⟨a, b⟩) := by
 unfold spec_ToneValid.f toneOk
 rw [spec_l6In_eq]
 by_cases h : 0 ≤ a ∧ a ≤ 20
 ·
  cases b <;> simp [h, spec_l1Letter.f]
 ·
  simp [h]
theorem spec_MelodyValid_ev (m : List S90) (hm : m.length ≤ 1000000000000) : Ev (fun k => spec_MelodyValid.f k m) (melOk m) := by
 unfold spec_MelodyValid.f
 have := Ev.over z90 m (fun k (_ : Unit) i => spec_MelodyValid.l0 k m i) (fun _ l => l.all toneOk && decide (m.length ≤ 24)) (fun _ _ => True) (by
  intro s _
  refine Ev.succ ?_
  simp only [spec_MelodyValid.l0]
  refine Ev.eqr (Ev.neg (by omega) (Ev.now _)) ?_
  simp; omega) (by
  intro s i rest _ hi _ ih
  refine Ev.succ ?_
  simp only [spec_MelodyValid.l0]
  refine Ev.pos (by omega) (Ev.pos (by omega) (Ev.conb (spec_ToneValid_eq _ _) ?_))
  show Ev _ (toneOk (rd_T90 m i) && _ && _)
  cases ht : toneOk (rd_T90 m i)
  ·
   exact Ev.neg (by simp [ht]) (Ev.now _)
  ·
   refine Ev.pos (by simp [ht]) ?_
   rw [w64 (by omega) (by omega)]
   simpa using ih () trivial) 0 () (Nat.zero_le _) trivial
 refine Ev.eqr (by simpa using this) ?_
 unfold melOk
 rw [Bool.and_comm]

theorem spec_l5Mode_eq (mode : Int) : spec_l5Mode.f mode = some (mOk mode) := by
 unfold spec_l5Mode.f
 rw [spec_l6In_eq]; rfl
theorem spec_l5Entry_ev (e : S38) (hs : e.f0.size ≤ 9000000000000000) (hl : e.f2.length ≤ 1000000000000) : Ev (fun n => spec_l5Entry.f n e.f0 e.f1 e.f2) (entOk e) := by
 unfold spec_l5Entry.f
 have key : ∀ d i : Nat, i + d = e.f0.size → Ev (fun n => spec_l5Entry.l0 n (i : Int) e.f0 e.f1 e.f2) (lowB (e.f0.data.toList.drop i) && (decide (1 ≤ e.f0.size ∧ e.f0.size ≤ 10) && (mOk e.f1 && (melOk e.f2 && decide (1 ≤ e.f2.length ∧ e.f2.length ≤ 8))))) := by
  intro d
  induction d with
  | zero =>
   intro i hi
   refine Ev.succ ?_
   simp only [spec_l5Entry.l0]
   rw [List.drop_of_length_le (by simp; omega)]
   refine Ev.neg (by omega) (Ev.conb (spec_l6In_eq _ _ _) ?_)
   rw [show (decide ((1 : Int) ≤ (e.f0.size : Int) ∧ (e.f0.size : Int) ≤ 10)) = decide (1 ≤ e.f0.size ∧ e.f0.size ≤ 10) from decide_eq_decide.2 (by omega)]
   show Ev _ (true && _)
   rw [Bool.true_and]
   cases decide (1 ≤ e.f0.size ∧ e.f0.size ≤ 10)
   ·
    exact Ev.neg (by simp) (Ev.now _)
   refine Ev.pos rfl (Ev.conb (spec_l5Mode_eq _) ?_)
   rw [Bool.true_and]
   cases mOk e.f1
   ·
    exact Ev.neg (by simp) (Ev.now _)
   refine Ev.pos rfl (Ev.bind (spec_MelodyValid_ev e.f2 hl) ?_)
   rw [Bool.true_and]
   cases melOk e.f2
   ·
    exact Ev.neg (by simp) (Ev.now _)
   refine Ev.pos rfl (Ev.conb (spec_l6In_eq _ _ _) (Ev.eqr (Ev.now _) ?_))
   rw [Bool.true_and]
   exact decide_eq_decide.2 (by omega)
  | succ d ih =>
   intro i hi
   obtain ⟨c, hc, hdr⟩ := bt_get e.f0 i (by omega)
   refine Ev.succ ?_
   simp only [spec_l5Entry.l0]
   rw [hc, hdr, w64 (x := (i : Int) + 1) (by omega) (by omega)]
   have e2 : lowB (c :: e.f0.data.toList.drop (i + 1)) = (decide (97 ≤ c.toNat ∧ c.toNat ≤ 122) && lowB (e.f0.data.toList.drop (i + 1))) := rfl
   rw [e2]
   refine Ev.pos (by omega) (Ev.pos (by omega) ?_)
   by_cases h97 : (c.toNat : Int) < 97
   ·
    refine Ev.pos h97 (Ev.eqr (Ev.now _) ?_)
    rw [decide_eq_false (by omega)]; rfl
   refine Ev.neg h97 ?_
   by_cases h122 : (c.toNat : Int) > 122
   ·
    refine Ev.pos h122 (Ev.eqr (Ev.now _) ?_)
    rw [decide_eq_false (by omega)]; rfl
   refine Ev.neg h122 ?_
   rw [decide_eq_true (show 97 ≤ c.toNat ∧ c.toNat ≤ 122 by omega), Bool.true_and]
   exact ih (i + 1) (by omega)
 refine Ev.eqr (key e.f0.size 0 (by omega)) ?_
 unfold entOk
 rw [List.drop_zero]
 cases lowB e.f0.data.toList <;> cases mOk e.f1 <;> cases melOk e.f2 <;> cases decide (1 ≤ e.f0.size ∧ e.f0.size ≤ 10) <;> cases decide (1 ≤ e.f2.length ∧ e.f2.length ≤ 8) <;> rfl
theorem spec_l5Before_eq (p e : S38) : spec_l5Before.f p.f0 p.f1 p.f2 e.f0 e.f1 e.f2 = some (befE p e) := by
 unfold spec_l5Before.f befE nmLt
 by_cases h1 : p.f1 < e.f1
 ·
  rw [if_pos h1, if_pos h1]
 rw [if_neg h1, if_neg h1]
 by_cases h2 : p.f1 = e.f1
 ·
  rw [if_pos h2, if_pos h2]
 ·
  rw [if_neg h2, if_neg h2]
theorem spec_TonaryValid_ev (L : List S38) (hl : L.length ≤ 1000000000000) (hz : entSz L = true) : Ev (fun n => spec_TonaryValid.f n L) (tonOk L) := by
 have HZ := entSz_all hz
 unfold spec_TonaryValid.f
 have key : ∀ d i : Nat, i + d = L.length → Ev (fun n => spec_TonaryValid.l0 n L (i : Int)) (tOkFrom (prevOf L i) (L.drop i) && decide (L.length ≤ 20)) := by
  intro d
  induction d with
  | zero =>
   intro i hi
   refine Ev.succ ?_
   simp only [spec_TonaryValid.l0]
   rw [List.drop_of_length_le (by omega)]
   refine Ev.neg (by omega) (Ev.eqr (Ev.now _) ?_)
   have : tOkFrom (prevOf L i) [] = true := by cases prevOf L i <;> rfl
   rw [this, Bool.true_and]
   exact decide_eq_decide.2 (by omega)
  | succ d ih =>
   intro i hi
   have hlt : i < L.length := by omega
   have hzi := HZ _ (rd_ent L i hlt)
   have ih := ih (i + 1) (by omega)
   rw [prev_next] at ih
   refine Ev.succ ?_
   simp only [spec_TonaryValid.l0]
   rw [rd_drop L i hlt, w64 (x := (i : Int) + 1) (by omega) (by omega)]
   refine Ev.pos (by omega) (Ev.pos (by omega) (Ev.bind (spec_l5Entry_ev (rd_T38 L (i : Int)) hzi.1 hzi.2) ?_))
   cases hve : entOk (rd_T38 L (i : Int))
   ·
    refine Ev.neg (by simp) (Ev.eqr (Ev.now _) ?_)
    cases prevOf L i <;> (simp only [tOkFrom]; rw [hve]; rfl)
   refine Ev.pos rfl ?_
   by_cases h0 : (i : Int) > 0
   ·
    refine Ev.pos h0 ?_
    rw [w64 (x := (i : Int) - 1) (by omega) (by omega)]
    have hp : prevOf L i = some (rd_T38 L ((i : Int) - 1)) := by unfold prevOf; rw [if_neg (by omega)]
    refine Ev.pos (by omega) (Ev.pos (by omega) (Ev.conb (spec_l5Before_eq _ _) ?_))
    rw [hp]
    simp only [tOkFrom]
    rw [hve, Bool.true_and]
    cases befE (rd_T38 L ((i : Int) - 1)) (rd_T38 L (i : Int))
    ·
     exact Ev.neg (by simp) (Ev.now _)
    ·
     refine Ev.pos rfl ?_
     rw [Bool.true_and]
     exact ih
   ·
    refine Ev.neg h0 ?_
    have hp : prevOf L i = none := by unfold prevOf; rw [if_pos (by omega)]
    rw [hp]
    simp only [tOkFrom]
    rw [hve, Bool.true_and]
    exact ih
 refine Ev.eqr (key L.length 0 (by omega)) ?_
 unfold tonOk
 rw [Bool.and_comm, List.drop_zero]; rfl

theorem spec_l5Copy_eq (e : S38) (h : e.f2.length ≤ 1000000000000) : spec_l5Copy.f e.f0 e.f1 e.f2 = some (e.f0, e.f1, e.f2) := by
 unfold spec_l5Copy.f
 simp only [Option.bind_some, List.nil_append, List.length_nil]
 rw [if_pos (by omega)]

def insR (L : List S38) (e : S38) (at_ i : Nat) : List S38 := if i ≤ at_ then (L.drop i).take (at_ - i) ++ e :: L.drop at_ else L.drop i
theorem insR_zero (L : List S38) (e : S38) (a : Nat) : insR L e a 0 = insAt L a e := by
 unfold insR insAt
 rw [if_pos (Nat.zero_le _), List.drop_zero, Nat.sub_zero]
theorem insR_lt (L : List S38) (e : S38) (a i : Nat) (hi : i < L.length) (ha : i < a) : insR L e a i = rd_T38 L (i : Int) :: insR L e a (i + 1) := by
 unfold insR
 rw [if_pos (by omega), if_pos (by omega), rd_drop L i hi, show a - i = (a - (i + 1)) + 1 by omega, List.take_succ_cons]; rfl
theorem insR_eq (L : List S38) (e : S38) (i : Nat) (hi : i < L.length) : insR L e i i = e :: rd_T38 L (i : Int) :: insR L e i (i + 1) := by
 unfold insR
 rw [if_pos (Nat.le_refl _), if_neg (by omega), Nat.sub_self, List.take_zero, rd_drop L i hi]; rfl
theorem insR_gt (L : List S38) (e : S38) (a i : Nat) (hi : i < L.length) (ha : a < i) : insR L e a i = rd_T38 L (i : Int) :: insR L e a (i + 1) := by
 unfold insR
 rw [if_neg (by omega), if_neg (by omega), rd_drop L i hi]
theorem insR_end (L : List S38) (e : S38) (a : Nat) (ha : a ≤ L.length) : insR L e a L.length = if a = L.length then [e] else [] := by
 unfold insR
 by_cases h : a = L.length
 ·
  subst h
  rw [if_pos (Nat.le_refl _), if_pos rfl, Nat.sub_self, List.take_zero, List.drop_length]; rfl
 ·
  rw [if_neg (by omega), if_neg h, List.drop_length]
theorem entSz_ins {L : List S38} {e : S38} (n : Nat) (hz : entSz L = true) (he : e.f0.size ≤ 9000000000000000 ∧ e.f2.length ≤ 1000000000000) : entSz (insAt L n e) = true := by
 unfold insAt
 refine List.all_eq_true.2 fun x hx => decide_eq_true ?_
 rcases List.mem_append.1 hx with h | h
 ·
  exact entSz_all hz x (List.mem_of_mem_take h)
 ·
  rcases List.mem_cons.1 h with rfl | h
  ·
   exact he
  ·
   exact entSz_all hz x (List.mem_of_mem_drop h)
theorem spec_TonaryAdd_ev (L : List S38) (e : S38) (hl : L.length ≤ 1000000000) (hz : entSz L = true) (he : e.f0.size ≤ 9000000000000000 ∧ e.f2.length ≤ 1000000000000) :
 Ev (fun n => spec_TonaryAdd.f n L e.f0 e.f1 e.f2) (tonAdd L e) := by
 have HZ := entSz_all hz
 have hv := spec_TonaryValid_ev L (by omega) hz
 unfold spec_TonaryAdd.f tonAdd
 refine Ev.conb rfl (Ev.bind hv ?_)
 cases hk : tonOk L
 ·
  rw [if_neg (by simp)]
  exact Ev.neg (by simp) (Ev.now _)
 rw [if_pos rfl]
 refine Ev.pos rfl ?_
 have hec := spec_l5Copy_eq e he.2
 have key1 : ∀ (a : Nat), a ≤ L.length → ∀ (d i : Nat) (X : List S38), i + d = L.length → X.length ≤ 2 * i → X ++ insR L e a i = insAt L a e → Ev (fun n => spec_TonaryAdd.l1 n L X (a : Int) (i : Int) e.f0 e.f1 e.f2) (tonRes (insAt L a e)) := by
  intro a ha d
  have hvz := spec_TonaryValid_ev (insAt L a e) (by rw [insAt_len]; omega) (entSz_ins a hz he)
  induction d with
  | zero =>
   intro i X hi hX hin
   obtain rfl : i = L.length := by omega
   rw [insR_end L e a ha] at hin
   refine Ev.succ ?_
   simp only [spec_TonaryAdd.l1]
   refine Ev.neg (by omega) ?_
   unfold tonRes
   by_cases h : a = L.length
   ·
    rw [if_pos h] at hin
    refine Ev.pos (by omega) (Ev.conb hec (Ev.pos (by omega) (Ev.conb rfl ?_)))
    rw [show (⟨e.f0, e.f1, e.f2⟩ : S38) = e from rfl, hin]
    refine Ev.bind hvz ?_
    cases tonOk (insAt L a e)
    ·
     exact Ev.neg (by simp) (Ev.now _)
    ·
     exact Ev.pos rfl (Ev.now _)
   ·
    rw [if_neg h, List.append_nil] at hin
    refine Ev.neg (by omega) ?_
    rw [hin]
    refine Ev.bind hvz ?_
    cases tonOk (insAt L a e)
    ·
     exact Ev.neg (by simp) (Ev.now _)
    ·
     exact Ev.pos rfl (Ev.now _)
  | succ d ih =>
   intro i X hi hX hin
   have hlt : i < L.length := by omega
   have hzi := HZ _ (rd_ent L i hlt)
   have hrc := spec_l5Copy_eq (rd_T38 L (i : Int)) hzi.2
   have ih1 := fun X hX hin => ih (i + 1) X (by omega) hX hin
   rw [show ((i + 1 : Nat) : Int) = (i : Int) + 1 by omega] at ih1
   refine Ev.succ ?_
   simp only [spec_TonaryAdd.l1]
   rw [w64 (x := (i : Int) + 1) (by omega) (by omega)]
   refine Ev.pos (by omega) ?_
   by_cases hia : i = a
   ·
    subst hia
    rw [insR_eq L e i hlt] at hin
    refine Ev.pos rfl (Ev.conb hec (Ev.pos (by omega) (Ev.conb rfl (Ev.pos (by omega) (Ev.conb hrc (Ev.pos (by rw [List.length_append, List.length_singleton]; omega) ?_))))))
    refine ih1 _ (by rw [List.length_append, List.length_append, List.length_singleton, List.length_singleton]; omega) ?_
    rw [← hin]; simp
   ·
    refine Ev.neg (by omega) (Ev.pos (by omega) (Ev.conb hrc (Ev.pos (by omega) ?_)))
    refine ih1 _ (by rw [List.length_append, List.length_singleton]; omega) ?_
    rw [← hin]
    by_cases hlt2 : i < a
    ·
     rw [insR_lt L e a i hlt hlt2]; simp
    ·
     rw [insR_gt L e a i hlt (by omega)]; simp
 have key0 : ∀ (d i : Nat), i + d = L.length → Ev (fun n => spec_TonaryAdd.l0 n L [] (i : Int) e.f0 e.f1 e.f2) (tonRes (insAt L (i + befN (L.drop i) e) e)) := by
  intro d
  have fin : ∀ i : Nat, i ≤ L.length → Ev (fun n => spec_TonaryAdd.j1 n L [] (i : Int) e.f0 e.f1 e.f2) (tonRes (insAt L i e)) := by
   intro i hi
   refine Ev.succ ?_
   simp only [spec_TonaryAdd.j1]
   exact key1 i hi L.length 0 [] (by omega) (by simp) (by rw [insR_zero]; rfl)
  induction d with
  | zero =>
   intro i hi
   refine Ev.succ ?_
   simp only [spec_TonaryAdd.l0]
   refine Ev.neg (by omega) ?_
   rw [List.drop_of_length_le (by omega), show befN [] e = 0 from rfl, Nat.add_zero]
   exact fin i (by omega)
  | succ d ih =>
   intro i hi
   have hlt : i < L.length := by omega
   have ih1 := ih (i + 1) (by omega)
   rw [show ((i + 1 : Nat) : Int) = (i : Int) + 1 by omega] at ih1
   refine Ev.succ ?_
   simp only [spec_TonaryAdd.l0]
   rw [w64 (x := (i : Int) + 1) (by omega) (by omega)]
   refine Ev.pos (by omega) (Ev.pos (by omega) (Ev.conb (spec_l5Before_eq _ _) ?_))
   rw [rd_drop L i hlt]
   cases hb : befE (rd_T38 L (i : Int)) e
   ·
    refine Ev.neg (by simp) ?_
    rw [show befN (rd_T38 L (i : Int) :: L.drop (i + 1)) e = 0 by unfold befN; rw [List.takeWhile_cons, hb]; rfl, Nat.add_zero]
    exact fin i (by omega)
   ·
    refine Ev.pos rfl ?_
    rw [show i + befN (rd_T38 L (i : Int) :: L.drop (i + 1)) e = i + 1 + befN (L.drop (i + 1)) e by unfold befN; rw [List.takeWhile_cons, hb]; simp only [if_true, List.length_cons]; omega]
    exact ih1
 have := key0 L.length 0 (by omega)
 simpa using this

theorem spec_l4Equal_ev (a b : List S90) (hl : a.length ≤ 1000000000000000) : Ev (fun k => spec_l4Equal.f k a b) (decide (a = b)) := by
 unfold spec_l4Equal.f
 by_cases hlen : (a.length : Int) = (b.length : Int)
 ·
  refine Ev.pos hlen ?_
  have key : ∀ d i : Nat, i + d = a.length → Ev (fun k => spec_l4Equal.l0 k a b (i : Int)) (decide (a.drop i = b.drop i)) := by
   intro d
   induction d with
   | zero =>
    intro i hi
    refine Ev.succ ?_
    simp only [spec_l4Equal.l0]
    refine Ev.neg (by omega) (Ev.eqr (Ev.now _) ?_)
    rw [List.drop_of_length_le (by omega), List.drop_of_length_le (by omega)]; rfl
   | succ d ih =>
    intro i hi
    have ha : i < a.length := by omega
    have hb : i < b.length := by omega
    have ih := ih (i + 1) (by omega)
    rw [show ((i + 1 : Nat) : Int) = (i : Int) + 1 by omega] at ih
    refine Ev.succ ?_
    simp only [spec_l4Equal.l0]
    rw [w64 (x := (i : Int) + 1) (by omega) (by omega)]
    have e1 : rd_T90 a (i : Int) = a[i] := by unfold rd_T90; rw [Int.toNat_natCast, List.getD_eq_getElem?_getD, List.getElem?_eq_getElem ha]; rfl
    have e2 : rd_T90 b (i : Int) = b[i] := by unfold rd_T90; rw [Int.toNat_natCast, List.getD_eq_getElem?_getD, List.getElem?_eq_getElem hb]; rfl
    rw [e1, e2, List.drop_eq_getElem_cons ha, List.drop_eq_getElem_cons hb]
    refine Ev.pos (by omega) (Ev.pos (by omega) (Ev.pos (by omega) ?_))
    by_cases h : a[i] = b[i]
    ·
     rw [h]
     refine Ev.neg (by simp) (Ev.eqr ih ?_)
     refine decide_eq_decide.2 ⟨fun h => by rw [h], fun h => by injection h⟩
    ·
     refine Ev.pos ?_ (Ev.eqr (Ev.now _) ?_)
     ·
      by_cases h0 : a[i].f0 = b[i].f0
      ·
       have h1 : ¬ a[i].f1 = b[i].f1 := fun h1 => h (by
        cases ha : a[i]; cases hb : b[i]
        rw [ha, hb] at h0 h1
        exact congr (congrArg _ h0) h1)
       simp [h1]
      ·
       simp [h0]
     ·
      exact (decide_eq_false (fun h2 => h (by injection h2))).symm
  exact key a.length 0 (by omega)
 ·
  refine Ev.neg hlen (Ev.eqr (Ev.now _) ?_)
  exact (decide_eq_false (fun h => hlen (by rw [h]))).symm
theorem mrg_sz : ∀ (n : Nat) (a b Y : List S38), a.length + b.length ≤ n → mrg a b = some Y → Y.length ≤ a.length + b.length ∧ ∀ x ∈ Y, x ∈ a ∨ x ∈ b
 | n, [], b, Y, _, h => by rw [mrg_nil] at h; cases h; exact ⟨by simp, fun x hx => .inr hx⟩
 | n, a :: us, [], Y, _, h => by rw [mrg_nil2] at h; cases h; exact ⟨by simp, fun x hx => .inl hx⟩
 | 0, a :: us, b :: ws, Y, hn, _ => by simp at hn
 | n + 1, a :: us, b :: ws, Y, hn, h => by
  simp only [List.length_cons] at hn ⊢
  cases h1 : befE a b
  ·
   cases h2 : befE b a
   ·
    rw [mrg_eq _ _ h1 h2] at h
    split at h
    ·
     obtain ⟨Z, hZ, rfl⟩ := Option.map_eq_some_iff.1 h
     obtain ⟨k1, k2⟩ := mrg_sz n us ws Z (by omega) hZ
     refine ⟨by simp only [List.length_cons]; omega, fun x hx => ?_⟩
     rcases List.mem_cons.1 hx with rfl | hx
     ·
      exact .inl List.mem_cons_self
     ·
      rcases k2 x hx with h | h
      ·
       exact .inl (List.mem_cons_of_mem _ h)
      ·
       exact .inr (List.mem_cons_of_mem _ h)
    ·
     cases h
   ·
    rw [mrg_gt _ _ h1 h2] at h
    obtain ⟨Z, hZ, rfl⟩ := Option.map_eq_some_iff.1 h
    obtain ⟨k1, k2⟩ := mrg_sz n (a :: us) ws Z (by simp only [List.length_cons]; omega) hZ
    simp only [List.length_cons] at k1
    refine ⟨by simp only [List.length_cons]; omega, fun x hx => ?_⟩
    rcases List.mem_cons.1 hx with rfl | hx
    ·
     exact .inr List.mem_cons_self
    ·
     rcases k2 x hx with h | h
     ·
      exact .inl h
     ·
      exact .inr (List.mem_cons_of_mem _ h)
  ·
   rw [mrg_lt _ _ h1] at h
   obtain ⟨Z, hZ, rfl⟩ := Option.map_eq_some_iff.1 h
   obtain ⟨k1, k2⟩ := mrg_sz n us (b :: ws) Z (by simp only [List.length_cons]; omega) hZ
   simp only [List.length_cons] at k1
   refine ⟨by simp only [List.length_cons]; omega, fun x hx => ?_⟩
   rcases List.mem_cons.1 hx with rfl | hx
   ·
    exact .inl List.mem_cons_self
   ·
    rcases k2 x hx with h | h
    ·
     exact .inl (List.mem_cons_of_mem _ h)
    ·
     exact .inr h
theorem spec_l5Equal_ev (a b : S38) (hl : a.f2.length ≤ 1000000000000000) (h1 : a.f1 = b.f1) (h0 : a.f0 = b.f0) : Ev (fun n => spec_l5Equal.f n a.f0 a.f1 a.f2 b.f0 b.f1 b.f2) (decide (a.f2 = b.f2)) := by
 unfold spec_l5Equal.f
 refine Ev.pos (by rw [h0]) (Ev.pos h1 (Ev.bind (spec_l4Equal_ev a.f2 b.f2 hl) (Ev.now _)))
theorem spec_TonaryJoin_ev (a b : List S38) (hla : a.length ≤ 100000000) (hlb : b.length ≤ 100000000) (hza : entSz a = true) (hzb : entSz b = true) : Ev (fun n => spec_TonaryJoin.f n a b) (tonJoin a b) := by
 have hva := spec_TonaryValid_ev a (by omega) hza
 have hvb := spec_TonaryValid_ev b (by omega) hzb
 rw [tonJoin_eq]
 unfold spec_TonaryJoin.f
 have no : Ev (fun n => spec_TonaryJoin.j0 n a b true) ([], false) := by
  refine Ev.succ ?_
  simp only [spec_TonaryJoin.j0]
  exact Ev.pos (by simp) (Ev.now _)
 refine Ev.bind hva ?_
 cases hka : tonOk a
 ·
  rw [if_neg (by decide)]
  exact Ev.neg (by decide) no
 rw [if_pos rfl]
 refine Ev.pos (by simp) (Ev.bind hvb ?_)
 cases hkb : tonOk b
 ·
  rw [if_neg (by decide)]
  exact no
 rw [if_pos rfl]
 refine Ev.succ ?_
 simp only [spec_TonaryJoin.j0]
 refine Ev.neg (by decide) ?_
 have base : ∀ (X : List S38), X.length ≤ a.length + b.length → entSz X = true → Ev (fun n => spec_TonaryJoin.l0 n a b X (a.length : Int) (b.length : Int)) (mrgRes ((mrg (a.drop a.length) (b.drop b.length)).map (X ++ ·))) := by
  intro X hX hXz
  rw [List.drop_length, List.drop_length, mrg_nil]
  have hvX := spec_TonaryValid_ev X (by omega) hXz
  refine Ev.succ ?_
  simp only [spec_TonaryJoin.l0]
  refine Ev.neg (by omega) ?_
  rw [decide_eq_false (show ¬ (b.length : Int) < (b.length : Int) by omega)]
  refine Ev.succ ?_
  simp only [spec_TonaryJoin.j2]
  refine Ev.neg (by decide) (Ev.bind hvX ?_)
  show Ev _ (tonRes (X ++ []))
  rw [List.append_nil]
  unfold tonRes
  cases tonOk X
  ·
   exact Ev.neg (by decide) (Ev.now _)
  ·
   exact Ev.pos (by simp) (Ev.now _)
 have key : ∀ (d i k : Nat) (X : List S38), i ≤ a.length → k ≤ b.length → (a.length - i) + (b.length - k) ≤ d → X.length ≤ i + k → entSz X = true → Ev (fun n => spec_TonaryJoin.l0 n a b X (i : Int) (k : Int)) (mrgRes ((mrg (a.drop i) (b.drop k)).map (X ++ ·))) := by
  intro d
  induction d with
  | zero =>
   intro i k X hi hk hd hX hXz
   obtain rfl : i = a.length := by omega
   obtain rfl : k = b.length := by omega
   exact base X hX hXz
  | succ d ih =>
   intro i k X hi hk hd hX hXz
   by_cases hend : i = a.length ∧ k = b.length
   ·
    obtain ⟨rfl, rfl⟩ := hend
    exact base X hX hXz
   have sz1 : ∀ x : S38, (x ∈ a ∨ x ∈ b) → entSz (X ++ [x]) = true := fun x hx => by
    unfold entSz
    rw [List.all_append, Bool.and_eq_true]
    refine ⟨hXz, ?_⟩
    have := hx.elim (entSz_all hza x) (entSz_all hzb x)
    simpa using this
   -- the first case: a's entry
   have stepA : i < a.length → Ev (fun n => spec_TonaryJoin.j3 n a b X (i : Int) (k : Int) true) (mrgRes (((mrg (a.drop (i + 1)) (b.drop k)).map (rd_T38 a (i : Int) :: ·)).map (X ++ ·))) := by
    intro hia
    have hm := rd_ent a i hia
    have hg := entSz_all hza _ hm
    refine Ev.succ ?_
    simp only [spec_TonaryJoin.j3]
    refine Ev.pos (by simp) (Ev.pos (by omega) (Ev.pos (by omega) (Ev.conb (spec_l5Copy_eq _ (by omega)) (Ev.pos (by omega) ?_))))
    rw [w64 (x := (i : Int) + 1) (by omega) (by omega)]
    refine Ev.eqr (ih (i + 1) k (X ++ [rd_T38 a (i : Int)]) (by omega) hk (by omega) (by rw [List.length_append, List.length_singleton]; omega) (sz1 _ (.inl hm))) ?_
    cases mrg (a.drop (i + 1)) (b.drop k) with
    | none => rfl
    | some Y => simp
   have j3f : k < b.length → (i = a.length ∨ (i < a.length ∧ befE (rd_T38 a (i : Int)) (rd_T38 b (k : Int)) = false)) → Ev (fun n => spec_TonaryJoin.j3 n a b X (i : Int) (k : Int) false) (mrgRes ((mrg (a.drop i) (b.drop k)).map (X ++ ·))) := by
    intro hkb hor
    have hm := rd_ent b k hkb
    have hg := entSz_all hzb _ hm
    have stepB : Ev (fun n => spec_TonaryJoin.j4 n a b X (i : Int) (k : Int) true) (mrgRes (((mrg (a.drop i) (b.drop (k + 1))).map (rd_T38 b (k : Int) :: ·)).map (X ++ ·))) := by
     refine Ev.succ ?_
     simp only [spec_TonaryJoin.j4]
     refine Ev.pos (by simp) (Ev.pos (by omega) (Ev.pos (by omega) (Ev.conb (spec_l5Copy_eq _ (by omega)) (Ev.pos (by omega) ?_))))
     rw [w64 (x := (k : Int) + 1) (by omega) (by omega)]
     refine Ev.eqr (ih i (k + 1) (X ++ [rd_T38 b (k : Int)]) hi (by omega) (by omega) (by rw [List.length_append, List.length_singleton]; omega) (sz1 _ (.inr hm))) ?_
     cases mrg (a.drop i) (b.drop (k + 1)) with
     | none => rfl
     | some Y => simp
    refine Ev.succ ?_
    simp only [spec_TonaryJoin.j3]
    refine Ev.neg (by decide) ?_
    rcases hor with rfl | ⟨hia, hlt⟩
    ·
     refine Ev.pos (by simp) (Ev.eqr stepB ?_)
     rw [List.drop_length, mrg_nil, mrg_nil, rd_drop b k hkb]
     simp
    ·
     have hma := rd_ent a i hia
     have hga := entSz_all hza _ hma
     refine Ev.neg (by omega) (Ev.pos (by omega) (Ev.pos (by omega) (Ev.pos (by omega) (Ev.pos (by omega) (Ev.conb (spec_l5Before_eq _ _) ?_)))))
     rw [rd_drop a i hia, rd_drop b k hkb]
     rw [rd_drop a i hia] at stepB
     cases hgt : befE (rd_T38 b (k : Int)) (rd_T38 a (i : Int))
     ·
      rw [mrg_eq _ _ hlt hgt]
      obtain ⟨k1, k0⟩ := key_same hlt hgt
      refine Ev.succ ?_
      simp only [spec_TonaryJoin.j4]
      refine Ev.neg (by decide) (Ev.pos (by omega) (Ev.pos (by omega) (Ev.pos (by omega) (Ev.pos (by omega) (Ev.bind (spec_l5Equal_ev _ _ (by omega) k1 k0) ?_)))))
      by_cases hs : (rd_T38 a (i : Int)).f2 = (rd_T38 b (k : Int)).f2
      ·
       rw [if_pos hs]
       refine Ev.pos (decide_eq_true hs) (Ev.conb (spec_l5Copy_eq _ (by omega)) (Ev.pos (by omega) ?_))
       rw [w64 (x := (i : Int) + 1) (by omega) (by omega), w64 (x := (k : Int) + 1) (by omega) (by omega)]
       refine Ev.eqr (ih (i + 1) (k + 1) (X ++ [rd_T38 a (i : Int)]) (by omega) (by omega) (by omega) (by rw [List.length_append, List.length_singleton]; omega) (sz1 _ (.inl hma))) ?_
       cases mrg (a.drop (i + 1)) (b.drop (k + 1)) with
       | none => rfl
       | some Y => simp
      ·
       rw [if_neg hs]
       exact Ev.neg (by rw [decide_eq_false hs]; decide) (Ev.now _)
     ·
      rw [mrg_gt _ _ hlt hgt]
      exact stepB
   refine Ev.succ ?_
   simp only [spec_TonaryJoin.l0]
   have j2t : Ev (fun n => spec_TonaryJoin.j2 n a b X (i : Int) (k : Int) true) (mrgRes ((mrg (a.drop i) (b.drop k)).map (X ++ ·))) := by
    refine Ev.succ ?_
    simp only [spec_TonaryJoin.j2]
    refine Ev.pos (by simp) ?_
    by_cases hkb : k = b.length
    ·
     subst hkb
     have hia : i < a.length := by omega
     refine Ev.pos (by simp) (Ev.eqr (stepA hia) ?_)
     rw [List.drop_length, mrg_nil2, mrg_nil2, rd_drop a i hia]; rfl
    ·
     refine Ev.neg (by omega) ?_
     have hkb : k < b.length := by omega
     by_cases hia : i < a.length
     ·
      refine Ev.pos (by omega) (Ev.pos (by omega) (Ev.pos (by omega) (Ev.pos (by omega) (Ev.conb (spec_l5Before_eq _ _) ?_))))
      cases hlt : befE (rd_T38 a (i : Int)) (rd_T38 b (k : Int))
      ·
       exact j3f hkb (.inr ⟨hia, hlt⟩)
      ·
       refine Ev.eqr (stepA hia) ?_
       rw [rd_drop a i hia, rd_drop b k hkb, mrg_lt _ _ hlt]
     ·
      exact Ev.neg (by omega) (j3f hkb (.inl (by omega)))
   by_cases hia : i < a.length
   ·
    exact Ev.pos (by omega) j2t
   ·
    refine Ev.neg (by omega) ?_
    rw [decide_eq_true (show (k : Int) < (b.length : Int) by omega)]
    exact j2t
 have := key (a.length + b.length) 0 0 [] (by omega) (by omega) (by omega) (by simp) rfl
 have e : (mrg a b).map (([] : List S38) ++ ·) = mrg a b := by cases mrg a b <;> simp
 simp only [List.drop_zero] at this
 rw [e] at this
 exact this

end Go.Proofs.YtmacedbpdhkagaaDoor.Pure
namespace Go.Proofs.YtmacedbpdhkagaaDoor.Pure
set_option linter.unusedVariables false
set_option linter.unusedSimpArgs false
open Go Go.RowKit Go.Proofs.YtmacedbpdhkagaaDoor.PFnTonaryJoin Go.Proofs.YtmacedbpdhkagaaDoorW.PrintWords Go.Proofs.YtmacedbpdhkagaaDoorW.PrintLast Go.Proofs.YtmacedbpdhkagaaDoorW.PrintMore

structure Code (s : List Int) : Prop where
 b : ∀ x ∈ s, 0 ≤ x ∧ x ≤ 255
 l : s.length ≤ 2000
theorem open_ev (l0 : List Int) (hw : ∀ x ∈ l0, (Lit.int .u8 x).wf = true) : ∃ s, spec_l6Open.f l0 = some (s, 0) ∧ Code s := by
 have hb : ∀ x ∈ l0, 0 ≤ x ∧ x ≤ 255 := by
  intro x hx
  have := hw x hx
  have e1 : IntKind.u8.min = 0 := by decide
  have e2 : IntKind.u8.max = 255 := by decide
  simp only [Lit.wf, e1, e2] at this
  simpa using this
 unfold spec_l6Open.f
 by_cases h : (l0.length : Int) > 2000
 ·
  refine ⟨l0.take 2000, by rw [if_pos h, if_pos (by omega)], ⟨fun x hx => hb x (List.mem_of_mem_take hx), by rw [List.length_take]; omega⟩⟩
 ·
  exact ⟨l0, by rw [if_neg h], ⟨hb, by omega⟩⟩
theorem pick_ev {s : List Int} (hc : Code s) (p n : Int) (hp : 0 ≤ p) (hp' : p ≤ 1000000000) :
 Evx (fun k => spec_l6Rd_pick.f k s p n) (fun r => 0 ≤ r.1 ∧ (r.1 < n ∨ r.1 = 0) ∧ r.2 = p + 1) := by
 have hw : wrap64 (p + 1) = p + 1 := w64 (by omega) (by omega)
 have hw' : wrap64 (p + 1 - 1) = p := by rw [w64 (by omega) (by omega)]; omega
 have hl := hc.l
 unfold spec_l6Rd_pick.f
 rw [hw]
 by_cases hn : n < 1
 ·
  refine Evx.pos hn (Evx.succ ?_)
  simp only [spec_l6Rd_pick.j0, if_true]
  exact Evx.now ⟨by simp, by simp, rfl⟩
 ·
  refine Evx.neg hn (Evx.succ ?_)
  have tm : ∀ x : Int, 0 ≤ x → 0 ≤ Int.tmod x n ∧ Int.tmod x n < n := fun x hx => ⟨Int.tmod_nonneg n hx, Int.tmod_lt_of_pos x (by omega)⟩
  by_cases h0 : s.length = 0
  ·
   have e : ((s.length : Int) == 0) = true := by simp [h0]
   simp only [spec_l6Rd_pick.j0, e, if_true]
   exact Evx.now ⟨by simp, by simp, rfl⟩
  ·
   have e : ((s.length : Int) == 0) = false := by rw [beq_eq_false_iff_ne]; omega
   simp only [spec_l6Rd_pick.j0, e, hw']
   refine Evx.neg (by simp) ?_
   by_cases hlt : p < (s.length : Int)
   ·
    refine Evx.pos hlt (Evx.pos hp (Evx.neg (by omega) (Evx.now ?_)))
    have hb := rd_bd hc.b p
    rw [w64 (x := rd s p) (by omega) (by omega)]
    have := tm (rd s p) hb.1
    exact ⟨this.1, .inl this.2, rfl⟩
   ·
    refine Evx.neg hlt (Evx.neg (by omega) ?_)
    have t1 : 0 ≤ Int.tmod p s.length := Int.tmod_nonneg _ hp
    have t1' : Int.tmod p s.length < s.length := Int.tmod_lt_of_pos p (by omega)
    rw [w64 (x := p * 7) (by omega) (by omega), w64 (x := p * 7 + 3) (by omega) (by omega)]
    have t2 : 0 ≤ Int.tmod (p * 7 + 3) s.length := Int.tmod_nonneg _ (by omega)
    have t2' : Int.tmod (p * 7 + 3) s.length < s.length := Int.tmod_lt_of_pos _ (by omega)
    refine Evx.pos t1 (Evx.pos t1' (Evx.pos t2 (Evx.pos t2' (Evx.neg (by omega) (Evx.now ?_)))))
    have hb1 := rd_bd hc.b (Int.tmod p s.length)
    have hb2 := rd_bd hc.b (Int.tmod (p * 7 + 3) s.length)
    have hd : 0 ≤ Int.tdiv p s.length ∧ Int.tdiv p s.length ≤ p := by
     rw [Int.tdiv_eq_ediv_of_nonneg hp]
     exact ⟨Int.ediv_nonneg hp (by omega), Int.ediv_le_self _ hp⟩
    generalize rd s (Int.tmod p s.length) = a at *
    generalize rd s (Int.tmod (p * 7 + 3) s.length) = b at *
    generalize Int.tdiv p s.length = c at *
    obtain ⟨X, hX, hX0, hX1⟩ : ∃ X : Int, wrap64 (wrap64 (wrap64 (wrap64 (wrap64 a * 131) + wrap64 (wrap64 b * 1117)) + wrap64 (p * 29)) + wrap64 (wrap64 c * 53)) = X ∧ 0 ≤ X ∧ X < 1000000000000 := by
     refine ⟨a * 131 + b * 1117 + p * 29 + c * 53, ?_, by omega, by omega⟩
     rw [w64 (x := a) (by omega) (by omega), w64 (x := b) (by omega) (by omega), w64 (x := c) (by omega) (by omega), w64 (x := a * 131) (by omega) (by omega), w64 (x := b * 1117) (by omega) (by omega), w64 (x := p * 29) (by omega) (by omega), w64 (x := c * 53) (by omega) (by omega), w64 (x := a * 131 + b * 1117) (by omega) (by omega), w64 (x := a * 131 + b * 1117 + p * 29) (by omega) (by omega), w64 (by omega) (by omega)]
    rw [hX]
    have hq : 0 ≤ Int.tdiv X 64 ∧ Int.tdiv X 64 ≤ X := by
     rw [Int.tdiv_eq_ediv_of_nonneg hX0]; omega
    rw [w64 (x := Int.tdiv X 64) (by omega) (by omega)]
    have := tm _ (xor_bd X (Int.tdiv X 64) hX0 (by omega) hq.1 (by omega))
    exact ⟨this.1, .inl this.2, rfl⟩

theorem of_ev {s : List Int} (hc : Code s) (p : Int) (hp : 0 ≤ p) (hp' : p ≤ 100000000) (xs : List ByteArray) (hx : 0 < xs.length) (hx' : xs.length ≤ 1000) :
 Evx (fun k => spec_l6Rd_of.f k s p xs) (fun r => r.1 ∈ xs ∧ r.2 = p + 1) := by
 unfold spec_l6Rd_of.f
 refine Evx.bind (pick_ev hc p _ hp (by omega)) ?_
 rintro ⟨r, q⟩ ⟨hr0, hr1, rfl⟩
 have hr0 : 0 ≤ r := hr0
 have hr1 : r < (xs.length : Int) ∨ r = 0 := hr1
 refine Evx.pos hr0 (Evx.pos (by omega) (Evx.now ⟨?_, rfl⟩))
 have hlt : r.toNat < xs.length := by omega
 show rdOf ByteArray.empty xs r ∈ xs
 unfold rdOf
 rw [List.getD_eq_getElem?_getD, List.getElem?_eq_getElem hlt]
 exact List.getElem_mem hlt
theorem some_ev {s : List Int} (hc : Code s) (n p : Int) (hn : n ≤ 1000) (hp : 0 ≤ p) (hp' : p ≤ 10000000) :
 Evx (fun k => spec_l91Some.f k s p n) (fun r => (r.1.length : Int) ≤ mx 0 n ∧ p ≤ r.2 ∧ r.2 ≤ p + 2 * mx 0 n) := by
 unfold spec_l91Some.f
 have key : ∀ (d i : Nat) (X : List S90) (q : Int), (i : Int) + d = mx 0 n → X.length = i → 0 ≤ q → q ≤ 10000000 + 2 * (i : Int) → Evx (fun k => spec_l91Some.l0 k n X (i : Int) s q) (fun r => (r.1.length : Int) ≤ mx 0 n ∧ q ≤ r.2 ∧ r.2 ≤ q + 2 * d) := by
  intro d
  have hm := mx_le 0 n
  have hm2 : mx 0 n = 0 ∨ mx 0 n = n := by unfold mx; split <;> simp
  induction d with
  | zero =>
   intro i X q hi hX hq hq'
   refine Evx.succ ?_
   simp only [spec_l91Some.l0]
   exact Evx.neg (by omega) (Evx.now ⟨by show (X.length : Int) ≤ _; omega, by show q ≤ q; omega, by show q ≤ _; omega⟩)
  | succ d ih =>
   intro i X q hi hX hq hq'
   refine Evx.succ ?_
   simp only [spec_l91Some.l0]
   rw [w64 (x := (i : Int) + 1) (by omega) (by omega)]
   refine Evx.pos (by omega) (Evx.bind (pick_ev hc q 6 hq (by omega)) ?_)
   rintro ⟨r, q1⟩ ⟨hr0, hr1, rfl⟩
   refine Evx.conb rfl (Evx.ite (fun _ => ?_) (fun _ => ?_))
   ·
    refine Evx.bind (pick_ev hc (q + 1) 2 (by omega) (by omega)) ?_
    rintro ⟨r2, q2⟩ ⟨_, _, rfl⟩
    refine Evx.pos (by omega) ?_
    refine (ih (i + 1) _ (q + 1 + 1) (by omega) (by rw [List.length_append, hX]; rfl) (by omega) (by omega)).mono ?_
    rintro ⟨a, b⟩ ⟨h1, h2, h3⟩
    exact ⟨h1, by show q ≤ b; have h2 : q + 1 + 1 ≤ b := h2; omega, by show b ≤ _; have h3 : b ≤ q + 1 + 1 + 2 * (d : Int) := h3; omega⟩
   ·
    refine Evx.pos (by omega) ?_
    refine (ih (i + 1) _ (q + 1) (by omega) (by rw [List.length_append, hX]; rfl) (by omega) (by omega)).mono ?_
    rintro ⟨a, b⟩ ⟨h1, h2, h3⟩
    exact ⟨h1, by show q ≤ b; have h2 : q + 1 ≤ b := h2; omega, by show b ≤ _; have h3 : b ≤ q + 1 + 2 * (d : Int) := h3; omega⟩
 have hm := mx_le 0 n
 have := key (mx 0 n).toNat 0 [] p (by omega) rfl hp (by omega)
 refine this.mono ?_
 rintro ⟨a, b⟩ ⟨h1, h2, h3⟩
 exact ⟨h1, h2, by show b ≤ _; have h3 : b ≤ p + 2 * ((mx 0 n).toNat : Int) := h3; omega⟩
def entB (e : S38) : Prop := e.f0.size ≤ 20 ∧ e.f2.length ≤ 20
theorem drawEntry_ev {s : List Int} (hc : Code s) (p : Int) (hp : 0 ≤ p) (hp' : p ≤ 1000000) :
 Evx (fun k => spec_l92Entry.f k s p) (fun r => entB ⟨r.1, r.2.1, r.2.2.1⟩ ∧ p ≤ r.2.2.2 ∧ r.2.2.2 ≤ p + 60) := by
 have mx4 : ∀ u : Int, 0 ≤ u → u < 4 ∨ u = 0 → mx 0 (wrap64 (1 + u)) ≤ 4 ∧ 0 ≤ mx 0 (wrap64 (1 + u)) := by
  intro u h0 h1
  rw [w64 (by omega) (by omega)]
  unfold mx; split <;> omega
 have mem20 : ∀ (x : ByteArray) (xs : List ByteArray), x ∈ xs → (∀ y ∈ xs, y.size ≤ 20) → x.size ≤ 20 := fun x xs h hy => hy x h
 have o1 : ∀ y ∈ ([(⟨#[97]⟩ : ByteArray), (⟨#[98]⟩ : ByteArray), (⟨#[97, 118, 101]⟩ : ByteArray), (⟨#[100, 101, 117, 115]⟩ : ByteArray), (⟨#[99]⟩ : ByteArray)] : List ByteArray), y.size ≤ 20 := by decide
 have o2 : ∀ y ∈ ([(⟨#[]⟩ : ByteArray), (⟨#[65]⟩ : ByteArray), (⟨#[97, 98, 99, 100, 101, 102, 103, 104, 105, 106, 107]⟩ : ByteArray)] : List ByteArray), y.size ≤ 20 := by decide
 unfold spec_l92Entry.f
 refine Evx.bind (of_ev hc p hp (by omega) _ (by simp) (by simp)) ?_
 rintro ⟨nm, q⟩ ⟨hnm, rfl⟩
 have hnm := mem20 nm _ hnm o1
 refine Evx.bind (pick_ev hc (p + 1) 3 (by omega) (by omega)) ?_
 rintro ⟨mo, q⟩ ⟨_, _, rfl⟩
 refine Evx.bind (pick_ev hc (p + 1 + 1) 4 (by omega) (by omega)) ?_
 rintro ⟨u, q⟩ ⟨hu0, hu1, rfl⟩
 have h4 := mx4 u hu0 hu1
 have h4' : wrap64 (1 + u) ≤ 1000 := by
  have hu0 : 0 ≤ u := hu0
  have hu1 : u < 4 ∨ u = 0 := hu1
  rw [w64 (by omega) (by omega)]; omega
 refine Evx.bind (some_ev hc (wrap64 (1 + u)) (p + 1 + 1 + 1) h4' (by omega) (by omega)) ?_
 rintro ⟨st, q⟩ ⟨hs1, hs2, hs3⟩
 have hs1 : (st.length : Int) ≤ mx 0 (wrap64 (1 + u)) := hs1
 have hs2 : p + 1 + 1 + 1 ≤ q := hs2
 have hs3 : q ≤ p + 1 + 1 + 1 + 2 * mx 0 (wrap64 (1 + u)) := hs3
 refine Evx.bind (pick_ev hc q 40 (by omega) (by omega)) ?_
 rintro ⟨c, q'⟩ ⟨_, _, rfl⟩
 refine Evx.ite (fun _ => ?_) (fun _ => Evx.ite (fun _ => ?_) (fun _ => Evx.ite (fun _ => ?_) (fun _ => ?_)))
 ·
  refine Evx.bind (of_ev hc (q + 1) (by omega) (by omega) _ (by simp) (by simp)) ?_
  rintro ⟨nm2, q'⟩ ⟨hnm2, rfl⟩
  exact Evx.now ⟨⟨mem20 nm2 _ hnm2 o2, by show st.length ≤ 20; omega⟩, by show p ≤ q + 1 + 1; omega, by show q + 1 + 1 ≤ p + 60; omega⟩
 ·
  refine Evx.someb (Evx.bind (pick_ev hc (q + 1) 2 (by omega) (by omega)) ?_)
  rintro ⟨r, q'⟩ ⟨hr0, hr1, rfl⟩
  have hr0 : 0 ≤ r := hr0
  have hr1 : r < 2 ∨ r = 0 := hr1
  exact Evx.pos hr0 (Evx.pos (by simp; omega) (Evx.now ⟨⟨hnm, by show st.length ≤ 20; omega⟩, by show p ≤ q + 1 + 1; omega, by show q + 1 + 1 ≤ p + 60; omega⟩))
 ·
  refine Evx.someb (Evx.bind (pick_ev hc (q + 1) 2 (by omega) (by omega)) ?_)
  rintro ⟨r, q'⟩ ⟨hr0, hr1, rfl⟩
  have hr0 : 0 ≤ r := hr0
  have hr1 : r < 2 ∨ r = 0 := hr1
  have hrd : rd ([0, 9] : List Int) r = 0 ∨ rd ([0, 9] : List Int) r = 9 := by
   have : r = 0 ∨ r = 1 := by omega
   rcases this with rfl | rfl
   ·
    exact .inl rfl
   ·
    exact .inr rfl
  have hmx : mx 0 (rd ([0, 9] : List Int) r) ≤ 9 := by rcases hrd with h | h <;> rw [h] <;> decide
  refine Evx.pos hr0 (Evx.pos (by simp; omega) (Evx.bind (some_ev hc (rd ([0, 9] : List Int) r) (q + 1 + 1) (by rcases hrd with h | h <;> rw [h] <;> decide) (by omega) (by omega)) ?_))
  rintro ⟨st2, q'⟩ ⟨hs1', hs2', hs3'⟩
  have hs1' : (st2.length : Int) ≤ mx 0 (rd ([0, 9] : List Int) r) := hs1'
  have hs2' : q + 1 + 1 ≤ q' := hs2'
  have hs3' : q' ≤ q + 1 + 1 + 2 * mx 0 (rd ([0, 9] : List Int) r) := hs3'
  exact Evx.now ⟨⟨hnm, by show st2.length ≤ 20; omega⟩, by show p ≤ q'; omega, by show q' ≤ p + 60; omega⟩
 ·
  exact Evx.now ⟨⟨hnm, by show st.length ≤ 20; omega⟩, by show p ≤ q + 1; omega, by show q + 1 ≤ p + 60; omega⟩
def tonB (n : Nat) (L : List S38) : Prop := L.length ≤ n ∧ ∀ e ∈ L, entB e
theorem tonB.sz {n : Nat} {L : List S38} (h : tonB n L) : entSz L = true :=
 List.all_eq_true.2 fun e he => decide_eq_true (by have := h.2 e he; unfold entB at this; omega)
theorem tonB.ins {n : Nat} {L : List S38} {e : S38} (h : tonB n L) (he : entB e) (a : Nat) : tonB (n + 1) (insAt L a e) := by
 refine ⟨by rw [insAt_len]; have := h.1; omega, fun x hx => ?_⟩
 unfold insAt at hx
 rcases List.mem_append.1 hx with h1 | h1
 ·
  exact h.2 x (List.mem_of_mem_take h1)
 ·
  rcases List.mem_cons.1 h1 with rfl | h1
  ·
   exact he
  ·
   exact h.2 x (List.mem_of_mem_drop h1)
theorem tonB.add {n : Nat} {L : List S38} {e : S38} (h : tonB n L) (he : entB e) : tonB (n + 1) (tonAdd L e).1 := by
 unfold tonAdd tonRes
 split
 ·
  split
  ·
   exact h.ins he _
  ·
   exact ⟨Nat.zero_le _, fun _ hx => by cases hx⟩
 ·
  exact ⟨Nat.zero_le _, fun _ hx => by cases hx⟩
theorem drawTonary_ev {s : List Int} (hc : Code s) (p : Int) (hp : 0 ≤ p) (hp' : p ≤ 100000) :
 Evx (fun k => spec_l92Tonary.f k s p) (fun r => tonB 6 r.1 ∧ p ≤ r.2 ∧ r.2 ≤ p + 1000) := by
 unfold spec_l92Tonary.f
 refine Evx.bind (pick_ev hc p 6 hp (by omega)) ?_
 rintro ⟨n, q⟩ ⟨hn0, hn1, rfl⟩
 have hn0 : 0 ≤ n := hn0
 have hn1 : n < 6 ∨ n = 0 := hn1
 have key : ∀ (d i : Nat) (X : List S38) (q : Int), (i : Int) + d = n → tonB i X → 0 ≤ q → q ≤ 200000 + 60 * (i : Int) → Evx (fun k => spec_l92Tonary.l0 k X n (i : Int) s q) (fun r => tonB 6 r.1 ∧ q ≤ r.2 ∧ r.2 ≤ q + 60 * d + 1) := by
  intro d
  induction d with
  | zero =>
   intro i X q hi hX hq hq'
   have hX6 : tonB 6 X := ⟨by have := hX.1; omega, hX.2⟩
   refine Evx.succ ?_
   simp only [spec_l92Tonary.l0]
   refine Evx.neg (by omega) (Evx.ite (fun h1 => ?_) (fun _ => Evx.now ⟨hX6, by show q ≤ q; omega, by show q ≤ _; omega⟩))
   refine Evx.bind (pick_ev hc q 30 hq (by omega)) ?_
   rintro ⟨r, q1⟩ ⟨_, _, rfl⟩
   refine Evx.ite (fun _ => ?_) (fun _ => Evx.now ⟨hX6, by show q ≤ q + 1; omega, by show q + 1 ≤ _; omega⟩)
   refine Evx.pos (by omega) (Evx.pos (by omega) (Evx.now ⟨⟨?_, ?_⟩, by show q ≤ q + 1; omega, by show q + 1 ≤ _; omega⟩))
   ·
    show (X.set _ _).length ≤ 6
    rw [List.length_set]; exact hX6.1
   ·
    intro e he
    have hlt : 1 < X.length := by omega
    have h1e : entB (rd_T38 X 1) := by
     have := hX.2 (X[1]'hlt) (List.getElem_mem hlt)
     unfold rd_T38
     rw [List.getD_eq_getElem?_getD, List.getElem?_eq_getElem (show (1 : Int).toNat < X.length from hlt)]
     exact this
    rcases List.mem_or_eq_of_mem_set he with h | h
    ·
     exact hX.2 e h
    ·
     rw [h]; exact h1e
  | succ d ih =>
   intro i X q hi hX hq hq'
   refine Evx.succ ?_
   simp only [spec_l92Tonary.l0]
   rw [w64 (x := (i : Int) + 1) (by omega) (by omega)]
   refine Evx.pos (by omega) (Evx.bind (drawEntry_ev hc q hq (by omega)) ?_)
   rintro ⟨e0, e1, e2, q1⟩ ⟨he, hq1, hq2⟩
   have hq1 : q ≤ q1 := hq1
   have hq2 : q1 ≤ q + 60 := hq2
   have hXl := hX.1
   refine Evx.bind1 (spec_TonaryAdd_ev X ⟨e0, e1, e2⟩ (by omega) hX.sz ⟨Nat.le_trans he.1 (by omega), Nat.le_trans he.2 (by omega)⟩) ?_
   have fin : ∀ Y : List S38, tonB (i + 1) Y → Evx (fun k => spec_l92Tonary.l0 k Y n ((i : Int) + 1) s q1) (fun r => tonB 6 r.1 ∧ q ≤ r.2 ∧ r.2 ≤ q + 60 * ((d + 1 : Nat) : Int) + 1) := by
    intro Y hY
    have := ih (i + 1) Y q1 (by omega) hY (by omega) (by omega)
    rw [show ((i + 1 : Nat) : Int) = (i : Int) + 1 by omega] at this
    refine this.mono ?_
    rintro ⟨a, b⟩ ⟨h1, h2, h3⟩
    exact ⟨h1, by show q ≤ b; have h2 : q1 ≤ b := h2; omega, by show b ≤ _; have h3 : b ≤ q1 + 60 * (d : Int) + 1 := h3; omega⟩
   refine Evx.ite (fun _ => fin _ (hX.add he)) (fun _ => fin X ⟨by omega, hX.2⟩)
 have := key n.toNat 0 [] (p + 1) (by omega) ⟨by simp, fun _ h => by cases h⟩ (by omega) (by omega)
 refine this.mono ?_
 rintro ⟨a, b⟩ ⟨h1, h2, h3⟩
 exact ⟨h1, by show p ≤ b; have h2 : p + 1 ≤ b := h2; omega, by show b ≤ _; have h3 : b ≤ p + 1 + 60 * (n.toNat : Int) + 1 := h3; omega⟩

theorem tonB.snoc {n : Nat} {L : List S38} {e : S38} (h : tonB n L) (he : entB e) : tonB (n + 1) (L ++ [e]) := by
 refine ⟨by rw [List.length_append, List.length_singleton]; have := h.1; omega, fun x hx => ?_⟩
 rcases List.mem_append.1 hx with h1 | h1
 ·
  exact h.2 x h1
 ·
  rw [List.mem_singleton.1 h1]; exact he
theorem tonB.up {n m : Nat} {L : List S38} (h : tonB n L) (hm : n ≤ m) : tonB m L := ⟨Nat.le_trans h.1 hm, h.2⟩
theorem drawTonJoin_ev (l0 : List Int) (hw : ∀ x ∈ l0, (Lit.int .u8 x).wf = true) : Evx (fun k => spec_DrawTonaryJoin.f k l0) (fun r => tonB 6 r.1 ∧ tonB 6 r.2) := by
 obtain ⟨s, hs, hc⟩ := open_ev l0 hw
 unfold spec_DrawTonaryJoin.f
 refine Evx.conb hs (Evx.bind (drawTonary_ev hc 0 (by omega) (by omega)) ?_)
 rintro ⟨L, q⟩ ⟨hL, hq0, hq1⟩
 have hq0 : 0 ≤ q := hq0
 have hq1 : q ≤ 0 + 1000 := hq1
 have hL : tonB 6 L := hL
 refine Evx.bind (pick_ev hc q 4 hq0 (by omega)) ?_
 rintro ⟨u, q1⟩ ⟨_, _, rfl⟩
 refine Evx.ite (fun _ => ?_) (fun _ => ?_)
 ·
  refine Evx.bind (drawTonary_ev hc (q + 1) (by omega) (by omega)) ?_
  rintro ⟨M, q2⟩ ⟨hM, _, _⟩
  exact Evx.now ⟨hL, hM⟩
 ·
  have key : ∀ (d i : Nat) (X Y : List S38) (q : Int), i + d = L.length → tonB i X → tonB i Y → 0 ≤ q → q ≤ 2000 + 2 * (i : Int) → Evx (fun k => spec_DrawTonaryJoin.l0 k L X Y (i : Int) s q) (fun r => tonB 6 r.1 ∧ tonB 6 r.2) := by
   intro d
   have hLl := hL.1
   induction d with
   | zero =>
    intro i X Y q hi hX hY hq hq'
    refine Evx.succ ?_
    simp only [spec_DrawTonaryJoin.l0]
    exact Evx.neg (by omega) (Evx.now ⟨hX.up (by omega), hY.up (by omega)⟩)
   | succ d ih =>
    intro i X Y q hi hX hY hq hq'
    have hlt : i < L.length := by omega
    have hb : entB (rd_T38 L (i : Int)) := hL.2 _ (rd_ent L i hlt)
    have hXl := hX.1
    have hYl := hY.1
    have ih1 := fun X Y q => ih (i + 1) X Y q (by omega)
    rw [show ((i + 1 : Nat) : Int) = (i : Int) + 1 by omega] at ih1
    refine Evx.succ ?_
    simp only [spec_DrawTonaryJoin.l0]
    rw [w64 (x := (i : Int) + 1) (by omega) (by omega)]
    refine Evx.pos (by omega) (Evx.bind (pick_ev hc q 3 hq (by omega)) ?_)
    rintro ⟨u, q1⟩ ⟨_, _, rfl⟩
    refine Evx.ite (fun _ => ?_) (fun _ => ?_)
    ·
     refine Evx.pos (by omega) (Evx.pos (by omega) (Evx.someb (Evx.bind (pick_ev hc (q + 1) 3 (by omega) (by omega)) ?_)))
     rintro ⟨v, q2⟩ ⟨_, _, rfl⟩
     refine Evx.ite (fun _ => Evx.pos (by omega) ?_) (fun _ => ?_)
     ·
      exact ih1 _ _ _ (hX.snoc hb) (hY.snoc hb) (by omega) (by omega)
     ·
      exact ih1 _ _ _ (hX.snoc hb) (hY.up (by omega)) (by omega) (by omega)
    ·
     refine Evx.bind (pick_ev hc (q + 1) 3 (by omega) (by omega)) ?_
     rintro ⟨v, q2⟩ ⟨_, _, rfl⟩
     refine Evx.ite (fun _ => Evx.pos (by omega) (Evx.pos (by omega) ?_)) (fun _ => ?_)
     ·
      exact ih1 _ _ _ (hX.up (by omega)) (hY.snoc hb) (by omega) (by omega)
     ·
      exact ih1 _ _ _ (hX.up (by omega)) (hY.up (by omega)) (by omega) (by omega)
  exact key L.length 0 [] [] (q + 1) (by omega) ⟨by simp, fun _ h => by cases h⟩ ⟨by simp, fun _ h => by cases h⟩ (by omega) (by omega)

theorem mrg_comm : ∀ (n : Nat) (a b : List S38), a.length + b.length ≤ n → mrg a b = mrg b a
 | n, [], b, _ => by rw [mrg_nil, mrg_nil2]
 | n, a :: us, [], _ => by rw [mrg_nil, mrg_nil2]
 | 0, a :: us, b :: ws, hn => by simp at hn
 | n + 1, a :: us, b :: ws, hn => by
  simp only [List.length_cons] at hn
  cases h1 : befE a b
  ·
   cases h2 : befE b a
   ·
    obtain ⟨k1, k0⟩ := key_same h1 h2
    rw [mrg_eq _ _ h1 h2, mrg_eq _ _ h2 h1]
    by_cases hs : a.f2 = b.f2
    ·
     have hab : a = b := by
      cases a; cases b
      simp only at k1 k0 hs
      rw [k1, k0, hs]
     rw [if_pos hs, if_pos hs.symm, mrg_comm n us ws (by omega), hab]
    ·
     rw [if_neg hs, if_neg (fun h => hs h.symm)]
   ·
    rw [mrg_gt _ _ h1 h2, mrg_lt _ _ h2, mrg_comm n (a :: us) ws (by simp only [List.length_cons]; omega)]
  ·
   rw [mrg_lt _ _ h1, mrg_gt _ _ (befE_asymm h1) h1, mrg_comm n us (b :: ws) (by simp only [List.length_cons]; omega)]
theorem key_unique {Z : List S38} (hs : Srt Z) {x y : S38} (hx : x ∈ Z) (hy : y ∈ Z) (h1 : x.f1 = y.f1) (h0 : x.f0 = y.f0) : x = y := by
 obtain ⟨i, hi, rfl⟩ := List.mem_iff_getElem.1 hx
 obtain ⟨j, hj, rfl⟩ := List.mem_iff_getElem.1 hy
 have no : ∀ p q (hp : p < Z.length) (hq : q < Z.length), p < q → Z[p].f1 = Z[q].f1 → Z[p].f0 = Z[q].f0 → False := by
  intro p q hp hq hpq h1 h0
  have := List.pairwise_iff_getElem.1 hs p q hp hq hpq
  rw [befE_iff, h0, nmLt_irrefl] at this
  rcases this with h | ⟨_, h⟩
  ·
   omega
  ·
   cases h
 rcases Nat.lt_trichotomy i j with h | h | h
 ·
  exact (no i j hi hj h h1 h0).elim
 ·
  subst h; rfl
 ·
  exact (no j i hj hi h h1.symm h0.symm).elim
theorem has_rd {Z : List S38} (hs : Srt Z) {e : S38} (hh : nmHas (Z.filter (fun x => x.f1 == e.f1)) e.f0 = true) : rd_T38 (Z.filter (fun x => x.f1 == e.f1)) (nmAt (Z.filter (fun x => x.f1 == e.f1)) e.f0 : Int) ∈ Z ∧ (rd_T38 (Z.filter (fun x => x.f1 == e.f1)) (nmAt (Z.filter (fun x => x.f1 == e.f1)) e.f0 : Int)).f1 = e.f1 ∧ (rd_T38 (Z.filter (fun x => x.f1 == e.f1)) (nmAt (Z.filter (fun x => x.f1 == e.f1)) e.f0 : Int)).f0 = e.f0 := by
 unfold nmHas at hh
 rw [Bool.and_eq_true] at hh
 have hm := rd_ent _ _ (of_decide_eq_true hh.1)
 have h2 := List.mem_filter.1 hm
 exact ⟨h2.1, by simpa using h2.2, of_decide_eq_true hh.2⟩
theorem joinL_has : ∀ (b Z Y : List S38), Srt Z → joinL Z b = some Y → (∀ z ∈ Z, z ∈ Y) ∧ (∀ e ∈ b, e ∈ Y) ∧ Z.length ≤ Y.length
 | [], Z, Y, _, h => by
  have h : some Z = some Y := h
  cases h
  exact ⟨fun _ h => h, fun _ h => (by cases h), Nat.le_refl _⟩
 | e :: es, Z, Y, hZ, h => by
  simp only [joinL] at h
  cases hh : nmHas (Z.filter (fun x => x.f1 == e.f1)) e.f0
  ·
   rw [hh, if_neg (by decide)] at h
   obtain ⟨k1, k2, k3⟩ := joinL_has es _ Y (ins_srt hZ hh) h
   rw [insAt_len] at k3
   refine ⟨fun z hz => k1 z ((ins_mem Z _ e z).2 (.inl hz)), fun x hx => ?_, by omega⟩
   rcases List.mem_cons.1 hx with rfl | hx
   ·
    exact k1 x ((ins_mem Z _ x x).2 (.inr rfl))
   ·
    exact k2 x hx
  ·
   rw [hh, if_pos rfl] at h
   split at h
   ·
    rename_i hs
    obtain ⟨k1, k2, k3⟩ := joinL_has es Z Y hZ h
    refine ⟨k1, fun x hx => ?_, k3⟩
    rcases List.mem_cons.1 hx with rfl | hx
    ·
     obtain ⟨r1, r2, r3⟩ := has_rd hZ hh
     have : rd_T38 (Z.filter (fun y => y.f1 == x.f1)) (nmAt (Z.filter (fun y => y.f1 == x.f1)) x.f0 : Int) = x := by
      generalize rd_T38 (Z.filter (fun y => y.f1 == x.f1)) (nmAt (Z.filter (fun y => y.f1 == x.f1)) x.f0 : Int) = r at hs r2 r3
      cases r; cases x
      simp only at hs r2 r3
      rw [hs, r2, r3]
     rw [this] at r1
     exact k1 x r1
    ·
     exact k2 x hx
   ·
    cases h
theorem joinL_mem : ∀ (b Z : List S38), Srt Z → (∀ e ∈ b, e ∈ Z) → joinL Z b = some Z
 | [], Z, _, _ => rfl
 | e :: es, Z, hZ, h => by
  have he := h e List.mem_cons_self
  have hh : nmHas (Z.filter (fun x => x.f1 == e.f1)) e.f0 = true := (nmHas_iff (srt_names hZ e.f1) e.f0).2 ⟨e, by rw [List.mem_filter]; exact ⟨he, by simp⟩, rfl⟩
  obtain ⟨r1, r2, r3⟩ := has_rd hZ hh
  have hr := key_unique hZ r1 he r2 r3
  simp only [joinL]
  rw [hh, if_pos rfl, hr, if_pos rfl]
  exact joinL_mem es Z hZ (fun x hx => h x (List.mem_cons_of_mem _ hx))
theorem tonJoin_true {a b O : List S38} (h : tonJoin a b = (O, true)) : tonOk a = true ∧ tonOk b = true ∧ joinL a b = some O ∧ tonOk O = true := by
 unfold tonJoin at h
 split at h
 ·
  rename_i ha
  split at h
  ·
   rename_i hb
   obtain ⟨_, oka, sa⟩ := (tonOk_iff a).1 ha
   obtain ⟨_, okb, sb⟩ := (tonOk_iff b).1 hb
   cases hj : joinL a b with
   | none => rw [hj] at h; cases h
   | some Y =>
    rw [hj] at h
    obtain ⟨h1, h2⟩ := joinL_inv b a Y sa oka okb hj
    have h : (if 20 < Y.length then ([], false) else (Y, true)) = (O, true) := h
    split at h
    ·
     cases h
    ·
     injection h with h _
     subst h
     exact ⟨ha, hb, rfl, (tonOk_iff Y).2 ⟨by omega, h2, h1⟩⟩
  ·
   cases h
 ·
  cases h
theorem tonJoin_back {a b O : List S38} (h : tonJoin a b = (O, true)) : tonJoin b a = (O, true) ∧ tonJoin O b = (O, true) := by
 obtain ⟨ha, hb, hj, hO⟩ := tonJoin_true h
 obtain ⟨_, oka, sa⟩ := (tonOk_iff a).1 ha
 obtain ⟨_, okb, sb⟩ := (tonOk_iff b).1 hb
 obtain ⟨lO, okO, sO⟩ := (tonOk_iff O).1 hO
 have res : joinRes (some O) = (O, true) := if_neg (by omega)
 constructor
 ·
  unfold tonJoin
  rw [if_pos hb, if_pos ha, joinL_mrg a b sb sa, mrg_comm _ b a (Nat.le_refl _), ← joinL_mrg b a sa sb, hj]
  exact res
 ·
  unfold tonJoin
  rw [if_pos hO, if_pos hb, joinL_mem b O sO (joinL_has b a O sa hj).2.1]
  exact res
theorem tonAdd_step {Z O : List S38} {e : S38} {es : List S38} (hZ : tonOk Z = true) (he : entOk e = true) (hO : O.length ≤ 20) (h : joinL Z (e :: es) = some O) : ∃ X ok, tonAdd Z e = (X, ok) ∧ (if ok = true then tonOk X = true ∧ joinL X es = some O else joinL Z es = some O) := by
 obtain ⟨lZ, okZ, sZ⟩ := (tonOk_iff Z).1 hZ
 simp only [joinL] at h
 cases hh : nmHas (Z.filter (fun x => x.f1 == e.f1)) e.f0
 ·
  rw [hh, if_neg (by decide)] at h
  have k3 := (joinL_has es _ O (ins_srt sZ hh) h).2.2
  have hok : tonOk (insAt Z (befN Z e) e) = true := (tonOk_iff _).2 ⟨by omega, fun x hx => by rcases (ins_mem Z _ e x).1 hx with h | rfl; exact okZ x h; exact he, ins_srt sZ hh⟩
  refine ⟨insAt Z (befN Z e) e, true, ?_, ?_⟩
  ·
   unfold tonAdd tonRes
   rw [if_pos hZ, if_pos hok]
  ·
   rw [if_pos rfl]; exact ⟨hok, h⟩
 ·
  rw [hh, if_pos rfl] at h
  refine ⟨[], false, ?_, ?_⟩
  ·
   rw [← tonAddI_eq]
   unfold tonAddI
   rw [if_pos hZ, if_pos he]
   by_cases h20 : Z.length = 20
   ·
    rw [if_pos h20]
   ·
    rw [if_neg h20, if_pos hh]
  ·
   rw [if_neg (by decide)]
   split at h
   ·
    exact h
   ·
    cases h

end Go.Proofs.YtmacedbpdhkagaaDoor.Pure
namespace Go.Proofs.YtmacedbpdhkagaaDoor.Pure
set_option linter.unusedVariables false
set_option linter.unusedSimpArgs false
open Go Go.RowKit Go.Proofs.YtmacedbpdhkagaaDoor.PFnTonaryJoin Go.Proofs.YtmacedbpdhkagaaDoorW.PrintWords Go.Proofs.YtmacedbpdhkagaaDoorW.PrintLast Go.Proofs.YtmacedbpdhkagaaDoorW.PrintMore

theorem sameTones_ev (a : List S90) (ha : a.length ≤ 1000000000000) : Ev (fun k => laws_sameTones.f k a a) true := by
 unfold laws_sameTones.f
 refine Ev.pos rfl ?_
 have := Ev.over z90 a (fun k (_ : Unit) i => laws_sameTones.l0 k a a i) (fun _ _ => true) (fun _ _ => True) (by
  intro s _
  refine Ev.succ ?_
  simp only [laws_sameTones.l0]
  exact Ev.neg (by omega) (Ev.now _)) (by
  intro s i rest _ hi hdr ih
  refine Ev.succ ?_
  simp only [laws_sameTones.l0]
  rw [w64 (x := (i : Int) + 1) (by omega) (by omega)]
  refine Ev.pos (by omega) (Ev.pos (by omega) (Ev.pos (by omega) (Ev.neg (by simp) (ih () trivial))))) 0 () (Nat.zero_le _) trivial
 simpa using this
theorem sameEntry_ev (e : S38) (ha : e.f2.length ≤ 1000000000000) : Ev (fun k => laws_sameEntry.f k e.f0 e.f1 e.f2 e.f0 e.f1 e.f2) true := by
 unfold laws_sameEntry.f
 exact Ev.pos rfl (Ev.pos rfl (Ev.bind (sameTones_ev e.f2 ha) (Ev.now _)))
theorem sameEntries_ev (a : List S38) (ha : a.length ≤ 1000000000) (hz : entSz a = true) : Ev (fun k => laws_sameEntries.f k a a) true := by
 unfold laws_sameEntries.f
 refine Ev.pos rfl ?_
 have key : ∀ d i : Nat, i + d = a.length → Ev (fun n => laws_sameEntries.l0 n a a (i : Int)) true := by
  intro d
  induction d with
  | zero =>
   intro i hi
   refine Ev.succ ?_
   simp only [laws_sameEntries.l0]
   exact Ev.neg (by omega) (Ev.now _)
  | succ d ih =>
   intro i hi
   have hlt : i < a.length := by omega
   have hg := entSz_all hz _ (rd_ent a i hlt)
   have ih := ih (i + 1) (by omega)
   rw [show ((i + 1 : Nat) : Int) = (i : Int) + 1 by omega] at ih
   refine Ev.succ ?_
   simp only [laws_sameEntries.l0]
   rw [w64 (x := (i : Int) + 1) (by omega) (by omega)]
   exact Ev.pos (by omega) (Ev.pos (by omega) (Ev.pos (by omega) (Ev.bind (sameEntry_ev _ (by omega)) (Ev.pos rfl ih))))
 exact key a.length 0 (by omega)

theorem FnTonaryJoin_core (l0 : List Int) (hw : ∀ x ∈ l0, (Lit.int .u8 x).wf = true) : ∃ k, laws_FnTonaryJoin.f k l0 = some true := by
 have key : Ev (fun k => laws_FnTonaryJoin.f k l0) true := by
  unfold laws_FnTonaryJoin.f
  by_cases c0 : (l0.length : Int) > 1048576
  ·
   exact Ev.pos c0 (Ev.now _)
  refine Ev.neg c0 ?_
  obtain ⟨⟨a, b⟩, hd, ha, hb⟩ := drawTonJoin_ev l0 hw
  have ha : tonB 6 a := ha
  have hb : tonB 6 b := hb
  have hal := ha.1
  have hbl := hb.1
  have hza := ha.sz
  have hzb := hb.sz
  have hI : ∀ X Y : List S38, entSz X = true → entSz Y = true → impl_TonaryJoin.f X Y = some (tonJoin X Y) := fun X Y h1 h2 => if_pos ⟨h1, h2⟩
  have hS := spec_TonaryJoin_ev a b (by omega) (by omega) hza hzb
  obtain ⟨⟨O, ok⟩, hO⟩ : ∃ r, tonJoin a b = r := ⟨_, rfl⟩
  have hi := hI a b hza hzb
  have hOb : O.length ≤ 12 ∧ entSz O = true := by
   have h1 : ∀ r, tonJoin a b = r → r.1.length ≤ 12 ∧ entSz r.1 = true := by
    intro r hr
    rw [tonJoin_eq] at hr
    have nil : ([] : List S38).length ≤ 12 ∧ entSz [] = true := ⟨by simp, rfl⟩
    split at hr
    ·
     split at hr
     ·
      cases hm : mrg a b with
      | none => rw [hm] at hr; subst hr; exact nil
      | some Y =>
       obtain ⟨k1, k2⟩ := mrg_sz _ a b Y (Nat.le_refl _) hm
       rw [hm] at hr
       subst hr
       show (tonRes Y).1.length ≤ 12 ∧ entSz (tonRes Y).1 = true
       unfold tonRes
       split
       ·
        exact ⟨by show Y.length ≤ 12; omega, List.all_eq_true.2 fun x hx => (k2 x hx).elim (fun h => List.all_eq_true.1 hza x h) (fun h => List.all_eq_true.1 hzb x h)⟩
       ·
        exact nil
     ·
      subst hr; exact nil
    ·
     subst hr; exact nil
   exact h1 _ hO
  rw [hO] at hi hS
  obtain ⟨hOl, hOz⟩ := hOb
  have hsame := sameEntries_ev O (by omega) hOz
  refine Ev.bind hd (Ev.conb hi (Ev.bind hS ?_))
  refine Ev.neg (by simp) (Ev.bind hsame (Ev.pos rfl ?_))
  refine Ev.succ ?_
  simp only [laws_FnTonaryJoin.j0]
  cases ok
  ·
   exact Ev.pos (by simp) (Ev.pos (by simp) (Ev.bind hsame (Ev.now _)))
  ·
   refine Ev.neg (by simp) ?_
   obtain ⟨hka, hkb, hj, hkO⟩ := tonJoin_true hO
   obtain ⟨h1, h2⟩ := tonJoin_back hO
   have hi1 := hI b a hzb hza
   have hi2 := hI O b hOz hzb
   rw [h1] at hi1
   rw [h2] at hi2
   refine Ev.conb hi1 (Ev.conb hi2 ?_)
   have okb := ((tonOk_iff b).1 hkb).2.1
   have loop : ∀ (d i : Nat) (Z : List S38), i + d = b.length → tonOk Z = true → entSz Z = true → joinL Z (b.drop i) = some O → Ev (fun n => laws_FnTonaryJoin.l0 n b O O true O true Z (i : Int)) true := by
    intro d
    induction d with
    | zero =>
     intro i Z hi hZ hZz hj
     rw [List.drop_of_length_le (by omega)] at hj
     have hj : some Z = some O := hj
     cases hj
     refine Ev.succ ?_
     simp only [laws_FnTonaryJoin.l0]
     have hv : impl_TonaryValid.f O = some true := by rw [← hkO]; exact if_pos hOz
     exact Ev.neg (by omega) (Ev.pos (by simp) (Ev.pos (by simp) (Ev.bind hsame (Ev.pos rfl (Ev.bind hsame (Ev.pos rfl (Ev.bind hsame (Ev.pos rfl (Ev.conb hv (Ev.now _))))))))))
    | succ d ih =>
     intro i Z hi hZ hZz hj
     have hlt : i < b.length := by omega
     have hm := rd_ent b i hlt
     have hg := entSz_all hzb _ hm
     rw [rd_drop b i hlt] at hj
     obtain ⟨X, ok, hadd, hcase⟩ := tonAdd_step hZ (okb _ hm) (by omega) hj
     have ha : impl_TonaryAdd.f Z (rd_T38 b (i : Int)).f0 (rd_T38 b (i : Int)).f1 (rd_T38 b (i : Int)).f2 = some (X, ok) := by
      rw [← hadd]; exact if_pos ⟨hZz, hg.1, hg.2⟩
     have ih1 := fun Z => ih (i + 1) Z (by omega)
     rw [show ((i + 1 : Nat) : Int) = (i : Int) + 1 by omega] at ih1
     refine Ev.succ ?_
     simp only [laws_FnTonaryJoin.l0]
     rw [w64 (x := (i : Int) + 1) (by omega) (by omega)]
     refine Ev.pos (by omega) (Ev.pos (by omega) (Ev.conb ha ?_))
     cases ok
     ·
      rw [if_neg (by decide)] at hcase
      exact Ev.neg (by simp) (ih1 Z hZ hZz hcase)
     ·
      rw [if_pos rfl] at hcase
      have hXz : entSz X = true := by
       have h := hadd
       unfold tonAdd tonRes at h
       rw [if_pos hZ] at h
       split at h
       ·
        injection h with h _
        rw [← h]
        exact entSz_ins _ hZz hg
       ·
        cases h
      exact Ev.pos (by simp) (ih1 X hcase.1 hXz hcase.2)
   exact loop b.length 0 a (by omega) hka hza (by rw [List.drop_zero]; exact hj)
 exact Ev.rounds key
theorem FnTonaryJoin_walk (l0 : List Int) (A0 : Option Addr) (c0 : Nat) (w : World) (ht : MTab w) (hr0 : Kd.C (Kd.int .u8) w A0 l0.length l0) (hc0 : l0.length ≤ c0) (hw0 : ∀ x ∈ l0, (Lit.int .u8 x).wf = true) (hm0 : l0.length ≤ maxLen) :
 Calls Tryd.prog 12 #[.slice A0 l0.length c0] w fun e w' => e = .returned (.bool true) ∧ Below w.heap.size w w' := by
 obtain ⟨k, h⟩ := FnTonaryJoin_core l0 hw0
 exact laws_FnTonaryJoin.calls k A0 c0 l0 true w ht hr0 hc0 rfl h

def Opn {α : Type} (P : Program) (t : TypeId) (d : Kd α) (ok : α → Prop) : Prop :=
 P.cellsOf t = d.sz ∧ ∀ {H : Type} (enc : TypeId × Value → H) (w : World) (base : Nat) (held : Bool) (fuel : Nat) (cs : List Value) (x : DataW H × List MemPlace), DataW.trod enc P w base (fun _ => true) held fuel t cs = some x → ∃ p, d.K w p cs ∧ ok p
theorem opn_int {P : Program} {t : TypeId} (k : IntKind) (ht : P.underlying t = some (.int k)) (hc : P.cellsOf t = 1) : Opn P t (Kd.int k) (fun n => (Lit.int k n).wf = true) :=
 ⟨hc, fun enc w base held fuel cs x h => by obtain ⟨n, rfl, _, hw⟩ := DataW.trod_int ht h; exact ⟨n, rfl, hw⟩⟩
theorem opn_slice {α : Type} {P : Program} {t e : TypeId} {d : Kd α} {ok : α → Prop} (ht : P.underlying t = some (.slice e)) (hc : P.cellsOf t = 1) (he : Opn P e d ok) : Opn P t (Kd.slice e d) (fun l => (∀ x ∈ l, ok x) ∧ l.length ≤ maxLen) := by
 refine ⟨hc, fun enc w base held fuel cs x h => ?_⟩
 rcases Go.Deep.open_slice ht h with ⟨rfl, _⟩ | ⟨a, len, cap, m, n, D, Pl, rfl, _, hl, hm, hmm, _, hi⟩
 ·
  exact ⟨[], ⟨none, 0, rfl, Nat.le_refl _, rfl, by simp, fun h => by simp at h⟩, by simp, by simp⟩
 ·
  have hmc : m = cap := by simpa using hmm
  clear hmm
  have key : ∀ k, k ≤ len → ∃ l : List α, l.length = k ∧ (∀ x ∈ l, ok x) ∧ ∀ j p, l[j]? = some p → ∃ c, c.length = d.sz ∧ d.K w p c ∧ ∀ i u, c[i]? = some u → w.cell? (a.add (j * d.sz + i)) = some u := by
   intro k
   induction k with
   | zero => intro _; exact ⟨[], rfl, by simp, by simp⟩
   | succ k ih =>
    intro hk
    obtain ⟨l, hll, hlo, hlc⟩ := ih (by omega)
    obtain ⟨cs', hcs, ht'⟩ := hi k (by omega)
    rw [he.1] at hcs
    obtain ⟨p, hp, hop⟩ := he.2 enc w base held n cs' _ ht'
    obtain ⟨_, hcl, hat⟩ := World.cells?_some hcs
    refine ⟨l ++ [p], by simp [hll], ?_, ?_⟩
    ·
     intro x hx
     rcases List.mem_append.1 hx with hx | hx
     ·
      exact hlo x hx
     ·
      rw [List.mem_singleton.1 hx]; exact hop
    ·
     intro j q hq
     by_cases hj : j < l.length
     ·
      rw [List.getElem?_append_left hj] at hq
      exact hlc j q hq
     ·
      have hj2 : j = l.length := by
       have := (List.getElem?_eq_some_iff.1 hq).1
       simp at this; omega
      subst hj2
      rw [List.getElem?_append_right (Nat.le_refl _)] at hq
      simp at hq
      subst hq
      refine ⟨cs', hcl, hp, fun i u hu => ?_⟩
      have hil : i < d.sz := by rw [← hcl]; exact (List.getElem?_eq_some_iff.1 hu).1
      rw [hll, ← Go.Deep.add_add, hat i hil, hu]
  obtain ⟨l, hll, hlo, hlc⟩ := key len (Nat.le_refl _)
  subst hll
  exact ⟨l, ⟨some a, cap, rfl, hl, rfl, by unfold maxLen at hm; omega, fun _ => ⟨a, rfl, hlc⟩⟩, hlo, by omega⟩
/-- A slice argument. -/
theorem opn_arg {α : Type} {P : Program} {t e : TypeId} {d : Kd α} {ok : List α → Prop} (h : Opn P t (Kd.slice e d) ok) {H : Type} {enc : TypeId × Value → H} {w : World} {base : Nat} {held : Bool} {a : Option Addr} {len cap : Nat} {x : DataW H} {p : List MemPlace} (hr : DataW.Trod enc P w base (fun _ => true) held t (.slice a len cap) x p) :
 ∃ l : List α, len = l.length ∧ l.length ≤ cap ∧ d.C w a l.length l ∧ ok l := by
 obtain ⟨fuel, hf⟩ := hr
 obtain ⟨l, ⟨A, c, he, hc, hC⟩, ho⟩ := h.2 enc w base held fuel _ _ hf
 simp [Value.cells] at he
 obtain ⟨rfl, rfl, rfl⟩ := he
 exact ⟨l, rfl, hc, hC, ho⟩

end Go.Proofs.YtmacedbpdhkagaaDoor.Pure
