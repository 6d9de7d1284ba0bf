/- Lemmas for the law FnSingMany. -/
import Derived.Test.YtiagfjbngpbejaaDoorProg
import Derived.BigRegion
import Derived.Deep.Slices
import Derived.Laws.CopyOwn
import Derived.StillTailTactics
import Derived.Test.YtiagfjbngpbejaaDoorSFnSingManys0
namespace Go.Proofs.YtiagfjbngpbejaaDoor.PFnSingMany
open Go.RowKit Go.Proofs.YtiagfjbngpbejaaDoorW.PrintWords Go.Proofs.YtiagfjbngpbejaaDoorW.PrintLast Go.Proofs.YtiagfjbngpbejaaDoorW.PrintMore
attribute [local go_sem] max2_int min2_int max_two min_two max_three min_three max_four min_four   -- for this text's walks alone
set_option linter.unusedVariables false
set_option linter.unusedSimpArgs false



def errW : Option Int → Value
 | none => .nilIface
 | some c => .iface 0 (.int .i64 c)
theorem errW_none : errW none = .nilIface := rfl
theorem errW_some (c : Int) : errW (some c) = .iface 0 (.int .i64 c) := rfl

theorem info3 : (Tryd.prog.info? 3).map (fun i => (i.zero, i.size, i.bytes)) = some (some (.int .i64 0), 1, 8) := by kernel_rfl
theorem info5 : (Tryd.prog.info? 5).map (fun i => (i.zero, i.size, i.bytes)) = some (some (.int .u8 0), 1, 1) := by kernel_rfl
theorem info29 : (Tryd.prog.info? 29).map (fun i => (i.zero, i.size, i.bytes)) = some (some (.agg #[(.int .i64 0), (.bool false)]), 2, 16) := by kernel_rfl
structure S29 where
 f0 : Int
 f1 : Bool
def z29 : S29 := ⟨(0 : Int), false⟩
def k29 : Kd S29 := Kd.iso (Kd.pair (Kd.int .i64) Kd.bool) (fun x : S29 => (x.f0, x.f1))
theorem k29_open {w : World} {x : S29} {cs : List Value} (h : k29.K w x cs) : cs = [.int .i64 x.f0, .bool x.f1] := by
 obtain ⟨_, _, rfl, rfl, rfl⟩ := h; exact rfl
theorem k29_openM {w : World} {base : Nat} {ok : Nat → Prop} {x : S29} {cs : List Value} (h : k29.M w base ok x cs) : cs = [.int .i64 x.f0, .bool x.f1] := by
 obtain ⟨_, _, rfl, rfl, rfl⟩ := h; exact rfl
theorem k29_mkM (w : World) (base : Nat) (ok : Nat → Prop) (x : S29)  : k29.M w base ok x [.int .i64 x.f0, .bool x.f1] := ⟨[.int .i64 x.f0], [.bool x.f1], rfl, rfl, rfl⟩
def rd_T29 (xs : List S29) (i : Int) : S29 := xs.getD i.toNat z29
theorem at_T29 {w : World} {A : Option Addr} {n : Nat} {xs : List S29} (h : Kd.C k29 w A n xs) (i : Int) (h0 : 0 ≤ i) (h1 : i < n) : ∃ ad , A = some ad ∧ w.cell? (ad.add (i.toNat * 2)) = some (.int .i64 (rd_T29 xs i).f0) ∧ w.cell? ⟨(ad.add (i.toNat * 2)).block, (ad.add (i.toNat * 2)).off + 1, none⟩ = some (.bool (rd_T29 xs i).f1) := by
 obtain ⟨ad, c, e, _, hK, hc0⟩ := Kd.C_get h z29 i h0 h1; have hc : ∀ j u, c[j]? = some u → w.cell? (ad.add (i.toNat * 2 + j)) = some u := hc0; obtain rfl := k29_open hK; exact ⟨ad, e, hc 0 _ rfl, by rw [← add_field _ _ 1 (by omega)]; exact hc 1 _ rfl⟩

end Go.Proofs.YtiagfjbngpbejaaDoor.PFnSingMany
namespace Go.Proofs.YtiagfjbngpbejaaDoor.PFnSingMany
open Go.RowKit Go.Proofs.YtiagfjbngpbejaaDoorW.PrintWords Go.Proofs.YtiagfjbngpbejaaDoorW.PrintLast Go.Proofs.YtiagfjbngpbejaaDoorW.PrintMore
attribute [local go_sem] max2_int min2_int max_two min_two max_three min_three max_four min_four   -- for this text's walks alone
set_option linter.unusedVariables false
set_option linter.unusedSimpArgs false

/-- A state of type 68 at block g of W; what its slices lead to came in by w0. -/
def IsS68 (w0 W : World) (g : Nat) (f0 : List Int) (f1 : Int) : Prop := ∃ A0 c0, W.heap[g]? = some (.cells #[.slice A0 f0.length c0, .int .i64 f1] 68 (0, 0)) ∧ w0.heap.size ≤ g ∧ Kd.C (Kd.int .u8) w0 A0 f0.length f0
theorem IsS68.grown {w0 W : World} {g : Nat} {f0 : List Int} {f1 : Int} {W1 : World} {row : Option Nat} (h : IsS68 w0 W g f0 f1) (hw : W.grownBy W1 row) (hne : some g ≠ row) : IsS68 w0 W1 g f0 f1 := by
 obtain ⟨A0, c0, hb, hg, hr0⟩ := h; exact ⟨A0, c0, blk_grown hb hw hne, hg, hr0⟩
theorem IsS68.below {w0 W : World} {g : Nat} {f0 : List Int} {f1 : Int} {W1 : World} (h : IsS68 w0 W g f0 f1) (hw : Below W.heap.size W W1) : IsS68 w0 W1 g f0 f1 := h.grown (grown_of_below hw none) (by simp)
theorem IsS68.drewN {w0 W : World} {g : Nat} {f0 : List Int} {f1 : Int} (h : IsS68 w0 W g f0 f1) (m : Nat) : IsS68 w0 (W.drewN m) g f0 f1 := h
theorem IsS68.apart {w0 W : World} {g : Nat} {f0 : List Int} {f1 : Int} {α : Type} {d : Kd α} {e : Nat} {base : Nat} {ok : Nat → Prop} {v : Value} {xs : List α} (h : IsS68 w0 W g f0 f1) (ho : d.R e W base ok v xs) (ht : ∀ q, q ∈ e :: d.E → q ≠ 68) : d.R e W base (fun k => ok k ∧ k ≠ g) v xs := by
 obtain ⟨A0, c0, hb, hg, hr0⟩ := h; exact Kd.R_types ho hb ht
theorem IsS68.own_ne {w0 W : World} {g : Nat} {f0 : List Int} {f1 : Int} {α : Type} {d : Kd α} {e : Nat} {base : Nat} {ok : Nat → Prop} {v : Value} {xs : List α} (h : IsS68 w0 W g f0 f1) (ho : d.R e W base ok v xs) (ht : e ≠ 68) : some g ≠ v.ownBlock := by
 obtain ⟨A0, c0, hb, hg, hr0⟩ := h; exact Kd.R_ne ho hb ht
theorem IsS68.ge {w0 W : World} {g : Nat} {f0 : List Int} {f1 : Int} (h : IsS68 w0 W g f0 f1) : w0.heap.size ≤ g := by
 obtain ⟨A0, c0, hb, hg, hr0⟩ := h; exact hg
theorem cellS68_0 {W : World} {g : Nat} {A0 : Option Addr} {c0 : Nat} {f0 : List Int} {f1 : Int} (h : W.heap[g]? = some (.cells #[.slice A0 f0.length c0, .int .i64 f1] 68 (0, 0))) : W.cell? ⟨g, 0, none⟩ = some (.slice A0 f0.length c0) := (blk_cell h 0).trans rfl
theorem cellS68_1 {W : World} {g : Nat} {A0 : Option Addr} {c0 : Nat} {f0 : List Int} {f1 : Int} (h : W.heap[g]? = some (.cells #[.slice A0 f0.length c0, .int .i64 f1] 68 (0, 0))) : W.cell? ⟨g, 1, none⟩ = some (.int .i64 f1) := (blk_cell h 1).trans rfl
theorem IsS68.set_1 {w0 W : World} {g : Nat} {f0 : List Int} {f1 : Int} (h : IsS68 w0 W g f0 f1) (x : Int) : IsS68 w0 (W.setCell ⟨g, 1, none⟩ (.int .i64 x)) g f0 x := by
 obtain ⟨A0, c0, hb, hg, hr0⟩ := h; exact ⟨A0, c0, by simpa using blk_set hb 1 (.int .i64 x), hg, hr0⟩
def spec_l6Rd_pick.j0 : Nat → Int → Bool → List Int → Int → Option (Int × Int)
 | 0, _, _, _, _ => none
 | k + 1, x1, x24, x1000, x1001 => if x24 = true then (some (0, x1001)) else (if (wrap64 (x1001 - 1)) < (x1000.length : Int) then (if 0 ≤ (wrap64 (x1001 - 1)) then (if x1 = 0 then (none) else (some (Int.tmod (wrap64 (rd x1000 (wrap64 (x1001 - 1)))) x1, x1001))) else (none)) else (if (x1000.length : Int) = 0 then (none) else (if 0 ≤ (Int.tmod (wrap64 (x1001 - 1)) (x1000.length : Int)) then (if (Int.tmod (wrap64 (x1001 - 1)) (x1000.length : Int)) < (x1000.length : Int) then (if 0 ≤ (Int.tmod (wrap64 ((wrap64 ((wrap64 (x1001 - 1)) * 7)) + 3)) (x1000.length : Int)) then (if (Int.tmod (wrap64 ((wrap64 ((wrap64 (x1001 - 1)) * 7)) + 3)) (x1000.length : Int)) < (x1000.length : Int) then (if x1 = 0 then (none) else (some (Int.tmod (Go.bits .xor .i64 (wrap64 ((wrap64 ((wrap64 ((wrap64 ((wrap64 (rd x1000 (Int.tmod (wrap64 (x1001 - 1)) (x1000.length : Int)))) * 131)) + (wrap64 ((wrap64 (rd x1000 (Int.tmod (wrap64 ((wrap64 ((wrap64 (x1001 - 1)) * 7)) + 3)) (x1000.length : Int)))) * 1117)))) + (wrap64 ((wrap64 (x1001 - 1)) * 29)))) + (wrap64 ((wrap64 (Int.tdiv (wrap64 (x1001 - 1)) (x1000.length : Int))) * 53)))) (wrap64 (Int.tdiv (wrap64 ((wrap64 ((wrap64 ((wrap64 ((wrap64 (rd x1000 (Int.tmod (wrap64 (x1001 - 1)) (x1000.length : Int)))) * 131)) + (wrap64 ((wrap64 (rd x1000 (Int.tmod (wrap64 ((wrap64 ((wrap64 (x1001 - 1)) * 7)) + 3)) (x1000.length : Int)))) * 1117)))) + (wrap64 ((wrap64 (x1001 - 1)) * 29)))) + (wrap64 ((wrap64 (Int.tdiv (wrap64 (x1001 - 1)) (x1000.length : Int))) * 53)))) 64))) x1, x1001))) else (none)) else (none)) else (none)) else (none))))
def spec_l6Rd_pick.f (k : Nat) (s0_0 : List Int) (s0_1 : Int) (a1 : Int) : Option (Int × Int) := if a1 < 1 then (spec_l6Rd_pick.j0 k a1 true s0_0 (wrap64 (s0_1 + 1))) else (spec_l6Rd_pick.j0 k a1 ((s0_0.length : Int) == 0) s0_0 (wrap64 (s0_1 + 1)))
set_option maxHeartbeats 8000000 in
set_option maxRecDepth 100000 in
theorem spec_l6Rd_pick.calls (k : Nat) (g : Nat) (s0_0 : List Int) (s0_1 : Int) (a1 : Int) (r1 : Int) (r2 : Int) (w0 w : World) (hI : IsS68 w0 w g s0_0 s0_1) (hB : Below w0.heap.size w0 w) (h : spec_l6Rd_pick.f k s0_0 s0_1 a1 = some (r1, r2)) :
 Calls Tryd.prog 30 #[.pointer (some ⟨g, 0, none⟩), .int .i64 a1] w fun e w' => e = .returned (.int .i64 r1) ∧ IsS68 w0 w' g s0_0 r2 ∧ Below w0.heap.size w0 w' ∧ KeepBut w w' g none := by
 have HI0 := Aside0.mk hI; have HK := Aside0.mk (KeepBut.refl w g none); have HL := Aside0.mk hB.size; clear hI; have HW0 := Aside0.mk hB.size; have HB := Aside0.mk hB; clear hB; have H : (if a1 < 1 then (spec_l6Rd_pick.j0 k a1 true s0_0 (wrap64 (s0_1 + 1))) else (spec_l6Rd_pick.j0 k a1 ((s0_0.length : Int) == 0) s0_0 (wrap64 (s0_1 + 1)))) = some (r1, r2) := h; clear h; have HC3 := Aside0.mk H; clear H; obtain ⟨ASz4_0, cSz4_0, HGz4, hgz4, HSz4_0⟩ := HI0.out; have hcz4_0 := cellS68_0 HGz4; have hcz4_1 := cellS68_1 HGz4; have hfz4_1 := blk_frozen HGz4 1; clear HGz4 hgz4; go_enter Tryd.func30, Tryd.ntmps30
 go_upto_region 2 with (fail)
 repeat (go_quiet (fail); go_upto_region 2 with (fail))
 go_cut [24] (fun v24 wc => ∃ (kq : Nat) (x24_2 : Bool), v24 = .bool x24_2 ∧ Aside0 (spec_l6Rd_pick.j0 kq a1 x24_2 s0_0 (wrap64 (s0_1 + 1)) = some (r1, r2)) ∧ Aside0 (kq ≤ k) ∧ Aside0 (IsS68 w0 wc g s0_0 (wrap64 (s0_1 + 1))) ∧ Aside0 (KeepBut w wc g none) ∧ Aside0 (Below w0.heap.size w0 wc))
 case first =>
  have H := HC3.out; clear HC3; by_cases c5 : a1 < 1
  ·
   rw [if_pos c5] at H; have c5b0 : decide (a1 < 1) = true := decide_eq_true c5; clear c5; (first | rw [c5b0] | (simp only [i64_w, i32_w]; rw [c5b0]) | skip)
   have H' := Aside0.mk H; clear H; go_wp2; repeat (go_quiet (fail); try go_wp2)
   go_meet
   case rel => exact ⟨_, (true), (by first | rfl | (simp; done) | (simp [*]; done)), H', ⟨by first | omega | exact Nat.le_refl _⟩, ⟨by repeat (first | (with_reducible first | exact HI0.out | apply IsS68.alloc | apply IsS68.drewN | apply IsS68.drew | apply IsS68.set_1) | exact HI0.out)⟩, ⟨by repeat (first | (with_reducible first | exact HK.out | apply KeepBut.set_ | apply keep_drewN | apply keep_drew | apply keep_alloc) | exact HK.out)⟩, ⟨by repeat (first | (with_reducible first | exact HB.out | apply below_alloc | apply pw_below_drewN | apply below_drew1 | refine below_set ?_ (IsS68.ge HI0.out)) | exact HB.out)⟩⟩
  ·
   rw [if_neg c5] at H; have c5b0 : decide (a1 < 1) = false := decide_eq_false c5; clear c5; (first | rw [c5b0] | (simp only [i64_w, i32_w]; rw [c5b0]) | skip)
   have H' := Aside0.mk H; clear H; obtain ⟨ASz6_0, cSz6_0, HGz6, hgz6, HSz6_0⟩ := HI0.out; have hcz6_0 := cellS68_0 HGz6; have hcz6_1 := cellS68_1 HGz6; have hfz6_1 := blk_frozen HGz6 1; clear HGz6 hgz6; go_wp2; repeat (go_quiet (fail); try go_wp2)
   go_meet
   case rel => exact ⟨_, (((s0_0.length : Int) == 0)), (by first | rfl | (simp; done) | (simp [*]; done)), H', ⟨by first | omega | exact Nat.le_refl _⟩, ⟨by repeat (first | (with_reducible first | exact HI0.out | apply IsS68.alloc | apply IsS68.drewN | apply IsS68.drew | apply IsS68.set_1) | exact HI0.out)⟩, ⟨by repeat (first | (with_reducible first | exact HK.out | apply KeepBut.set_ | apply keep_drewN | apply keep_drew | apply keep_alloc) | exact HK.out)⟩, ⟨by repeat (first | (with_reducible first | exact HB.out | apply below_alloc | apply pw_below_drewN | apply below_drew1 | refine below_set ?_ (IsS68.ge HI0.out)) | exact HB.out)⟩⟩
 case rest =>
  clear HC3; try clear p2
  try clear c3
  try clear c5
  try clear c5b0
  try clear p6
  try clear hcz4_0
  try clear hcz4_1
  try clear hcz6_0
  try clear hcz6_1
  try clear hfz4_1
  try clear hfz6_1
  obtain ⟨kq, x24_2, rfl, HA, HJ2, HI0, HK, HB⟩ := hcut; cases kq with
  | zero => exact absurd HA.out (by simp [spec_l6Rd_pick.j0])
  | succ kj2 =>
   have H := HA.out; clear HA; simp only [spec_l6Rd_pick.j0] at H; by_cases c7 : x24_2 = true
   ·
    subst c7; have H1 : (some (0, (wrap64 (s0_1 + 1)))) = some (r1, r2) := by rw [if_pos rfl] at H; exact H
    clear H; have H := H1; clear H1; simp only [Option.some.injEq, Prod.mk.injEq] at H; obtain ⟨rfl, rfl⟩ := H; go_wp2; repeat (go_quiet (fail); try go_wp2)
    go_ret
    exact ⟨by first | rfl | (simp [errW_none, errW_some] <;> rfl) | (simp [*, errW_none, errW_some] <;> rfl), by repeat (first | (with_reducible first | exact HI0.out | apply IsS68.alloc | apply IsS68.drewN | apply IsS68.drew | apply IsS68.set_1) | exact HI0.out), by repeat (first | (with_reducible first | exact HB.out | apply below_alloc | apply pw_below_drewN | apply below_drew1 | refine below_set ?_ (IsS68.ge HI0.out)) | exact HB.out), by repeat (first | (with_reducible first | exact HK.out | apply KeepBut.set_ | apply keep_drewN | apply keep_drew | apply keep_alloc) | exact HK.out)⟩
   ·
    replace c7 := Bool.eq_false_iff.mpr c7; subst c7; have H1 : (if (wrap64 ((wrap64 (s0_1 + 1)) - 1)) < (s0_0.length : Int) then (if 0 ≤ (wrap64 ((wrap64 (s0_1 + 1)) - 1)) then (if a1 = 0 then (none) else (some (Int.tmod (wrap64 (rd s0_0 (wrap64 ((wrap64 (s0_1 + 1)) - 1)))) a1, (wrap64 (s0_1 + 1))))) else (none)) else (if (s0_0.length : Int) = 0 then (none) else (if 0 ≤ (Int.tmod (wrap64 ((wrap64 (s0_1 + 1)) - 1)) (s0_0.length : Int)) then (if (Int.tmod (wrap64 ((wrap64 (s0_1 + 1)) - 1)) (s0_0.length : Int)) < (s0_0.length : Int) then (if 0 ≤ (Int.tmod (wrap64 ((wrap64 ((wrap64 ((wrap64 (s0_1 + 1)) - 1)) * 7)) + 3)) (s0_0.length : Int)) then (if (Int.tmod (wrap64 ((wrap64 ((wrap64 ((wrap64 (s0_1 + 1)) - 1)) * 7)) + 3)) (s0_0.length : Int)) < (s0_0.length : Int) then (if a1 = 0 then (none) else (some (Int.tmod (Go.bits .xor .i64 (wrap64 ((wrap64 ((wrap64 ((wrap64 ((wrap64 (rd s0_0 (Int.tmod (wrap64 ((wrap64 (s0_1 + 1)) - 1)) (s0_0.length : Int)))) * 131)) + (wrap64 ((wrap64 (rd s0_0 (Int.tmod (wrap64 ((wrap64 ((wrap64 ((wrap64 (s0_1 + 1)) - 1)) * 7)) + 3)) (s0_0.length : Int)))) * 1117)))) + (wrap64 ((wrap64 ((wrap64 (s0_1 + 1)) - 1)) * 29)))) + (wrap64 ((wrap64 (Int.tdiv (wrap64 ((wrap64 (s0_1 + 1)) - 1)) (s0_0.length : Int))) * 53)))) (wrap64 (Int.tdiv (wrap64 ((wrap64 ((wrap64 ((wrap64 ((wrap64 (rd s0_0 (Int.tmod (wrap64 ((wrap64 (s0_1 + 1)) - 1)) (s0_0.length : Int)))) * 131)) + (wrap64 ((wrap64 (rd s0_0 (Int.tmod (wrap64 ((wrap64 ((wrap64 ((wrap64 (s0_1 + 1)) - 1)) * 7)) + 3)) (s0_0.length : Int)))) * 1117)))) + (wrap64 ((wrap64 ((wrap64 (s0_1 + 1)) - 1)) * 29)))) + (wrap64 ((wrap64 (Int.tdiv (wrap64 ((wrap64 (s0_1 + 1)) - 1)) (s0_0.length : Int))) * 53)))) 64))) a1, (wrap64 (s0_1 + 1))))) else (none)) else (none)) else (none)) else (none)))) = some (r1, r2) := by rw [if_neg (show ¬ (false = true) by decide)] at H; exact H
    clear H; have H := H1; clear H1; by_cases c8 : (wrap64 ((wrap64 (s0_1 + 1)) - 1)) < (s0_0.length : Int)
    ·
     rw [if_pos c8] at H; have c8b0 : decide ((wrap64 ((wrap64 (s0_1 + 1)) - 1)) < (s0_0.length : Int)) = true := decide_eq_true c8; clear c8; obtain ⟨ji9, hji9⟩ : ∃ j_ : Int, (wrap64 ((wrap64 (s0_1 + 1)) - 1)) = j_ := ⟨_, rfl⟩
     replace H : (if 0 ≤ (ji9) then (if a1 = 0 then (none) else (some (Int.tmod (wrap64 (rd s0_0 (ji9))) a1, (wrap64 (s0_1 + 1))))) else (none)) = some (r1, r2) := by first | (rw [hji9] at H; exact H) | (simp only [hji9] at H ⊢; exact H)
     (try rw [hji9] at c8b0)
     have hji9w : (IntKind.i64.wrap ((wrap64 (s0_1 + 1)) - 1)) = ji9 := (i64_w _).trans hji9; by_cases c10 : 0 ≤ (ji9)
     ·
      rw [if_pos c10] at H; have c10b0 : decide (0 ≤ (ji9)) = true := decide_eq_true c10; clear c10; by_cases c11 : a1 = 0
      ·
       rw [if_pos c11] at H; exact absurd H (by simp)
      ·
       rw [if_neg c11] at H; have c11b0 : (a1 == 0) = false := beq_eq_false_iff_ne.mpr c11; have c11b1 : (a1 != 0) = true := bne_iff_ne.mpr c11; simp only [Option.some.injEq, Prod.mk.injEq] at H; obtain ⟨rfl, rfl⟩ := H; obtain ⟨ASz12_0, cSz12_0, HGz12, hgz12, HSz12_0⟩ := HI0.out; have hcz12_0 := cellS68_0 HGz12; have hcz12_1 := cellS68_1 HGz12; have hfz12_1 := blk_frozen HGz12 1; clear HGz12 hgz12; have p101 : 0 ≤ ((ji9) : Int) := of_decide_eq_true (by first | (with_reducible assumption) | assumption); have q101 : (ji9) < (s0_0.length : Int) := of_decide_eq_true (by first | (with_reducible assumption) | assumption); obtain ⟨ad101, e101, hx101_0⟩ := Kd.at_int HSz12_0 (ji9) p101 q101; cases e101; replace hx101_0 := pw_cell_below HB.out hx101_0; replace p101 := eq_true p101; replace q101 := eq_true q101; go_wp2; repeat (go_quiet (fail); try go_wp2)
       go_ret
       exact ⟨by first | rfl | (simp [errW_none, errW_some] <;> rfl) | (simp only [← hji9]; first | rfl | (simp [errW_none, errW_some] <;> rfl)) | (simp [*, errW_none, errW_some] <;> rfl), by repeat (first | (with_reducible first | exact HI0.out | apply IsS68.alloc | apply IsS68.drewN | apply IsS68.drew | apply IsS68.set_1) | exact HI0.out), by repeat (first | (with_reducible first | exact HB.out | apply below_alloc | apply pw_below_drewN | apply below_drew1 | refine below_set ?_ (IsS68.ge HI0.out)) | exact HB.out), by repeat (first | (with_reducible first | exact HK.out | apply KeepBut.set_ | apply keep_drewN | apply keep_drew | apply keep_alloc) | exact HK.out)⟩
     ·
      rw [if_neg c10] at H; exact absurd H (by simp)
    ·
     rw [if_neg c8] at H; have c8b0 : decide ((wrap64 ((wrap64 (s0_1 + 1)) - 1)) < (s0_0.length : Int)) = false := decide_eq_false c8; clear c8; by_cases c13 : (s0_0.length : Int) = 0
     ·
      rw [if_pos c13] at H; exact absurd H (by simp)
     ·
      rw [if_neg c13] at H; have c13b0 : ((s0_0.length : Int) == 0) = false := beq_eq_false_iff_ne.mpr c13; have c13b1 : ((s0_0.length : Int) != 0) = true := bne_iff_ne.mpr c13; have c13b2 : ¬ (s0_0 = []) := fun h_ => c13 (by rw [h_]; rfl)
      obtain ⟨ji14, hji14⟩ : ∃ j_ : Int, (Int.tmod (wrap64 ((wrap64 (s0_1 + 1)) - 1)) (s0_0.length : Int)) = j_ := ⟨_, rfl⟩
      replace H : (if 0 ≤ (ji14) then (if (ji14) < (s0_0.length : Int) then (if 0 ≤ (Int.tmod (wrap64 ((wrap64 ((wrap64 ((wrap64 (s0_1 + 1)) - 1)) * 7)) + 3)) (s0_0.length : Int)) then (if (Int.tmod (wrap64 ((wrap64 ((wrap64 ((wrap64 (s0_1 + 1)) - 1)) * 7)) + 3)) (s0_0.length : Int)) < (s0_0.length : Int) then (if a1 = 0 then (none) else (some (Int.tmod (Go.bits .xor .i64 (wrap64 ((wrap64 ((wrap64 ((wrap64 ((wrap64 (rd s0_0 (ji14))) * 131)) + (wrap64 ((wrap64 (rd s0_0 (Int.tmod (wrap64 ((wrap64 ((wrap64 ((wrap64 (s0_1 + 1)) - 1)) * 7)) + 3)) (s0_0.length : Int)))) * 1117)))) + (wrap64 ((wrap64 ((wrap64 (s0_1 + 1)) - 1)) * 29)))) + (wrap64 ((wrap64 (Int.tdiv (wrap64 ((wrap64 (s0_1 + 1)) - 1)) (s0_0.length : Int))) * 53)))) (wrap64 (Int.tdiv (wrap64 ((wrap64 ((wrap64 ((wrap64 ((wrap64 (rd s0_0 (ji14))) * 131)) + (wrap64 ((wrap64 (rd s0_0 (Int.tmod (wrap64 ((wrap64 ((wrap64 ((wrap64 (s0_1 + 1)) - 1)) * 7)) + 3)) (s0_0.length : Int)))) * 1117)))) + (wrap64 ((wrap64 ((wrap64 (s0_1 + 1)) - 1)) * 29)))) + (wrap64 ((wrap64 (Int.tdiv (wrap64 ((wrap64 (s0_1 + 1)) - 1)) (s0_0.length : Int))) * 53)))) 64))) a1, (wrap64 (s0_1 + 1))))) else (none)) else (none)) else (none)) else (none)) = some (r1, r2) := by first | (rw [hji14] at H; exact H) | (simp only [hji14] at H ⊢; exact H)
      by_cases c15 : 0 ≤ (ji14)
      ·
       rw [if_pos c15] at H; have c15b0 : decide (0 ≤ (ji14)) = true := decide_eq_true c15; clear c15; by_cases c16 : (ji14) < (s0_0.length : Int)
       ·
        rw [if_pos c16] at H; have c16b0 : decide ((ji14) < (s0_0.length : Int)) = true := decide_eq_true c16; clear c16; obtain ⟨ji17, hji17⟩ : ∃ j_ : Int, (Int.tmod (wrap64 ((wrap64 ((wrap64 ((wrap64 (s0_1 + 1)) - 1)) * 7)) + 3)) (s0_0.length : Int)) = j_ := ⟨_, rfl⟩
        replace H : (if 0 ≤ (ji17) then (if (ji17) < (s0_0.length : Int) then (if a1 = 0 then (none) else (some (Int.tmod (Go.bits .xor .i64 (wrap64 ((wrap64 ((wrap64 ((wrap64 ((wrap64 (rd s0_0 (ji14))) * 131)) + (wrap64 ((wrap64 (rd s0_0 (ji17))) * 1117)))) + (wrap64 ((wrap64 ((wrap64 (s0_1 + 1)) - 1)) * 29)))) + (wrap64 ((wrap64 (Int.tdiv (wrap64 ((wrap64 (s0_1 + 1)) - 1)) (s0_0.length : Int))) * 53)))) (wrap64 (Int.tdiv (wrap64 ((wrap64 ((wrap64 ((wrap64 ((wrap64 (rd s0_0 (ji14))) * 131)) + (wrap64 ((wrap64 (rd s0_0 (ji17))) * 1117)))) + (wrap64 ((wrap64 ((wrap64 (s0_1 + 1)) - 1)) * 29)))) + (wrap64 ((wrap64 (Int.tdiv (wrap64 ((wrap64 (s0_1 + 1)) - 1)) (s0_0.length : Int))) * 53)))) 64))) a1, (wrap64 (s0_1 + 1))))) else (none)) else (none)) = some (r1, r2) := by first | (rw [hji17] at H; exact H) | (simp only [hji17] at H ⊢; exact H)
        by_cases c18 : 0 ≤ (ji17)
        ·
         rw [if_pos c18] at H; have c18b0 : decide (0 ≤ (ji17)) = true := decide_eq_true c18; clear c18; by_cases c19 : (ji17) < (s0_0.length : Int)
         ·
          rw [if_pos c19] at H; have c19b0 : decide ((ji17) < (s0_0.length : Int)) = true := decide_eq_true c19; clear c19; by_cases c20 : a1 = 0
          ·
           rw [if_pos c20] at H; exact absurd H (by simp)
          ·
           rw [if_neg c20] at H; have c20b0 : (a1 == 0) = false := beq_eq_false_iff_ne.mpr c20; have c20b1 : (a1 != 0) = true := bne_iff_ne.mpr c20; simp only [Option.some.injEq, Prod.mk.injEq] at H; obtain ⟨rfl, rfl⟩ := H; obtain ⟨ASz21_0, cSz21_0, HGz21, hgz21, HSz21_0⟩ := HI0.out; have hcz21_0 := cellS68_0 HGz21; have hcz21_1 := cellS68_1 HGz21; have hfz21_1 := blk_frozen HGz21 1; clear HGz21 hgz21; have p102 : 0 ≤ ((ji14) : Int) := of_decide_eq_true (by first | (with_reducible assumption) | assumption); have q102 : (ji14) < (s0_0.length : Int) := of_decide_eq_true (by first | (with_reducible assumption) | assumption); obtain ⟨ad102, e102, hx102_0⟩ := Kd.at_int HSz21_0 (ji14) p102 q102; cases e102; replace hx102_0 := pw_cell_below HB.out hx102_0; replace p102 := eq_true p102; replace q102 := eq_true q102; have p103 : 0 ≤ ((ji17) : Int) := of_decide_eq_true (by first | (with_reducible assumption) | assumption); have q103 : (ji17) < (s0_0.length : Int) := of_decide_eq_true (by first | (with_reducible assumption) | assumption); obtain ⟨ad103, e103, hx103_0⟩ := Kd.at_int HSz21_0 (ji17) p103 q103; obtain rfl : ad102 = ad103 := (by injection e103)
           replace hx103_0 := pw_cell_below HB.out hx103_0; replace p103 := eq_true p103; replace q103 := eq_true q103; go_wp2; repeat (go_quiet (fail); try go_wp2)
           go_ret
           exact ⟨by first | rfl | (simp [errW_none, errW_some] <;> rfl) | (simp only [← hji14, ← hji17]; first | rfl | (simp [errW_none, errW_some] <;> rfl)) | (simp [*, errW_none, errW_some] <;> rfl), by repeat (first | (with_reducible first | exact HI0.out | apply IsS68.alloc | apply IsS68.drewN | apply IsS68.drew | apply IsS68.set_1) | exact HI0.out), by repeat (first | (with_reducible first | exact HB.out | apply below_alloc | apply pw_below_drewN | apply below_drew1 | refine below_set ?_ (IsS68.ge HI0.out)) | exact HB.out), by repeat (first | (with_reducible first | exact HK.out | apply KeepBut.set_ | apply keep_drewN | apply keep_drew | apply keep_alloc) | exact HK.out)⟩
         ·
          rw [if_neg c19] at H; exact absurd H (by simp)
        ·
         rw [if_neg c18] at H; exact absurd H (by simp)
       ·
        rw [if_neg c16] at H; exact absurd H (by simp)
      ·
       rw [if_neg c15] at H; exact absurd H (by simp)

end Go.Proofs.YtiagfjbngpbejaaDoor.PFnSingMany
namespace Go.Proofs.YtiagfjbngpbejaaDoor.PFnSingMany
open Go.RowKit Go.Proofs.YtiagfjbngpbejaaDoorW.PrintWords Go.Proofs.YtiagfjbngpbejaaDoorW.PrintLast Go.Proofs.YtiagfjbngpbejaaDoorW.PrintMore
attribute [local go_sem] max2_int min2_int max_two min_two max_three min_three max_four min_four   -- for this text's walks alone
set_option linter.unusedVariables false
set_option linter.unusedSimpArgs false

def spec_l1Letter.f (a0 : Int) : Option (Int) := some (Int.tmod a0 7)
set_option maxHeartbeats 8000000 in
set_option maxRecDepth 100000 in
theorem spec_l1Letter.calls (a0 : Int) (r : Int) (w : World) (h : spec_l1Letter.f a0 = some r) :
 Calls Tryd.prog 31 #[.int .i64 a0] w fun e w' => e = .returned (.int .i64 r) ∧ Drawn0 w w' := by
 have H : (some (Int.tmod a0 7)) = some r := h; clear h; obtain rfl := Option.some.inj H; go_enter Tryd.func31, Tryd.ntmps31
 go_wp2; go_ret
 exact ⟨by first | rfl | (simp; done) | (simp [*]; done), by repeat (first | exact Drawn0.refl _ | apply Drawn0.step)⟩

end Go.Proofs.YtiagfjbngpbejaaDoor.PFnSingMany
namespace Go.Proofs.YtiagfjbngpbejaaDoor.PFnSingMany
open Go.RowKit Go.Proofs.YtiagfjbngpbejaaDoorW.PrintWords Go.Proofs.YtiagfjbngpbejaaDoorW.PrintLast Go.Proofs.YtiagfjbngpbejaaDoorW.PrintMore
attribute [local go_sem] max2_int min2_int max_two min_two max_three min_three max_four min_four   -- for this text's walks alone
set_option linter.unusedVariables false
set_option linter.unusedSimpArgs false

def spec_l91Melody.l0 : Nat → List (S29) → Int → Int → Int → List Int → Int → Option ((List (S29)) × Int)
 | 0, _, _, _, _, _, _ => none
 | k + 1, x5, x6, x7, x8, x1000, x1001 => if x8 < x6 then ((spec_l1Letter.f x7).bind fun t111 => (if t111 = 2 then ((spec_l6Rd_pick.f k x1000 x1001 3).bind fun bt112 => (if x5.length < 8796093022208 then ((spec_l6Rd_pick.f k x1000 bt112.2 5).bind fun bt117 => (spec_l91Melody.l0 k (x5 ++ [(⟨x7, (bt112.1 == 0)⟩ : S29)]) x6 (mx 1 (mn 15 (wrap64 ((wrap64 (x7 + bt117.1)) - 2)))) (wrap64 (x8 + 1)) x1000 bt117.2)) else (none))) else (if x5.length < 8796093022208 then ((spec_l6Rd_pick.f k x1000 x1001 5).bind fun bt122 => (spec_l91Melody.l0 k (x5 ++ [(⟨x7, false⟩ : S29)]) x6 (mx 1 (mn 15 (wrap64 ((wrap64 (x7 + bt122.1)) - 2)))) (wrap64 (x8 + 1)) x1000 bt122.2)) else (none)))) else (if x6 > 0 then ((spec_l6Rd_pick.f k x1000 x1001 50).bind fun bt124 => (if bt124.1 = 0 then ((some (([(-1), 21, 20] : List Int) : List Int)).bind fun y126 => ((spec_l6Rd_pick.f k x1000 bt124.2 3).bind fun bt129 => (if 0 ≤ bt129.1 then (if bt129.1 < (y126.length : Int) then (if 0 < (x5.length : Int) then (some ((x5.set (0 : Int).toNat (⟨rd y126 bt129.1, (rd_T29 x5 0).f1⟩ : S29)), bt129.2)) else (none)) else (none)) else (none)))) else (if bt124.1 = 1 then (if 0 ≤ (wrap64 (x6 - 1)) then (if (wrap64 (x6 - 1)) < (x5.length : Int) then (some ((x5.set ((wrap64 (x6 - 1)) : Int).toNat (⟨(rd_T29 x5 (wrap64 (x6 - 1))).f0, true⟩ : S29)), bt124.2)) else (none)) else (none)) else (some (x5, bt124.2))))) else (some (x5, x1001)))
def spec_l91Melody.f (k : Nat) (s0_0 : List Int) (s0_1 : Int) (a1 : Int) : Option ((List (S29)) × Int) := (spec_l6Rd_pick.f k s0_0 s0_1 (wrap64 (a1 + 1))).bind fun bt107 => ((spec_l6Rd_pick.f k s0_0 bt107.2 5).bind fun bt109 => (spec_l91Melody.l0 k (([] : List (S29))) bt107.1 (wrap64 (4 + bt109.1)) 0 s0_0 bt109.2))
set_option maxHeartbeats 8000000 in
set_option maxRecDepth 100000 in
theorem spec_l91Melody.calls (k : Nat) (g : Nat) (s0_0 : List Int) (s0_1 : Int) (a1 : Int) (r1 : List (S29)) (r2 : Int) (w0 w : World) (hI : IsS68 w0 w g s0_0 s0_1) (hB : Below w0.heap.size w0 w) (h : spec_l91Melody.f k s0_0 s0_1 a1 = some (r1, r2)) :
 Calls Tryd.prog 18 #[.pointer (some ⟨g, 0, none⟩), .int .i64 a1] w fun e w' => ∃ v0_ : Value, e = .returned (v0_) ∧ Kd.R k29 29 w' w.heap.size (fun _ => True) v0_ r1 ∧ IsS68 w0 w' g s0_0 r2 ∧ Below w0.heap.size w0 w' ∧ KeepBut w w' g none := by
 have hu29 := Tryd.underlying29; have HI0 := Aside0.mk hI; have HK := Aside0.mk (KeepBut.refl w g none); have HL := Aside0.mk hB.size; clear hI; have HW0 := Aside0.mk hB.size; have HB := Aside0.mk hB; clear hB; have H : ((spec_l6Rd_pick.f k s0_0 s0_1 (wrap64 (a1 + 1))).bind fun bt107 => ((spec_l6Rd_pick.f k s0_0 bt107.2 5).bind fun bt109 => (spec_l91Melody.l0 k (([] : List (S29))) bt107.1 (wrap64 (4 + bt109.1)) 0 s0_0 bt109.2))) = some (r1, r2) := h; clear h; obtain ⟨y104, hy104⟩ : ∃ y_ : List (S29), y_ = (([] : List (S29))) := ⟨_, rfl⟩
 replace H : ((spec_l6Rd_pick.f k s0_0 s0_1 (wrap64 (a1 + 1))).bind fun bt107 => ((spec_l6Rd_pick.f k s0_0 bt107.2 5).bind fun bt109 => (spec_l91Melody.l0 k y104 bt107.1 (wrap64 (4 + bt109.1)) 0 s0_0 bt109.2))) = some (r1, r2) := by first | (rw [hy104]; with_reducible exact H) | (have H2_ := (Option.bind_some _ _).symm.trans H; rw [hy104]; with_reducible exact H2_) | (have H2_ := (Option.bind_some _ _).symm.trans H; with_reducible exact H2_) | with_reducible exact H | (rw [hy104]; exact H) | exact H
 have Ny104 := Aside0.mk hy104; clear hy104; replace H := Option.bind_eq_some_iff.mp H; obtain ⟨⟨t107, t108⟩, A30, H⟩ := H; replace H : ((spec_l6Rd_pick.f k s0_0 t108 5).bind fun bt109 => (spec_l91Melody.l0 k y104 t107 (wrap64 (4 + bt109.1)) 0 s0_0 bt109.2)) = some (r1, r2) := H; have A3 := Aside0.mk A30; clear A30; replace H := Option.bind_eq_some_iff.mp H; obtain ⟨⟨t109, t110⟩, A40, H⟩ := H; replace H : (spec_l91Melody.l0 k y104 t107 (wrap64 (4 + t109)) 0 s0_0 t110) = some (r1, r2) := H; have A4 := Aside0.mk A40; clear A40; have H' := Aside0.mk H; clear H; go_enter Tryd.func18, Tryd.ntmps18
 go_wp2_with (first | ((with_reducible refine gate_dst (N := 9) rfl ?_); refine Kd.R_lit k29 _ 29 ?hg (N := 9) ?hd (xs := ([] : List (S29))) (inner := []) (ok := fun _ => True) (okp := fun _ => True) ?hr ?hp (fun _ hk => hk) trivial (Below.refl _ _) (Nat.le_refl _) (by simp) ?_; (case hd => rfl); (case hg => rfl); (case hr => first | (go_simp; done) | (go_simp; rfl)); (case hp => exact (Reps.none _ _)); intro v105 w5 ho6 hb hg_ hnew_; clear hg_ hnew_; (first | rw [← Ny104.out] at ho6 | (simp only [Int.reduceToNat] at ho6; rw [← Ny104.out] at ho6)); have n0_ := Aside0.mk (Kd.R_lower ho6 (keep_size (w := w) (g := g) (row := none) (by repeat (first | (with_reducible first | exact HK.out | apply KeepBut.set_ | apply keep_drewN | apply keep_drew | apply keep_alloc) | exact HK.out)))); have n1_ := Aside0.mk (IsS68.below (by repeat (first | (with_reducible first | exact HI0.out | apply IsS68.alloc | apply IsS68.drewN | apply IsS68.drew | apply IsS68.set_1) | exact HI0.out)) hb); have n2_ := Aside0.mk (KeepBut.trans (by repeat (first | (with_reducible first | exact HK.out | apply KeepBut.set_ | apply keep_drewN | apply keep_drew | apply keep_alloc) | exact HK.out)) (KeepBut.of_below hb g none) (.inl rfl)); have n3_ := Aside0.mk (below_step (by repeat (first | (with_reducible first | exact HB.out | apply below_alloc | apply pw_below_drewN | apply below_drew1 | refine below_set ?_ (IsS68.ge HI0.out)) | exact HB.out)) hb); clear HI0; clear HK; clear HB; have HO106 := n0_; have HI0 := n1_; have HK := n2_; have HB := n3_; clear n0_ n1_ n2_ n3_; clear hb ho6) | ((with_reducible refine gate_callee (f := 30) rfl ?_); refine goesL_ (some 13) rfl rfl Tryd.func30 (by kernel_rfl) rfl #[.pointer (some ⟨g, 0, none⟩), .int .i64 (wrap64 (a1 + 1))] rfl (by (try simp only [List.map_toArray, List.map_cons, List.map_nil]); first | done | rfl | (simp only [List.length_drop, List.length_take]; rfl)) ?_; (with_reducible refine (spec_l6Rd_pick.calls k g s0_0 s0_1 (wrap64 (a1 + 1)) t107 t108 w0 _ ?side1 ?side2 A3.out).mono ?_); (case side1 => repeat (first | (with_reducible first | exact HI0.out | apply IsS68.alloc | apply IsS68.drewN | apply IsS68.drew | apply IsS68.set_1) | exact HI0.out)); (case side2 => repeat (first | (with_reducible first | exact HB.out | apply below_alloc | apply pw_below_drewN | apply below_drew1 | refine below_set ?_ (IsS68.ge HI0.out)) | exact HB.out)); rintro e w7 ⟨rfl, hi, hb, hk⟩; refine ⟨_, rfl, ?_⟩; have n0_ := Aside0.mk (Kd.R_mono (Kd.R_keep (IsS68.apart (show IsS68 w0 _ g s0_0 s0_1 from by repeat (first | (with_reducible first | exact HI0.out | apply IsS68.alloc | apply IsS68.drewN | apply IsS68.drew | apply IsS68.set_1) | exact HI0.out)) (by (with_reducible repeat (first | apply Kd.R_alloc | apply Kd.R_drewN | apply Kd.R_drew)); exact HO106.out) (by decide)) hk (fun _ h => h.2)) (fun _ h => h.1)); have n1_ := Aside0.mk (KeepBut.trans (by repeat (first | (with_reducible first | exact HK.out | apply KeepBut.set_ | apply keep_drewN | apply keep_drew | apply keep_alloc) | exact HK.out)) hk (.inl rfl)); have n2_ := Aside0.mk (hb); have n3_ := Aside0.mk (hi); clear HO106; clear HK; clear HB; clear HI0; have HO106 := n0_; have HK := n1_; have HB := n2_; have HI0 := n3_; clear n0_ n1_ n2_ n3_; (try clear hb); (try clear hb2); (try clear hk); (try clear hi)) | ((with_reducible refine gate_callee (f := 30) rfl ?_); refine goesL_ (some 15) rfl rfl Tryd.func30 (by kernel_rfl) rfl #[.pointer (some ⟨g, 0, none⟩), .int .i64 5] rfl (by (try simp only [List.map_toArray, List.map_cons, List.map_nil]); first | done | rfl | (simp only [List.length_drop, List.length_take]; rfl)) ?_; (with_reducible refine (spec_l6Rd_pick.calls k g s0_0 t108 5 t109 t110 w0 _ ?side1 ?side2 A4.out).mono ?_); (case side1 => repeat (first | (with_reducible first | exact HI0.out | apply IsS68.alloc | apply IsS68.drewN | apply IsS68.drew | apply IsS68.set_1) | exact HI0.out)); (case side2 => repeat (first | (with_reducible first | exact HB.out | apply below_alloc | apply pw_below_drewN | apply below_drew1 | refine below_set ?_ (IsS68.ge HI0.out)) | exact HB.out)); rintro e w8 ⟨rfl, hi, hb, hk⟩; refine ⟨_, rfl, ?_⟩; have n0_ := Aside0.mk (Kd.R_mono (Kd.R_keep (IsS68.apart (show IsS68 w0 _ g s0_0 t108 from by repeat (first | (with_reducible first | exact HI0.out | apply IsS68.alloc | apply IsS68.drewN | apply IsS68.drew | apply IsS68.set_1) | exact HI0.out)) (by (with_reducible repeat (first | apply Kd.R_alloc | apply Kd.R_drewN | apply Kd.R_drew)); exact HO106.out) (by decide)) hk (fun _ h => h.2)) (fun _ h => h.1)); have n1_ := Aside0.mk (KeepBut.trans (by repeat (first | (with_reducible first | exact HK.out | apply KeepBut.set_ | apply keep_drewN | apply keep_drew | apply keep_alloc) | exact HK.out)) hk (.inl rfl)); have n2_ := Aside0.mk (hb); have n3_ := Aside0.mk (hi); clear HO106; clear HK; clear HB; clear HI0; have HO106 := n0_; have HK := n1_; have HB := n2_; have HI0 := n3_; clear n0_ n1_ n2_ n3_; (try clear hb); (try clear hb2); (try clear hk); (try clear hi)))
 go_loopg [5, 7, 8] k (fun kq v5 v7 v8 w' => ∃ (x5_1 : List (S29)) (x7_1 : Int) (x8_1 : Int) (x1001_1 : Int), v7 = .int .i64 x7_1 ∧ v8 = .int .i64 x8_1 ∧ Aside0 (spec_l91Melody.l0 kq x5_1 t107 x7_1 x8_1 s0_0 x1001_1 = some (r1, r2)) ∧ Aside0 (kq ≤ k) ∧ Aside0 (Kd.R k29 29 w' w.heap.size (fun _ => True) v5 x5_1) ∧ Aside0 (IsS68 w0 w' g s0_0 x1001_1) ∧ Aside0 (KeepBut w w' g none) ∧ Aside0 (Below w0.heap.size w0 w'))
 case atStart => exact ⟨(y104), (wrap64 (4 + t109)), (0), (t110), (by first | rfl | (simp; done) | (simp [*]; done)), (by first | rfl | (simp; done) | (simp [*]; done)), H', ⟨Nat.le_refl _⟩, ⟨by (with_reducible repeat (first | apply Kd.R_alloc | apply Kd.R_drewN | apply Kd.R_drew)); exact HO106.out⟩, ⟨by repeat (first | (with_reducible first | exact HI0.out | apply IsS68.alloc | apply IsS68.drewN | apply IsS68.drew | apply IsS68.set_1) | exact HI0.out)⟩, ⟨by repeat (first | (with_reducible first | exact HK.out | apply KeepBut.set_ | apply keep_drewN | apply keep_drew | apply keep_alloc) | exact HK.out)⟩, ⟨by repeat (first | (with_reducible first | exact HB.out | apply below_alloc | apply pw_below_drewN | apply below_drew1 | refine below_set ?_ (IsS68.ge HI0.out)) | exact HB.out)⟩⟩
 case round =>
  clear H'; try clear c1
  try clear p2
  try clear c3
  try clear p6
  obtain ⟨x5_1, x7_1, x8_1, x1001_1, rfl, rfl, HA, HK1, HO_5, HI0, HK, HB⟩ := hrel; cases gk with
  | zero => exact absurd HA.out (by simp [spec_l91Melody.l0])
  | succ k1 =>
   have H := HA.out; clear HA; simp only [spec_l91Melody.l0] at H; by_cases c9 : x8_1 < t107
   ·
    rw [if_pos c9] at H; have c9b0 : decide (x8_1 < t107) = true := decide_eq_true c9; clear c9; replace H := Option.bind_eq_some_iff.mp H; obtain ⟨t111, A100, H⟩ := H; replace H : (if t111 = 2 then ((spec_l6Rd_pick.f k1 s0_0 x1001_1 3).bind fun bt112 => (if x5_1.length < 8796093022208 then ((spec_l6Rd_pick.f k1 s0_0 bt112.2 5).bind fun bt117 => (spec_l91Melody.l0 k1 (x5_1 ++ [(⟨x7_1, (bt112.1 == 0)⟩ : S29)]) t107 (mx 1 (mn 15 (wrap64 ((wrap64 (x7_1 + bt117.1)) - 2)))) (wrap64 (x8_1 + 1)) s0_0 bt117.2)) else (none))) else (if x5_1.length < 8796093022208 then ((spec_l6Rd_pick.f k1 s0_0 x1001_1 5).bind fun bt122 => (spec_l91Melody.l0 k1 (x5_1 ++ [(⟨x7_1, false⟩ : S29)]) t107 (mx 1 (mn 15 (wrap64 ((wrap64 (x7_1 + bt122.1)) - 2)))) (wrap64 (x8_1 + 1)) s0_0 bt122.2)) else (none))) = some (r1, r2) := H; have A10 := Aside0.mk A100; clear A100; by_cases c11 : t111 = 2
    ·
     rw [if_pos c11] at H; have c11b0 : (t111 == 2) = true := beq_iff_eq.mpr c11; have c11b1 : (t111 != 2) = false := bne_eq_false_iff_eq.mpr c11; clear c11; replace H := Option.bind_eq_some_iff.mp H; obtain ⟨⟨t112, t113⟩, A120, H⟩ := H; replace H : (if x5_1.length < 8796093022208 then ((spec_l6Rd_pick.f k1 s0_0 t113 5).bind fun bt117 => (spec_l91Melody.l0 k1 (x5_1 ++ [(⟨x7_1, (t112 == 0)⟩ : S29)]) t107 (mx 1 (mn 15 (wrap64 ((wrap64 (x7_1 + bt117.1)) - 2)))) (wrap64 (x8_1 + 1)) s0_0 bt117.2)) else (none)) = some (r1, r2) := H; have A12 := Aside0.mk A120; clear A120; by_cases c13 : x5_1.length < 8796093022208
     ·
      rw [if_pos c13] at H; have LMc13 := Aside0.mk c13; clear c13; obtain ⟨y114, hy114⟩ : ∃ y_ : List (S29), y_ = (x5_1 ++ [(⟨x7_1, (t112 == 0)⟩ : S29)]) := ⟨_, rfl⟩
      replace H : ((spec_l6Rd_pick.f k1 s0_0 t113 5).bind fun bt117 => (spec_l91Melody.l0 k1 y114 t107 (mx 1 (mn 15 (wrap64 ((wrap64 (x7_1 + bt117.1)) - 2)))) (wrap64 (x8_1 + 1)) s0_0 bt117.2)) = some (r1, r2) := by first | (rw [hy114]; with_reducible exact H) | (have H2_ := (Option.bind_some _ _).symm.trans H; rw [hy114]; with_reducible exact H2_) | (have H2_ := (Option.bind_some _ _).symm.trans H; with_reducible exact H2_) | with_reducible exact H | (rw [hy114]; exact H) | exact H
      have Ny114 := Aside0.mk hy114; clear hy114; replace H := Option.bind_eq_some_iff.mp H; obtain ⟨⟨t117, t118⟩, A140, H⟩ := H; replace H : (spec_l91Melody.l0 k1 y114 t107 (mx 1 (mn 15 (wrap64 ((wrap64 (x7_1 + t117)) - 2)))) (wrap64 (x8_1 + 1)) s0_0 t118) = some (r1, r2) := H; have A14 := Aside0.mk A140; clear A140; obtain ⟨ji15, hji15⟩ : ∃ j_ : Int, (mn 15 (wrap64 ((wrap64 (x7_1 + t117)) - 2))) = j_ := ⟨_, rfl⟩
      replace H : (spec_l91Melody.l0 k1 y114 t107 (mx 1 (ji15)) (wrap64 (x8_1 + 1)) s0_0 t118) = some (r1, r2) := by first | (rw [hji15] at H; exact H) | (simp only [hji15] at H ⊢; exact H)
      (try rw [hji15] at A10)
      (try rw [hji15] at A12)
      (try rw [hji15] at A14)
      have hji15_ : (if (wrap64 ((wrap64 (x7_1 + t117)) - 2)) < 15 then (wrap64 ((wrap64 (x7_1 + t117)) - 2)) else 15) = ji15 := hji15; obtain ⟨ji16, hji16⟩ : ∃ j_ : Int, (mx 1 (ji15)) = j_ := ⟨_, rfl⟩
      replace H : (spec_l91Melody.l0 k1 y114 t107 ji16 (wrap64 (x8_1 + 1)) s0_0 t118) = some (r1, r2) := by first | (rw [hji16] at H; exact H) | (simp only [hji16] at H ⊢; exact H)
      (try rw [hji16] at A10)
      (try rw [hji16] at A12)
      (try rw [hji16] at A14)
      have hji16_ : (if 1 < (ji15) then (ji15) else 1) = ji16 := hji16; have H' := Aside0.mk H; clear H; go_wp2_with (first | ((with_reducible refine gate_callee (f := 31) rfl ?_); refine goesL_ (some 25) rfl rfl Tryd.func31 (by kernel_rfl) rfl #[.int .i64 x7_1] rfl (by (try simp only [List.map_toArray, List.map_cons, List.map_nil]); first | done | rfl | (simp only [List.length_drop, List.length_take]; rfl)) ?_; (with_reducible refine (spec_l1Letter.calls x7_1 t111 _ A10.out).mono ?_); rintro e w' ⟨rfl, ⟨nd, rfl⟩⟩; refine ⟨_, rfl, ?_⟩) | (go_at_call 30; (with_reducible refine (spec_l6Rd_pick.calls k1 g s0_0 x1001_1 3 t112 t113 w0 _ ?side1 ?side2 A12.out).mono ?_); (case side1 => repeat (first | (with_reducible first | exact HI0.out | apply IsS68.alloc | apply IsS68.drewN | apply IsS68.drew | apply IsS68.set_1) | exact HI0.out)); (case side2 => repeat (first | (with_reducible first | exact HB.out | apply below_alloc | apply pw_below_drewN | apply below_drew1 | refine below_set ?_ (IsS68.ge HI0.out)) | exact HB.out)); rintro e w17 ⟨rfl, hi, hb, hk⟩; have n0_ := Aside0.mk (Kd.R_mono (Kd.R_keep (IsS68.apart (show IsS68 w0 _ g s0_0 x1001_1 from by repeat (first | (with_reducible first | exact HI0.out | apply IsS68.alloc | apply IsS68.drewN | apply IsS68.drew | apply IsS68.set_1) | exact HI0.out)) (by (with_reducible repeat (first | apply Kd.R_alloc | apply Kd.R_drewN | apply Kd.R_drew)); exact HO_5.out) (by decide)) hk (fun _ h => h.2)) (fun _ h => h.1)); have n1_ := Aside0.mk (KeepBut.trans (by repeat (first | (with_reducible first | exact HK.out | apply KeepBut.set_ | apply keep_drewN | apply keep_drew | apply keep_alloc) | exact HK.out)) hk (.inl rfl)); have n2_ := Aside0.mk (hb); have n3_ := Aside0.mk (hi); clear HO_5; clear HK; clear HB; clear HI0; have HO_5 := n0_; have HK := n1_; have HB := n2_; have HI0 := n3_; clear n0_ n1_ n2_ n3_; (try clear hb); (try clear hb2); (try clear hk); (try clear hi)) | ((with_reducible refine gate_builtin (b := .append) (xs := #[.tmp 22, .tmp 33]) rfl ?_); at_builtin; refine Kd.R_append k29 w.heap.size rfl (.tmp 22) (.tmp 33) 23 29 (.agg #[(.int .i64 0), (.bool false)]) 16 rfl Tryd.underlying23 info29 rfl (by decide) (by omega) u5 x5_1 (⟨x7_1, (t112 == 0)⟩ : S29) [.int .i64 x7_1, .bool (t112 == 0)] (fun _ => True) (fun _ => False) rfl rfl ?aP (fun _ hk => hk.elim) ?aF ?aO (Below.refl _ _) ?aS ?aL ?_; (case aP => exact k29_mkM _ _ _ (⟨x7_1, (t112 == 0)⟩ : S29)); (case aF => exact (fun _ _ => trivial)); (case aO => exact (by (with_reducible repeat (first | apply Kd.R_alloc | apply Kd.R_drewN | apply Kd.R_drew)); exact HO_5.out)); (case aS => exact (keep_size (w := w) (g := g) (row := none) (by repeat (first | (with_reducible first | exact HK.out | apply KeepBut.set_ | apply keep_drewN | apply keep_drew | apply keep_alloc) | exact HK.out)))); (case aL => have := LMc13.out; omega); intro v115 w18 ho hb hg hat; rw [← Ny114.out] at ho; have n0_ := Aside0.mk (IsS68.grown (by repeat (first | (with_reducible first | exact HI0.out | apply IsS68.alloc | apply IsS68.drewN | apply IsS68.drew | apply IsS68.set_1) | exact HI0.out)) hg (IsS68.own_ne HI0.out HO_5.out (by decide))); have n1_ := Aside0.mk (below_weaken (by repeat (first | (with_reducible first | exact HB.out | apply below_alloc | apply pw_below_drewN | apply below_drew1 | refine below_set ?_ (IsS68.ge HI0.out)) | exact HB.out)) HL.out hb); have n2_ := Aside0.mk (KeepBut.trans (by repeat (first | (with_reducible first | exact HK.out | apply KeepBut.set_ | apply keep_drewN | apply keep_drew | apply keep_alloc) | exact HK.out)) (KeepBut.of_grown hg g) (Kd.R_base2 HO_5.out)); have n3_ := Aside0.mk (ho); clear HI0; clear HB; clear HK; clear HO_5; have HI0 := n0_; have HB := n1_; have HK := n2_; have HO116 := n3_; clear n0_ n1_ n2_ n3_; clear ho hb hg hat) | ((with_reducible refine gate_callee (f := 30) rfl ?_); refine goesL_ (some 37) rfl rfl Tryd.func30 (by kernel_rfl) rfl #[.pointer (some ⟨g, 0, none⟩), .int .i64 5] rfl (by (try simp only [List.map_toArray, List.map_cons, List.map_nil]); first | done | rfl | (simp only [List.length_drop, List.length_take]; rfl)) ?_; (with_reducible refine (spec_l6Rd_pick.calls k1 g s0_0 t113 5 t117 t118 w0 _ ?side1 ?side2 A14.out).mono ?_); (case side1 => repeat (first | (with_reducible first | exact HI0.out | apply IsS68.alloc | apply IsS68.drewN | apply IsS68.drew | apply IsS68.set_1) | exact HI0.out)); (case side2 => repeat (first | (with_reducible first | exact HB.out | apply below_alloc | apply pw_below_drewN | apply below_drew1 | refine below_set ?_ (IsS68.ge HI0.out)) | exact HB.out)); rintro e w19 ⟨rfl, hi, hb, hk⟩; refine ⟨_, rfl, ?_⟩; have n0_ := Aside0.mk (Kd.R_mono (Kd.R_keep (IsS68.apart (show IsS68 w0 _ g s0_0 t113 from by repeat (first | (with_reducible first | exact HI0.out | apply IsS68.alloc | apply IsS68.drewN | apply IsS68.drew | apply IsS68.set_1) | exact HI0.out)) (by (with_reducible repeat (first | apply Kd.R_alloc | apply Kd.R_drewN | apply Kd.R_drew)); exact HO116.out) (by decide)) hk (fun _ h => h.2)) (fun _ h => h.1)); have n1_ := Aside0.mk (KeepBut.trans (by repeat (first | (with_reducible first | exact HK.out | apply KeepBut.set_ | apply keep_drewN | apply keep_drew | apply keep_alloc) | exact HK.out)) hk (.inl rfl)); have n2_ := Aside0.mk (hb); have n3_ := Aside0.mk (hi); clear HO116; clear HK; clear HB; clear HI0; have HO116 := n0_; have HK := n1_; have HB := n2_; have HI0 := n3_; clear n0_ n1_ n2_ n3_; (try clear hb); (try clear hb2); (try clear hk); (try clear hi)))
      go_roundg k1
      case measure => have := HK1.out; omega
      case rel => exact ⟨(y114), (ji16), (wrap64 (x8_1 + 1)), (t118), (by first | rfl | (simp; done) | (simp only [← hji16] <;> (first | rfl | simp)) | (simp [*]; done)), (by first | rfl | (simp; done) | (simp [*]; done)), H', ⟨by have := HK1.out; omega⟩, ⟨by (with_reducible repeat (first | apply Kd.R_alloc | apply Kd.R_drewN | apply Kd.R_drew)); exact HO116.out⟩, ⟨by repeat (first | (with_reducible first | exact HI0.out | apply IsS68.alloc | apply IsS68.drewN | apply IsS68.drew | apply IsS68.set_1) | exact HI0.out)⟩, ⟨by repeat (first | (with_reducible first | exact HK.out | apply KeepBut.set_ | apply keep_drewN | apply keep_drew | apply keep_alloc) | exact HK.out)⟩, ⟨by repeat (first | (with_reducible first | exact HB.out | apply below_alloc | apply pw_below_drewN | apply below_drew1 | refine below_set ?_ (IsS68.ge HI0.out)) | exact HB.out)⟩⟩
     ·
      rw [if_neg c13] at H; exact absurd H (by simp)
    ·
     rw [if_neg c11] at H; have c11b0 : (t111 == 2) = false := beq_eq_false_iff_ne.mpr c11; have c11b1 : (t111 != 2) = true := bne_iff_ne.mpr c11; by_cases c20 : x5_1.length < 8796093022208
     ·
      rw [if_pos c20] at H; have LMc20 := Aside0.mk c20; clear c20; obtain ⟨y119, hy119⟩ : ∃ y_ : List (S29), y_ = (x5_1 ++ [(⟨x7_1, false⟩ : S29)]) := ⟨_, rfl⟩
      replace H : ((spec_l6Rd_pick.f k1 s0_0 x1001_1 5).bind fun bt122 => (spec_l91Melody.l0 k1 y119 t107 (mx 1 (mn 15 (wrap64 ((wrap64 (x7_1 + bt122.1)) - 2)))) (wrap64 (x8_1 + 1)) s0_0 bt122.2)) = some (r1, r2) := by first | (rw [hy119]; with_reducible exact H) | (have H2_ := (Option.bind_some _ _).symm.trans H; rw [hy119]; with_reducible exact H2_) | (have H2_ := (Option.bind_some _ _).symm.trans H; with_reducible exact H2_) | with_reducible exact H | (rw [hy119]; exact H) | exact H
      have Ny119 := Aside0.mk hy119; clear hy119; replace H := Option.bind_eq_some_iff.mp H; obtain ⟨⟨t122, t123⟩, A210, H⟩ := H; replace H : (spec_l91Melody.l0 k1 y119 t107 (mx 1 (mn 15 (wrap64 ((wrap64 (x7_1 + t122)) - 2)))) (wrap64 (x8_1 + 1)) s0_0 t123) = some (r1, r2) := H; have A21 := Aside0.mk A210; clear A210; obtain ⟨ji22, hji22⟩ : ∃ j_ : Int, (mn 15 (wrap64 ((wrap64 (x7_1 + t122)) - 2))) = j_ := ⟨_, rfl⟩
      replace H : (spec_l91Melody.l0 k1 y119 t107 (mx 1 (ji22)) (wrap64 (x8_1 + 1)) s0_0 t123) = some (r1, r2) := by first | (rw [hji22] at H; exact H) | (simp only [hji22] at H ⊢; exact H)
      (try rw [hji22] at A10)
      (try rw [hji22] at A21)
      have hji22_ : (if (wrap64 ((wrap64 (x7_1 + t122)) - 2)) < 15 then (wrap64 ((wrap64 (x7_1 + t122)) - 2)) else 15) = ji22 := hji22; obtain ⟨ji23, hji23⟩ : ∃ j_ : Int, (mx 1 (ji22)) = j_ := ⟨_, rfl⟩
      replace H : (spec_l91Melody.l0 k1 y119 t107 ji23 (wrap64 (x8_1 + 1)) s0_0 t123) = some (r1, r2) := by first | (rw [hji23] at H; exact H) | (simp only [hji23] at H ⊢; exact H)
      (try rw [hji23] at A10)
      (try rw [hji23] at A21)
      have hji23_ : (if 1 < (ji22) then (ji22) else 1) = ji23 := hji23; have H' := Aside0.mk H; clear H; go_wp2_with (first | ((with_reducible refine gate_callee (f := 31) rfl ?_); refine goesL_ (some 25) rfl rfl Tryd.func31 (by kernel_rfl) rfl #[.int .i64 x7_1] rfl (by (try simp only [List.map_toArray, List.map_cons, List.map_nil]); first | done | rfl | (simp only [List.length_drop, List.length_take]; rfl)) ?_; (with_reducible refine (spec_l1Letter.calls x7_1 t111 _ A10.out).mono ?_); rintro e w' ⟨rfl, ⟨nd, rfl⟩⟩; refine ⟨_, rfl, ?_⟩) | ((with_reducible refine gate_builtin (b := .append) (xs := #[.tmp 22, .tmp 33]) rfl ?_); at_builtin; refine Kd.R_append k29 w.heap.size rfl (.tmp 22) (.tmp 33) 23 29 (.agg #[(.int .i64 0), (.bool false)]) 16 rfl Tryd.underlying23 info29 rfl (by decide) (by omega) u5 x5_1 (⟨x7_1, false⟩ : S29) [.int .i64 x7_1, .bool false] (fun _ => True) (fun _ => False) rfl rfl ?aP (fun _ hk => hk.elim) ?aF ?aO (Below.refl _ _) ?aS ?aL ?_; (case aP => exact k29_mkM _ _ _ (⟨x7_1, false⟩ : S29)); (case aF => exact (fun _ _ => trivial)); (case aO => exact (by (with_reducible repeat (first | apply Kd.R_alloc | apply Kd.R_drewN | apply Kd.R_drew)); exact HO_5.out)); (case aS => exact (keep_size (w := w) (g := g) (row := none) (by repeat (first | (with_reducible first | exact HK.out | apply KeepBut.set_ | apply keep_drewN | apply keep_drew | apply keep_alloc) | exact HK.out)))); (case aL => have := LMc20.out; omega); intro v120 w24 ho hb hg hat; rw [← Ny119.out] at ho; have n0_ := Aside0.mk (IsS68.grown (by repeat (first | (with_reducible first | exact HI0.out | apply IsS68.alloc | apply IsS68.drewN | apply IsS68.drew | apply IsS68.set_1) | exact HI0.out)) hg (IsS68.own_ne HI0.out HO_5.out (by decide))); have n1_ := Aside0.mk (below_weaken (by repeat (first | (with_reducible first | exact HB.out | apply below_alloc | apply pw_below_drewN | apply below_drew1 | refine below_set ?_ (IsS68.ge HI0.out)) | exact HB.out)) HL.out hb); have n2_ := Aside0.mk (KeepBut.trans (by repeat (first | (with_reducible first | exact HK.out | apply KeepBut.set_ | apply keep_drewN | apply keep_drew | apply keep_alloc) | exact HK.out)) (KeepBut.of_grown hg g) (Kd.R_base2 HO_5.out)); have n3_ := Aside0.mk (ho); clear HI0; clear HB; clear HK; clear HO_5; have HI0 := n0_; have HB := n1_; have HK := n2_; have HO121 := n3_; clear n0_ n1_ n2_ n3_; clear ho hb hg hat) | ((with_reducible refine gate_callee (f := 30) rfl ?_); refine goesL_ (some 37) rfl rfl Tryd.func30 (by kernel_rfl) rfl #[.pointer (some ⟨g, 0, none⟩), .int .i64 5] rfl (by (try simp only [List.map_toArray, List.map_cons, List.map_nil]); first | done | rfl | (simp only [List.length_drop, List.length_take]; rfl)) ?_; (with_reducible refine (spec_l6Rd_pick.calls k1 g s0_0 x1001_1 5 t122 t123 w0 _ ?side1 ?side2 A21.out).mono ?_); (case side1 => repeat (first | (with_reducible first | exact HI0.out | apply IsS68.alloc | apply IsS68.drewN | apply IsS68.drew | apply IsS68.set_1) | exact HI0.out)); (case side2 => repeat (first | (with_reducible first | exact HB.out | apply below_alloc | apply pw_below_drewN | apply below_drew1 | refine below_set ?_ (IsS68.ge HI0.out)) | exact HB.out)); rintro e w25 ⟨rfl, hi, hb, hk⟩; refine ⟨_, rfl, ?_⟩; have n0_ := Aside0.mk (Kd.R_mono (Kd.R_keep (IsS68.apart (show IsS68 w0 _ g s0_0 x1001_1 from by repeat (first | (with_reducible first | exact HI0.out | apply IsS68.alloc | apply IsS68.drewN | apply IsS68.drew | apply IsS68.set_1) | exact HI0.out)) (by (with_reducible repeat (first | apply Kd.R_alloc | apply Kd.R_drewN | apply Kd.R_drew)); exact HO121.out) (by decide)) hk (fun _ h => h.2)) (fun _ h => h.1)); have n1_ := Aside0.mk (KeepBut.trans (by repeat (first | (with_reducible first | exact HK.out | apply KeepBut.set_ | apply keep_drewN | apply keep_drew | apply keep_alloc) | exact HK.out)) hk (.inl rfl)); have n2_ := Aside0.mk (hb); have n3_ := Aside0.mk (hi); clear HO121; clear HK; clear HB; clear HI0; have HO121 := n0_; have HK := n1_; have HB := n2_; have HI0 := n3_; clear n0_ n1_ n2_ n3_; (try clear hb); (try clear hb2); (try clear hk); (try clear hi)))
      go_roundg k1
      case measure => have := HK1.out; omega
      case rel => exact ⟨(y119), (ji23), (wrap64 (x8_1 + 1)), (t123), (by first | rfl | (simp; done) | (simp only [← hji23] <;> (first | rfl | simp)) | (simp [*]; done)), (by first | rfl | (simp; done) | (simp [*]; done)), H', ⟨by have := HK1.out; omega⟩, ⟨by (with_reducible repeat (first | apply Kd.R_alloc | apply Kd.R_drewN | apply Kd.R_drew)); exact HO121.out⟩, ⟨by repeat (first | (with_reducible first | exact HI0.out | apply IsS68.alloc | apply IsS68.drewN | apply IsS68.drew | apply IsS68.set_1) | exact HI0.out)⟩, ⟨by repeat (first | (with_reducible first | exact HK.out | apply KeepBut.set_ | apply keep_drewN | apply keep_drew | apply keep_alloc) | exact HK.out)⟩, ⟨by repeat (first | (with_reducible first | exact HB.out | apply below_alloc | apply pw_below_drewN | apply below_drew1 | refine below_set ?_ (IsS68.ge HI0.out)) | exact HB.out)⟩⟩
     ·
      rw [if_neg c20] at H; exact absurd H (by simp)
   ·
    rw [if_neg c9] at H; have c9b0 : decide (x8_1 < t107) = false := decide_eq_false c9; clear c9; by_cases c26 : t107 > 0
    ·
     rw [if_pos c26] at H; have c26b0 : decide (0 < t107) = true := decide_eq_true c26; clear c26; replace H := Option.bind_eq_some_iff.mp H; obtain ⟨⟨t124, t125⟩, A270, H⟩ := H; replace H : (if t124 = 0 then ((some (([(-1), 21, 20] : List Int) : List Int)).bind fun y126 => ((spec_l6Rd_pick.f k1 s0_0 t125 3).bind fun bt129 => (if 0 ≤ bt129.1 then (if bt129.1 < (y126.length : Int) then (if 0 < (x5_1.length : Int) then (some ((x5_1.set (0 : Int).toNat (⟨rd y126 bt129.1, (rd_T29 x5_1 0).f1⟩ : S29)), bt129.2)) else (none)) else (none)) else (none)))) else (if t124 = 1 then (if 0 ≤ (wrap64 (t107 - 1)) then (if (wrap64 (t107 - 1)) < (x5_1.length : Int) then (some ((x5_1.set ((wrap64 (t107 - 1)) : Int).toNat (⟨(rd_T29 x5_1 (wrap64 (t107 - 1))).f0, true⟩ : S29)), t125)) else (none)) else (none)) else (some (x5_1, t125)))) = some (r1, r2) := H; have A27 := Aside0.mk A270; clear A270; by_cases c28 : t124 = 0
     ·
      rw [if_pos c28] at H; have c28b0 : (t124 == 0) = true := beq_iff_eq.mpr c28; have c28b1 : (t124 != 0) = false := bne_eq_false_iff_eq.mpr c28; clear c28; obtain ⟨y126, hy126⟩ : ∃ y_ : List Int, y_ = (([(-1), 21, 20] : List Int)) := ⟨_, rfl⟩
      replace H : ((spec_l6Rd_pick.f k1 s0_0 t125 3).bind fun bt129 => (if 0 ≤ bt129.1 then (if bt129.1 < (y126.length : Int) then (if 0 < (x5_1.length : Int) then (some ((x5_1.set (0 : Int).toNat (⟨rd y126 bt129.1, (rd_T29 x5_1 0).f1⟩ : S29)), bt129.2)) else (none)) else (none)) else (none))) = some (r1, r2) := by first | (rw [hy126]; with_reducible exact H) | (have H2_ := (Option.bind_some _ _).symm.trans H; rw [hy126]; with_reducible exact H2_) | (have H2_ := (Option.bind_some _ _).symm.trans H; with_reducible exact H2_) | with_reducible exact H | (rw [hy126]; exact H) | exact H
      have Ny126 := Aside0.mk hy126; clear hy126; replace H := Option.bind_eq_some_iff.mp H; obtain ⟨⟨t129, t130⟩, A290, H⟩ := H; replace H : (if 0 ≤ t129 then (if t129 < (y126.length : Int) then (if 0 < (x5_1.length : Int) then (some ((x5_1.set (0 : Int).toNat (⟨rd y126 t129, (rd_T29 x5_1 0).f1⟩ : S29)), t130)) else (none)) else (none)) else (none)) = some (r1, r2) := H; have A29 := Aside0.mk A290; clear A290; by_cases c30 : 0 ≤ t129
      ·
       rw [if_pos c30] at H; have c30b0 : decide (0 ≤ t129) = true := decide_eq_true c30; clear c30; by_cases c31 : t129 < (y126.length : Int)
       ·
        rw [if_pos c31] at H; have c31b0 : decide (t129 < (y126.length : Int)) = true := decide_eq_true c31; clear c31; by_cases c32 : 0 < (x5_1.length : Int)
        ·
         rw [if_pos c32] at H; have c32b0 : decide (0 < (x5_1.length : Int)) = true := decide_eq_true c32; have c32b1 : decide (0 < x5_1.length) = true := decide_eq_true (by omega); clear c32; obtain ⟨y132, hy132⟩ : ∃ y_ : List (S29), y_ = (x5_1.set (0 : Int).toNat (⟨rd y126 t129, (rd_T29 x5_1 0).f1⟩ : S29)) := ⟨_, rfl⟩
         replace H : (some (y132, t130)) = some (r1, r2) := by first | (rw [hy132]; with_reducible exact H) | (have H2_ := (Option.bind_some _ _).symm.trans H; rw [hy132]; with_reducible exact H2_) | (have H2_ := (Option.bind_some _ _).symm.trans H; with_reducible exact H2_) | with_reducible exact H | (rw [hy132]; exact H) | exact H
         have Ny132 := Aside0.mk hy132; clear hy132; simp only [Option.some.injEq, Prod.mk.injEq] at H; obtain ⟨rfl, rfl⟩ := H; go_wp2_with (first | ((with_reducible refine gate_callee (f := 30) rfl ?_); refine goesL_ (some 45) rfl rfl Tryd.func30 (by kernel_rfl) rfl #[.pointer (some ⟨g, 0, none⟩), .int .i64 50] rfl (by (try simp only [List.map_toArray, List.map_cons, List.map_nil]); first | done | rfl | (simp only [List.length_drop, List.length_take]; rfl)) ?_; (with_reducible refine (spec_l6Rd_pick.calls k1 g s0_0 x1001_1 50 t124 t125 w0 _ ?side1 ?side2 A27.out).mono ?_); (case side1 => repeat (first | (with_reducible first | exact HI0.out | apply IsS68.alloc | apply IsS68.drewN | apply IsS68.drew | apply IsS68.set_1) | exact HI0.out)); (case side2 => repeat (first | (with_reducible first | exact HB.out | apply below_alloc | apply pw_below_drewN | apply below_drew1 | refine below_set ?_ (IsS68.ge HI0.out)) | exact HB.out)); rintro e w34 ⟨rfl, hi, hb, hk⟩; refine ⟨_, rfl, ?_⟩; have n0_ := Aside0.mk (Kd.R_mono (Kd.R_keep (IsS68.apart (show IsS68 w0 _ g s0_0 x1001_1 from by repeat (first | (with_reducible first | exact HI0.out | apply IsS68.alloc | apply IsS68.drewN | apply IsS68.drew | apply IsS68.set_1) | exact HI0.out)) (by (with_reducible repeat (first | apply Kd.R_alloc | apply Kd.R_drewN | apply Kd.R_drew)); exact HO_5.out) (by decide)) hk (fun _ h => h.2)) (fun _ h => h.1)); have n1_ := Aside0.mk (KeepBut.trans (by repeat (first | (with_reducible first | exact HK.out | apply KeepBut.set_ | apply keep_drewN | apply keep_drew | apply keep_alloc) | exact HK.out)) hk (.inl rfl)); have n2_ := Aside0.mk (hb); have n3_ := Aside0.mk (hi); clear HO_5; clear HK; clear HB; clear HI0; have HO_5 := n0_; have HK := n1_; have HB := n2_; have HI0 := n3_; clear n0_ n1_ n2_ n3_; (try clear hb); (try clear hb2); (try clear hk); (try clear hi)) | ((with_reducible refine gate_dst (N := 49) rfl ?_); refine Kd.R_lit (Kd.int .i64) _ 3 ?hg (N := 49) ?hd (xs := ([(-1), 21, 20] : List Int)) (inner := [.int .i64 (-1), .int .i64 21, .int .i64 20]) (ok := fun _ => True) (okp := fun _ => True) ?hr ?hp (fun _ hk => hk) trivial (Below.refl _ _) (Nat.le_refl _) (by simp) ?_; (case hd => rfl); (case hg => rfl); (case hr => first | (go_simp; done) | (go_simp; rfl)); (case hp => exact (Reps.one (show Kd.M (Kd.int .i64) _ _ _ (-1) [.int .i64 (-1)] from rfl) (Reps.one (show Kd.M (Kd.int .i64) _ _ _ 21 [.int .i64 21] from rfl) (Reps.one (show Kd.M (Kd.int .i64) _ _ _ 20 [.int .i64 20] from rfl) (Reps.none _ _))))); intro v127 w35 ho36 hb hg_ hnew_; clear hg_ hnew_; (first | rw [← Ny126.out] at ho36 | (simp only [Int.reduceToNat] at ho36; rw [← Ny126.out] at ho36)); have n0_ := Aside0.mk (Kd.R_below (by (with_reducible repeat (first | apply Kd.R_alloc | apply Kd.R_drewN | apply Kd.R_drew)); exact HO_5.out) hb); have n1_ := Aside0.mk (Kd.R_lower ho36 (keep_size (w := w) (g := g) (row := none) (by repeat (first | (with_reducible first | exact HK.out | apply KeepBut.set_ | apply keep_drewN | apply keep_drew | apply keep_alloc) | exact HK.out)))); have n2_ := Aside0.mk (IsS68.below (by repeat (first | (with_reducible first | exact HI0.out | apply IsS68.alloc | apply IsS68.drewN | apply IsS68.drew | apply IsS68.set_1) | exact HI0.out)) hb); have n3_ := Aside0.mk (KeepBut.trans (by repeat (first | (with_reducible first | exact HK.out | apply KeepBut.set_ | apply keep_drewN | apply keep_drew | apply keep_alloc) | exact HK.out)) (KeepBut.of_below hb g none) (.inl rfl)); have n4_ := Aside0.mk (below_step (by repeat (first | (with_reducible first | exact HB.out | apply below_alloc | apply pw_below_drewN | apply below_drew1 | refine below_set ?_ (IsS68.ge HI0.out)) | exact HB.out)) hb); clear HO_5; clear HI0; clear HK; clear HB; have HO_5 := n0_; have HO128 := n1_; have HI0 := n2_; have HK := n3_; have HB := n4_; clear n0_ n1_ n2_ n3_ n4_; clear hb ho36) | ((with_reducible refine gate_callee (f := 30) rfl ?_); refine goesL_ (some 51) rfl rfl Tryd.func30 (by kernel_rfl) rfl #[.pointer (some ⟨g, 0, none⟩), .int .i64 3] rfl (by (try simp only [List.map_toArray, List.map_cons, List.map_nil]); first | done | rfl | (simp only [List.length_drop, List.length_take]; rfl)) ?_; (with_reducible refine (spec_l6Rd_pick.calls k1 g s0_0 t125 3 t129 t130 w0 _ ?side1 ?side2 A29.out).mono ?_); (case side1 => repeat (first | (with_reducible first | exact HI0.out | apply IsS68.alloc | apply IsS68.drewN | apply IsS68.drew | apply IsS68.set_1) | exact HI0.out)); (case side2 => repeat (first | (with_reducible first | exact HB.out | apply below_alloc | apply pw_below_drewN | apply below_drew1 | refine below_set ?_ (IsS68.ge HI0.out)) | exact HB.out)); rintro e w37 ⟨rfl, hi, hb, hk⟩; refine ⟨_, rfl, ?_⟩; have n0_ := Aside0.mk (Kd.R_mono (Kd.R_keep (IsS68.apart (show IsS68 w0 _ g s0_0 t125 from by repeat (first | (with_reducible first | exact HI0.out | apply IsS68.alloc | apply IsS68.drewN | apply IsS68.drew | apply IsS68.set_1) | exact HI0.out)) (by (with_reducible repeat (first | apply Kd.R_alloc | apply Kd.R_drewN | apply Kd.R_drew)); exact HO_5.out) (by decide)) hk (fun _ h => h.2)) (fun _ h => h.1)); have n1_ := Aside0.mk (Kd.R_mono (Kd.R_keep (IsS68.apart (show IsS68 w0 _ g s0_0 t125 from by repeat (first | (with_reducible first | exact HI0.out | apply IsS68.alloc | apply IsS68.drewN | apply IsS68.drew | apply IsS68.set_1) | exact HI0.out)) (by (with_reducible repeat (first | apply Kd.R_alloc | apply Kd.R_drewN | apply Kd.R_drew)); exact HO128.out) (by decide)) hk (fun _ h => h.2)) (fun _ h => h.1)); have n2_ := Aside0.mk (KeepBut.trans (by repeat (first | (with_reducible first | exact HK.out | apply KeepBut.set_ | apply keep_drewN | apply keep_drew | apply keep_alloc) | exact HK.out)) hk (.inl rfl)); have n3_ := Aside0.mk (hb); have n4_ := Aside0.mk (hi); clear HO_5; clear HO128; clear HK; clear HB; clear HI0; have HO_5 := n0_; have HO128 := n1_; have HK := n2_; have HB := n3_; have HI0 := n4_; clear n0_ n1_ n2_ n3_ n4_; (try clear hb); (try clear hb2); (try clear hk); (try clear hi); obtain ⟨Ao38, co38, eo38⟩ := Kd.R_slice HO128.out; subst eo38; have p131 : 0 ≤ (t129 : Int) := of_decide_eq_true (by first | (with_reducible assumption) | assumption); have q131 : t129 < (y126.length : Int) := of_decide_eq_true (by first | (with_reducible assumption) | assumption); obtain ⟨ad131, e131, hx131_0⟩ := Kd.at_int (Kd.R_reads' HO128.out).2.2 t129 p131 q131; cases e131; replace p131 := eq_true p131; replace q131 := eq_true q131; have p33 : 0 ≤ (0 : Int) := (by omega); have q33 : (0 : Int) < ((x5_1.length : Int) : Int) := of_decide_eq_true (by first | (with_reducible assumption) | assumption); have qi33 : (0 < x5_1.length) = True := eq_true (by omega); obtain ⟨go33, co33, eo33, gb33, gl33, cl33, HG33⟩ := Kd.R_form HO_5.out (by omega); (first | cases eo33 | (injection eo33 with ea_ en_ ec_; (first | subst ea_ | (injection ea_ with ea_; subst ea_)); subst ec_; clear en_)); have GB33 := Aside0.mk gb33; have GG33 := Aside0.mk HG33; clear gb33 gl33 HG33; obtain ⟨ce33, hcl33, hM33, hcc33, hfr33⟩ := Kd.R_elem HO_5.out z29 (0 : Int) p33 q33; obtain rfl := k29_openM hM33; have hx33_0 : w37.cell? ⟨go33, (0 : Int).toNat * 2, none⟩ = some (.int .i64 ((rd_T29 x5_1 0).f0)) := hcc33 0 _ rfl; have hx33_1 : w37.cell? ⟨go33, (0 : Int).toNat * 2 + 1, none⟩ = some (.bool ((rd_T29 x5_1 0).f1)) := hcc33 1 _ rfl; have hf33_0 : w37.frozen? ⟨go33, (0 : Int).toNat * 2, none⟩ = false := hfr33 0; have hf33_1 : w37.frozen? ⟨go33, (0 : Int).toNat * 2 + 1, none⟩ = false := hfr33 1; clear hcl33 hcc33 hfr33 hM33; (try rw [show ((0 : Int)).toNat = 0 from rfl] at hx33_0); (try simp only [Nat.reduceMul, Nat.zero_mul, Nat.zero_add, Nat.reduceAdd] at hx33_0); (try rw [show ((0 : Int)).toNat = 0 from rfl] at hf33_0); (try simp only [Nat.reduceMul, Nat.zero_mul, Nat.zero_add, Nat.reduceAdd] at hf33_0); (try rw [show ((0 : Int)).toNat = 0 from rfl] at hx33_1); (try simp only [Nat.reduceMul, Nat.zero_mul, Nat.zero_add, Nat.reduceAdd] at hx33_1); (try rw [show ((0 : Int)).toNat = 0 from rfl] at hf33_1); (try simp only [Nat.reduceMul, Nat.zero_mul, Nat.zero_add, Nat.reduceAdd] at hf33_1); replace p33 := eq_true p33; replace q33 := eq_true q33; have HX39 := Aside0.mk (show Kd.R k29 29 w37 w.heap.size (fun _ => True) (.slice (some ⟨go33, 0, none⟩) x5_1.length co33) x5_1 from (by (with_reducible repeat (first | apply Kd.R_alloc | apply Kd.R_drewN | apply Kd.R_drew)); exact HO_5.out)); obtain ⟨ce39, hcl39, hM39, hcc39, hfr39⟩ := Kd.R_elem HX39.out z29 (0 : Int) (by omega) (by have h_ : (0 : Int) < ((x5_1.length : Int) : Int) := of_decide_eq_true (by first | (with_reducible assumption) | assumption); first | exact h_ | (have e_ := (Kd.R_reads' HO_5.out).1; omega) | simpa using h_); obtain rfl := k29_openM hM39; have HP39 := Kd.R_seg HX39.out (0 : Int) (by omega) (by have h_ : (0 : Int) < ((x5_1.length : Int) : Int) := of_decide_eq_true (by first | (with_reducible assumption) | assumption); first | exact h_ | (have e_ := (Kd.R_reads' HO_5.out).1; omega) | simpa using h_) (seg := [.int .i64 (rd y126 t129)]) (j := 0) hcl39 hcc39 (show 1 ≤ 2 from by decide) (x' := (⟨rd y126 t129, (rd_T29 x5_1 0).f1⟩ : S29)) (k29_mkM _ _ _ (⟨rd y126 t129, (rd_T29 x5_1 0).f1⟩ : S29) ) (fun _ hk => hk); have hx39_0 := hcc39 0 _ rfl; (try simp only [show (k29).sz = 2 from rfl, Nat.mul_one, Nat.add_zero] at hx39_0); (try rw [show ((0 : Int)).toNat = 0 from rfl] at hx39_0); (try simp only [Nat.reduceMul, Nat.zero_mul, Nat.zero_add, Nat.reduceAdd] at hx39_0); have hf39_0 := hfr39 0; (try simp only [show (k29).sz = 2 from rfl, Nat.mul_one, Nat.add_zero] at hf39_0); (try rw [show ((0 : Int)).toNat = 0 from rfl] at hf39_0); (try simp only [Nat.reduceMul, Nat.zero_mul, Nat.zero_add, Nat.reduceAdd] at hf39_0); clear hcl39 hcc39 hfr39 hM39) | ((with_reducible refine gate_store (t := 3) (p := 55) rfl ?_); refine store_event (t := 3) (p := 55) (v := ?vo_w40) (w1 := (w37.setCell ⟨go33, 0, none⟩ (.int .i64 (rd y126 t129)))) ?hg ?ho ?hn ?hr ?_; (case ho => rfl); (case hg => rfl); (case hn => rfl); (case hr => first | (go_simp; done) | (go_simp; rfl)); intro w40 hw; have hg : w37.grownBy w40 (some go33) := (by rw [hw]; exact HP39.2); have hp_ : Kd.R k29 29 w40 w.heap.size (fun _ => True) (.slice (some ⟨go33, 0, none⟩) x5_1.length co33) y132 := (by rw [hw, Ny132.out]; exact HP39.1); clear HP39; have n0_ := Aside0.mk (hp_); have n1_ := Aside0.mk (IsS68.grown (by repeat (first | (with_reducible first | exact HI0.out | apply IsS68.alloc | apply IsS68.drewN | apply IsS68.drew | apply IsS68.set_1) | exact HI0.out)) hg (IsS68.own_ne HI0.out HO_5.out (by decide))); have n2_ := Aside0.mk (Kd.R_over' (v := (.slice (some ⟨go33, 0, none⟩) x5_1.length co33)) (by (with_reducible repeat (first | apply Kd.R_alloc | apply Kd.R_drewN | apply Kd.R_drew)); exact HO128.out) (Kd.R_typed HO_5.out) (by decide) hg); have n3_ := Aside0.mk ((by rw [hw]; exact below_set (HB.out) (Nat.le_trans HL.out GB33.out) : Below w0.heap.size w0 w40)); have n4_ := Aside0.mk (KeepBut.trans (by repeat (first | (with_reducible first | exact HK.out | apply KeepBut.set_ | apply keep_drewN | apply keep_drew | apply keep_alloc) | exact HK.out)) (KeepBut.of_grown hg g) (Kd.R_base2 HO_5.out)); clear HO_5; clear HI0; clear HO128; clear HB; clear HK; have HO_5 := n0_; have HI0 := n1_; have HO128 := n2_; have HB := n3_; have HK := n4_; clear n0_ n1_ n2_ n3_ n4_; clear hg hw hp_))
         go_ret
         exact ⟨_, by first | rfl | (simp [errW_none, errW_some] <;> rfl) | (simp [*, errW_none, errW_some] <;> rfl), by (with_reducible repeat (first | apply Kd.R_alloc | apply Kd.R_drewN | apply Kd.R_drew)); exact HO_5.out, by repeat (first | (with_reducible first | exact HI0.out | apply IsS68.alloc | apply IsS68.drewN | apply IsS68.drew | apply IsS68.set_1) | exact HI0.out), by repeat (first | (with_reducible first | exact HB.out | apply below_alloc | apply pw_below_drewN | apply below_drew1 | refine below_set ?_ (IsS68.ge HI0.out)) | exact HB.out), by repeat (first | (with_reducible first | exact HK.out | apply KeepBut.set_ | apply keep_drewN | apply keep_drew | apply keep_alloc) | exact HK.out)⟩
        ·
         rw [if_neg c32] at H; exact absurd H (by simp)
       ·
        rw [if_neg c31] at H; exact absurd H (by simp)
      ·
       rw [if_neg c30] at H; exact absurd H (by simp)
     ·
      rw [if_neg c28] at H; have c28b0 : (t124 == 0) = false := beq_eq_false_iff_ne.mpr c28; have c28b1 : (t124 != 0) = true := bne_iff_ne.mpr c28; by_cases c41 : t124 = 1
      ·
       rw [if_pos c41] at H; have c41b0 : (t124 == 1) = true := beq_iff_eq.mpr c41; have c41b1 : (t124 != 1) = false := bne_eq_false_iff_eq.mpr c41; clear c41; obtain ⟨ji42, hji42⟩ : ∃ j_ : Int, (wrap64 (t107 - 1)) = j_ := ⟨_, rfl⟩
       replace H : (if 0 ≤ (ji42) then (if (ji42) < (x5_1.length : Int) then (some ((x5_1.set ((ji42) : Int).toNat (⟨(rd_T29 x5_1 (ji42)).f0, true⟩ : S29)), t125)) else (none)) else (none)) = some (r1, r2) := by first | (rw [hji42] at H; exact H) | (simp only [hji42] at H ⊢; exact H)
       (try rw [hji42] at A27)
       have hji42w : (IntKind.i64.wrap (t107 - 1)) = ji42 := (i64_w _).trans hji42; by_cases c43 : 0 ≤ (ji42)
       ·
        rw [if_pos c43] at H; have c43b0 : decide (0 ≤ (ji42)) = true := decide_eq_true c43; clear c43; by_cases c44 : (ji42) < (x5_1.length : Int)
        ·
         rw [if_pos c44] at H; have c44b0 : decide ((ji42) < (x5_1.length : Int)) = true := decide_eq_true c44; clear c44; obtain ⟨y133, hy133⟩ : ∃ y_ : List (S29), y_ = (x5_1.set ((ji42) : Int).toNat (⟨(rd_T29 x5_1 (ji42)).f0, true⟩ : S29)) := ⟨_, rfl⟩
         replace H : (some (y133, t125)) = some (r1, r2) := by first | (rw [hy133]; with_reducible exact H) | (have H2_ := (Option.bind_some _ _).symm.trans H; rw [hy133]; with_reducible exact H2_) | (have H2_ := (Option.bind_some _ _).symm.trans H; with_reducible exact H2_) | with_reducible exact H | (rw [hy133]; exact H) | exact H
         have Ny133 := Aside0.mk hy133; clear hy133; simp only [Option.some.injEq, Prod.mk.injEq] at H; obtain ⟨rfl, rfl⟩ := H; go_wp2_with (first | ((with_reducible refine gate_callee (f := 30) rfl ?_); refine goesL_ (some 45) rfl rfl Tryd.func30 (by kernel_rfl) rfl #[.pointer (some ⟨g, 0, none⟩), .int .i64 50] rfl (by (try simp only [List.map_toArray, List.map_cons, List.map_nil]); first | done | rfl | (simp only [List.length_drop, List.length_take]; rfl)) ?_; (with_reducible refine (spec_l6Rd_pick.calls k1 g s0_0 x1001_1 50 t124 t125 w0 _ ?side1 ?side2 A27.out).mono ?_); (case side1 => repeat (first | (with_reducible first | exact HI0.out | apply IsS68.alloc | apply IsS68.drewN | apply IsS68.drew | apply IsS68.set_1) | exact HI0.out)); (case side2 => repeat (first | (with_reducible first | exact HB.out | apply below_alloc | apply pw_below_drewN | apply below_drew1 | refine below_set ?_ (IsS68.ge HI0.out)) | exact HB.out)); rintro e w46 ⟨rfl, hi, hb, hk⟩; refine ⟨_, rfl, ?_⟩; have n0_ := Aside0.mk (Kd.R_mono (Kd.R_keep (IsS68.apart (show IsS68 w0 _ g s0_0 x1001_1 from by repeat (first | (with_reducible first | exact HI0.out | apply IsS68.alloc | apply IsS68.drewN | apply IsS68.drew | apply IsS68.set_1) | exact HI0.out)) (by (with_reducible repeat (first | apply Kd.R_alloc | apply Kd.R_drewN | apply Kd.R_drew)); exact HO_5.out) (by decide)) hk (fun _ h => h.2)) (fun _ h => h.1)); have n1_ := Aside0.mk (KeepBut.trans (by repeat (first | (with_reducible first | exact HK.out | apply KeepBut.set_ | apply keep_drewN | apply keep_drew | apply keep_alloc) | exact HK.out)) hk (.inl rfl)); have n2_ := Aside0.mk (hb); have n3_ := Aside0.mk (hi); clear HO_5; clear HK; clear HB; clear HI0; have HO_5 := n0_; have HK := n1_; have HB := n2_; have HI0 := n3_; clear n0_ n1_ n2_ n3_; (try clear hb); (try clear hb2); (try clear hk); (try clear hi); have p45 : 0 ≤ ((ji42) : Int) := of_decide_eq_true (by first | (with_reducible assumption) | assumption); have q45 : ((ji42) : Int) < ((x5_1.length : Int) : Int) := of_decide_eq_true (by first | (with_reducible assumption) | assumption); obtain ⟨go45, co45, eo45, gb45, gl45, cl45, HG45⟩ := Kd.R_form HO_5.out (by omega); (first | cases eo45 | (injection eo45 with ea_ en_ ec_; (first | subst ea_ | (injection ea_ with ea_; subst ea_)); subst ec_; clear en_)); have GB45 := Aside0.mk gb45; have GG45 := Aside0.mk HG45; clear gb45 gl45 HG45; obtain ⟨ce45, hcl45, hM45, hcc45, hfr45⟩ := Kd.R_elem HO_5.out z29 ((ji42) : Int) p45 q45; obtain rfl := k29_openM hM45; have hx45_0 : w46.cell? ⟨go45, ((ji42) : Int).toNat * 2, none⟩ = some (.int .i64 ((rd_T29 x5_1 (ji42)).f0)) := hcc45 0 _ rfl; have hx45_1 : w46.cell? ⟨go45, ((ji42) : Int).toNat * 2 + 1, none⟩ = some (.bool ((rd_T29 x5_1 (ji42)).f1)) := hcc45 1 _ rfl; have hf45_0 : w46.frozen? ⟨go45, ((ji42) : Int).toNat * 2, none⟩ = false := hfr45 0; have hf45_1 : w46.frozen? ⟨go45, ((ji42) : Int).toNat * 2 + 1, none⟩ = false := hfr45 1; clear hcl45 hcc45 hfr45 hM45; replace p45 := eq_true p45; replace q45 := eq_true q45; have HX47 := Aside0.mk (show Kd.R k29 29 w46 w.heap.size (fun _ => True) (.slice (some ⟨go45, 0, none⟩) x5_1.length co45) x5_1 from (by (with_reducible repeat (first | apply Kd.R_alloc | apply Kd.R_drewN | apply Kd.R_drew)); exact HO_5.out)); obtain ⟨ce47, hcl47, hM47, hcc47, hfr47⟩ := Kd.R_elem HX47.out z29 ((ji42) : Int) (of_decide_eq_true (by first | (with_reducible assumption) | assumption)) (by have h_ : ((ji42) : Int) < ((x5_1.length : Int) : Int) := of_decide_eq_true (by first | (with_reducible assumption) | assumption); first | exact h_ | (have e_ := (Kd.R_reads' HO_5.out).1; omega) | simpa using h_); obtain rfl := k29_openM hM47; have HP47 := Kd.R_seg HX47.out ((ji42) : Int) (of_decide_eq_true (by first | (with_reducible assumption) | assumption)) (by have h_ : ((ji42) : Int) < ((x5_1.length : Int) : Int) := of_decide_eq_true (by first | (with_reducible assumption) | assumption); first | exact h_ | (have e_ := (Kd.R_reads' HO_5.out).1; omega) | simpa using h_) (seg := [.bool true]) (j := 1) hcl47 hcc47 (show 2 ≤ 2 from by decide) (x' := (⟨(rd_T29 x5_1 (ji42)).f0, true⟩ : S29)) (k29_mkM _ _ _ (⟨(rd_T29 x5_1 (ji42)).f0, true⟩ : S29) ) (fun _ hk => hk); have hx47_1 := hcc47 1 _ rfl; (try simp only [show (k29).sz = 2 from rfl, Nat.mul_one, Nat.add_zero] at hx47_1); have hf47_1 := hfr47 1; (try simp only [show (k29).sz = 2 from rfl, Nat.mul_one, Nat.add_zero] at hf47_1); clear hcl47 hcc47 hfr47 hM47) | ((with_reducible refine gate_store (t := 4) (p := 62) rfl ?_); refine store_event (t := 4) (p := 62) (v := ?vo_w48) (w1 := (w46.setCell ⟨go45, ((ji42) : Int).toNat * 2 + 1, none⟩ (.bool true))) ?hg ?ho ?hn ?hr ?_; (case ho => rfl); (case hg => rfl); (case hn => rfl); (case hr => first | (go_simp; done) | (go_simp; rfl)); intro w48 hw; have hg : w46.grownBy w48 (some go45) := (by rw [hw]; exact HP47.2); have hp_ : Kd.R k29 29 w48 w.heap.size (fun _ => True) (.slice (some ⟨go45, 0, none⟩) x5_1.length co45) y133 := (by rw [hw, Ny133.out]; exact HP47.1); clear HP47; have n0_ := Aside0.mk (hp_); have n1_ := Aside0.mk (IsS68.grown (by repeat (first | (with_reducible first | exact HI0.out | apply IsS68.alloc | apply IsS68.drewN | apply IsS68.drew | apply IsS68.set_1) | exact HI0.out)) hg (IsS68.own_ne HI0.out HO_5.out (by decide))); have n2_ := Aside0.mk ((by rw [hw]; exact below_set (HB.out) (Nat.le_trans HL.out GB45.out) : Below w0.heap.size w0 w48)); have n3_ := Aside0.mk (KeepBut.trans (by repeat (first | (with_reducible first | exact HK.out | apply KeepBut.set_ | apply keep_drewN | apply keep_drew | apply keep_alloc) | exact HK.out)) (KeepBut.of_grown hg g) (Kd.R_base2 HO_5.out)); clear HO_5; clear HI0; clear HB; clear HK; have HO_5 := n0_; have HI0 := n1_; have HB := n2_; have HK := n3_; clear n0_ n1_ n2_ n3_; clear hg hw hp_))
         go_ret
         exact ⟨_, by first | rfl | (simp [errW_none, errW_some] <;> rfl) | (simp only [← hji42]; first | rfl | (simp [errW_none, errW_some] <;> rfl)) | (simp [*, errW_none, errW_some] <;> rfl), by (with_reducible repeat (first | apply Kd.R_alloc | apply Kd.R_drewN | apply Kd.R_drew)); exact HO_5.out, by repeat (first | (with_reducible first | exact HI0.out | apply IsS68.alloc | apply IsS68.drewN | apply IsS68.drew | apply IsS68.set_1) | exact HI0.out), by repeat (first | (with_reducible first | exact HB.out | apply below_alloc | apply pw_below_drewN | apply below_drew1 | refine below_set ?_ (IsS68.ge HI0.out)) | exact HB.out), by repeat (first | (with_reducible first | exact HK.out | apply KeepBut.set_ | apply keep_drewN | apply keep_drew | apply keep_alloc) | exact HK.out)⟩
        ·
         rw [if_neg c44] at H; exact absurd H (by simp)
       ·
        rw [if_neg c43] at H; exact absurd H (by simp)
      ·
       rw [if_neg c41] at H; have c41b0 : (t124 == 1) = false := beq_eq_false_iff_ne.mpr c41; have c41b1 : (t124 != 1) = true := bne_iff_ne.mpr c41; simp only [Option.some.injEq, Prod.mk.injEq] at H; obtain ⟨rfl, rfl⟩ := H; go_wp2_with (first | ((with_reducible refine gate_callee (f := 30) rfl ?_); refine goesL_ (some 45) rfl rfl Tryd.func30 (by kernel_rfl) rfl #[.pointer (some ⟨g, 0, none⟩), .int .i64 50] rfl (by (try simp only [List.map_toArray, List.map_cons, List.map_nil]); first | done | rfl | (simp only [List.length_drop, List.length_take]; rfl)) ?_; (with_reducible refine (spec_l6Rd_pick.calls k1 g s0_0 x1001_1 50 t124 t125 w0 _ ?side1 ?side2 A27.out).mono ?_); (case side1 => repeat (first | (with_reducible first | exact HI0.out | apply IsS68.alloc | apply IsS68.drewN | apply IsS68.drew | apply IsS68.set_1) | exact HI0.out)); (case side2 => repeat (first | (with_reducible first | exact HB.out | apply below_alloc | apply pw_below_drewN | apply below_drew1 | refine below_set ?_ (IsS68.ge HI0.out)) | exact HB.out)); rintro e w49 ⟨rfl, hi, hb, hk⟩; refine ⟨_, rfl, ?_⟩; have n0_ := Aside0.mk (Kd.R_mono (Kd.R_keep (IsS68.apart (show IsS68 w0 _ g s0_0 x1001_1 from by repeat (first | (with_reducible first | exact HI0.out | apply IsS68.alloc | apply IsS68.drewN | apply IsS68.drew | apply IsS68.set_1) | exact HI0.out)) (by (with_reducible repeat (first | apply Kd.R_alloc | apply Kd.R_drewN | apply Kd.R_drew)); exact HO_5.out) (by decide)) hk (fun _ h => h.2)) (fun _ h => h.1)); have n1_ := Aside0.mk (KeepBut.trans (by repeat (first | (with_reducible first | exact HK.out | apply KeepBut.set_ | apply keep_drewN | apply keep_drew | apply keep_alloc) | exact HK.out)) hk (.inl rfl)); have n2_ := Aside0.mk (hb); have n3_ := Aside0.mk (hi); clear HO_5; clear HK; clear HB; clear HI0; have HO_5 := n0_; have HK := n1_; have HB := n2_; have HI0 := n3_; clear n0_ n1_ n2_ n3_; (try clear hb); (try clear hb2); (try clear hk); (try clear hi)))
       go_ret
       exact ⟨_, by first | rfl | (simp [errW_none, errW_some] <;> rfl) | (simp [*, errW_none, errW_some] <;> rfl), by (with_reducible repeat (first | apply Kd.R_alloc | apply Kd.R_drewN | apply Kd.R_drew)); exact HO_5.out, by repeat (first | (with_reducible first | exact HI0.out | apply IsS68.alloc | apply IsS68.drewN | apply IsS68.drew | apply IsS68.set_1) | exact HI0.out), by repeat (first | (with_reducible first | exact HB.out | apply below_alloc | apply pw_below_drewN | apply below_drew1 | refine below_set ?_ (IsS68.ge HI0.out)) | exact HB.out), by repeat (first | (with_reducible first | exact HK.out | apply KeepBut.set_ | apply keep_drewN | apply keep_drew | apply keep_alloc) | exact HK.out)⟩
    ·
     rw [if_neg c26] at H; have c26b0 : decide (0 < t107) = false := decide_eq_false c26; clear c26; simp only [Option.some.injEq, Prod.mk.injEq] at H; obtain ⟨rfl, rfl⟩ := H; go_wp2; go_ret
     exact ⟨_, by first | rfl | (simp [errW_none, errW_some] <;> rfl) | (simp [*, errW_none, errW_some] <;> rfl), by (with_reducible repeat (first | apply Kd.R_alloc | apply Kd.R_drewN | apply Kd.R_drew)); exact HO_5.out, by repeat (first | (with_reducible first | exact HI0.out | apply IsS68.alloc | apply IsS68.drewN | apply IsS68.drew | apply IsS68.set_1) | exact HI0.out), by repeat (first | (with_reducible first | exact HB.out | apply below_alloc | apply pw_below_drewN | apply below_drew1 | refine below_set ?_ (IsS68.ge HI0.out)) | exact HB.out), by repeat (first | (with_reducible first | exact HK.out | apply KeepBut.set_ | apply keep_drewN | apply keep_drew | apply keep_alloc) | exact HK.out)⟩

end Go.Proofs.YtiagfjbngpbejaaDoor.PFnSingMany
namespace Go.Proofs.YtiagfjbngpbejaaDoor.PFnSingMany
open Go.RowKit Go.Proofs.YtiagfjbngpbejaaDoorW.PrintWords Go.Proofs.YtiagfjbngpbejaaDoorW.PrintLast Go.Proofs.YtiagfjbngpbejaaDoorW.PrintMore
attribute [local go_sem] max2_int min2_int max_two min_two max_three min_three max_four min_four   -- for this text's walks alone
set_option linter.unusedVariables false
set_option linter.unusedSimpArgs false

def spec_l6Open.f (l0 : List Int) : Option (List Int × Int) := if (l0.length : Int) > 2000 then (if 2000 ≤ (l0.length : Int) then (some (l0.take 2000, 0)) else (none)) else (some (l0, 0))
set_option maxHeartbeats 8000000 in
set_option maxRecDepth 100000 in
theorem spec_l6Open.calls (A0 : Option Addr) (c0 : Nat) (l0 : List Int) (r1 : List Int) (r2 : Int) (w0 w : World) (hB : Below w0.heap.size w0 w) (hr0 : Kd.C (Kd.int .u8) w0 A0 l0.length l0) (hc0 : l0.length ≤ c0) (h : spec_l6Open.f l0 = some (r1, r2)) :
 Calls Tryd.prog 19 #[.slice A0 l0.length c0] w fun e w' => ∃ g_ : Nat, e = .returned (.pointer (some ⟨g_, 0, none⟩)) ∧ IsS68 w0 w' g_ r1 r2 ∧ Below w0.heap.size w0 w' ∧ Below w.heap.size w w' := by
 have hu68 := Tryd.underlying68; have HR0 := Aside0.mk hr0; have HC0 := Aside0.mk hc0; clear hr0 hc0; have HBW := Aside0.mk (Below.refl w.heap.size w); have HW0 := Aside0.mk hB.size; have HB := Aside0.mk hB; clear hB; have H : (if (l0.length : Int) > 2000 then (if 2000 ≤ (l0.length : Int) then (some (l0.take 2000, 0)) else (none)) else (some (l0, 0))) = some (r1, r2) := h; clear h; by_cases c2 : (l0.length : Int) > 2000
 ·
  rw [if_pos c2] at H; have c2b0 : decide (2000 < (l0.length : Int)) = true := decide_eq_true c2; have c2b1 : decide (2000 < l0.length) = true := decide_eq_true (by omega); clear c2; by_cases c3 : 2000 ≤ (l0.length : Int)
  ·
   rw [if_pos c3] at H; have c3b0 := eq_true c3; have c3b1 : decide (2000 ≤ (l0.length : Int)) = true := decide_eq_true c3; clear c3; simp only [Option.some.injEq, Prod.mk.injEq] at H; obtain ⟨rfl, rfl⟩ := H; obtain ⟨i04, hi04, _, hsz4, _⟩ := info_parts info5; obtain ⟨hcut4, hA4, hC4⟩ := print_take_of (P := Tryd.prog) (Value.int .u8) 0 22 5 .i64 Tryd.underlying22 hi04 hsz4 A0 c0 l0 2000 (by omega) (of_decide_eq_true (by first | (with_reducible assumption) | assumption)) HC0.out; have HR134 := Aside0.mk (Kd.C_of_reads (h1 := fun _ => rfl) (hA4 _ (Kd.reads_of_C HR0.out))); have HC134 := Aside0.mk hC4; clear hA4 hC4 hi04 hsz4; go_enter Tryd.func19, Tryd.ntmps19
   go_wp2_with (first | ((with_reducible refine gate_dst (N := 10) rfl ?_); refine box_event ?hg (N := 10) ?hd (cs := #[.slice A0 (l0.take 2000).length c0, .int .i64 0]) (t := 68) ?hr ?_; (case hd => rfl); (case hg => rfl); (case hr => first | (go_simp; done) | (go_simp; rfl)); intro gb135 hg w5 hbox hb; have n0_ := Aside0.mk (below_step HBW.out hb); have n1_ := Aside0.mk (below_step (by repeat (first | (with_reducible first | exact HB.out | apply below_alloc | apply pw_below_drewN | apply below_drew1) | exact HB.out)) hb); have n2_ := Aside0.mk (hbox); have n3_ := Aside0.mk ((by rw [hg]; exact (below_size (by repeat (first | (with_reducible first | exact HBW.out | apply below_alloc | apply pw_below_drewN | apply below_drew1) | exact HBW.out))) : w.heap.size ≤ gb135)); have n4_ := Aside0.mk ((Nat.le_trans HW0.out (by rw [hg]; exact (below_size (by repeat (first | (with_reducible first | exact HBW.out | apply below_alloc | apply pw_below_drewN | apply below_drew1) | exact HBW.out))) : w.heap.size ≤ gb135) : w0.heap.size ≤ gb135)); clear HBW; clear HB; have HBW := n0_; have HB := n1_; have BK135 := n2_; have GW135 := n3_; have GE135 := n4_; clear n0_ n1_ n2_ n3_ n4_; clear hb hbox hg))
   go_ret
   exact ⟨_, rfl, (show IsS68 w0 _ gb135 (l0.take 2000) 0 from ⟨_, _, by (with_reducible repeat (first | refine blk_drewN ?_ _ | refine blk_drew ?_ | refine blk_alloc ?_ _)); exact BK135.out, GE135.out, HR134.out⟩), by repeat (first | (with_reducible first | exact HB.out | apply below_alloc | apply pw_below_drewN | apply below_drew1 | refine below_set ?_ GE135.out) | exact HB.out), by repeat (first | (with_reducible first | exact HBW.out | apply below_alloc | apply pw_below_drewN | apply below_drew1 | refine below_set ?_ GW135.out) | exact HBW.out)⟩
  ·
   rw [if_neg c3] at H; exact absurd H (by simp)
 ·
  rw [if_neg c2] at H; have c2b0 : decide (2000 < (l0.length : Int)) = false := decide_eq_false c2; have c2b1 : decide (2000 < l0.length) = false := decide_eq_false (by omega); clear c2; simp only [Option.some.injEq, Prod.mk.injEq] at H; obtain ⟨rfl, rfl⟩ := H; go_enter Tryd.func19, Tryd.ntmps19
  go_wp2_with (first | ((with_reducible refine gate_dst (N := 10) rfl ?_); refine box_event ?hg (N := 10) ?hd (cs := #[.slice A0 l0.length c0, .int .i64 0]) (t := 68) ?hr ?_; (case hd => rfl); (case hg => rfl); (case hr => first | (go_simp; done) | (go_simp; rfl)); intro gb136 hg w6 hbox hb; have n0_ := Aside0.mk (below_step HBW.out hb); have n1_ := Aside0.mk (below_step (by repeat (first | (with_reducible first | exact HB.out | apply below_alloc | apply pw_below_drewN | apply below_drew1) | exact HB.out)) hb); have n2_ := Aside0.mk (hbox); have n3_ := Aside0.mk ((by rw [hg]; exact (below_size (by repeat (first | (with_reducible first | exact HBW.out | apply below_alloc | apply pw_below_drewN | apply below_drew1) | exact HBW.out))) : w.heap.size ≤ gb136)); have n4_ := Aside0.mk ((Nat.le_trans HW0.out (by rw [hg]; exact (below_size (by repeat (first | (with_reducible first | exact HBW.out | apply below_alloc | apply pw_below_drewN | apply below_drew1) | exact HBW.out))) : w.heap.size ≤ gb136) : w0.heap.size ≤ gb136)); clear HBW; clear HB; have HBW := n0_; have HB := n1_; have BK136 := n2_; have GW136 := n3_; have GE136 := n4_; clear n0_ n1_ n2_ n3_ n4_; clear hb hbox hg))
  go_ret
  exact ⟨_, rfl, (show IsS68 w0 _ gb136 l0 0 from ⟨_, _, by (with_reducible repeat (first | refine blk_drewN ?_ _ | refine blk_drew ?_ | refine blk_alloc ?_ _)); exact BK136.out, GE136.out, HR0.out⟩), by repeat (first | (with_reducible first | exact HB.out | apply below_alloc | apply pw_below_drewN | apply below_drew1 | refine below_set ?_ GE136.out) | exact HB.out), by repeat (first | (with_reducible first | exact HBW.out | apply below_alloc | apply pw_below_drewN | apply below_drew1 | refine below_set ?_ GW136.out) | exact HBW.out)⟩

end Go.Proofs.YtiagfjbngpbejaaDoor.PFnSingMany
namespace Go.Proofs.YtiagfjbngpbejaaDoor.PFnSingMany
open Go.RowKit Go.Proofs.YtiagfjbngpbejaaDoorW.PrintWords Go.Proofs.YtiagfjbngpbejaaDoorW.PrintLast Go.Proofs.YtiagfjbngpbejaaDoorW.PrintMore
attribute [local go_sem] max2_int min2_int max_two min_two max_three min_three max_four min_four   -- for this text's walks alone
set_option linter.unusedVariables false
set_option linter.unusedSimpArgs false

def spec_DrawSingMany.f (k : Nat) (l0 : List Int) : Option ((List (S29))) := (spec_l6Open.f l0).bind fun bt137 => ((spec_l91Melody.f k bt137.1 bt137.2 10).bind fun bt140 => (some bt140.1))
set_option maxHeartbeats 8000000 in
set_option maxRecDepth 100000 in
theorem spec_DrawSingMany.calls (k : Nat) (A0 : Option Addr) (c0 : Nat) (l0 : List Int) (r : List (S29)) (w : World) (hr0 : Kd.C (Kd.int .u8) w A0 l0.length l0) (hc0 : l0.length ≤ c0) (h : spec_DrawSingMany.f k l0 = some r) :
 Calls Tryd.prog 5 #[.slice A0 l0.length c0] w fun e w' => ∃ v0_ : Value, e = .returned (v0_) ∧ Kd.R k29 29 w' w.heap.size (fun _ => True) v0_ r ∧ Below w.heap.size w w' := by
 have HR0 := Aside0.mk hr0; have HC0 := Aside0.mk hc0; clear hr0 hc0; have HB := Aside0.mk (Below.refl w.heap.size w); have H : ((spec_l6Open.f l0).bind fun bt137 => ((spec_l91Melody.f k bt137.1 bt137.2 10).bind fun bt140 => (some bt140.1))) = some r := h; clear h; replace H := Option.bind_eq_some_iff.mp H; obtain ⟨⟨t137, t138⟩, A20, H⟩ := H; replace H : ((spec_l91Melody.f k t137 t138 10).bind fun bt140 => (some bt140.1)) = some r := H; have A2 := Aside0.mk A20; clear A20; replace H := Option.bind_eq_some_iff.mp H; obtain ⟨⟨t140, t143⟩, A30, H⟩ := H; replace H : (some t140) = some r := H; have A3 := Aside0.mk A30; clear A30; obtain rfl := Option.some.inj H; go_enter Tryd.func5, Tryd.ntmps5
 go_wp2_with (first | ((with_reducible refine gate_callee (f := 19) rfl ?_); refine goesL_ (some 4) rfl rfl Tryd.func19 (by kernel_rfl) rfl #[.slice A0 l0.length c0] rfl (by (try simp only [List.map_toArray, List.map_cons, List.map_nil]); first | done | rfl | (simp only [List.length_drop, List.length_take]; rfl)) ?_; (with_reducible refine (spec_l6Open.calls _ _ l0 t137 t138 w _ ?side1 ?side2 ?side3 A2.out).mono ?_); (case side1 => repeat (first | (with_reducible first | exact HB.out | apply below_alloc | apply pw_below_drewN | apply below_drew1) | exact HB.out)); (case side2 => exact HR0.out); (case side3 => exact HC0.out); rintro e w4 ⟨g139, rfl, hi, hb, hb2⟩; refine ⟨_, rfl, ?_⟩; have n0_ := Aside0.mk (hb); have n1_ := Aside0.mk (hi); clear HB; have HB := n0_; have HI139 := n1_; clear n0_ n1_; (try clear hb); (try clear hb2); (try clear hk); (try clear hi)) | ((with_reducible refine gate_callee (f := 18) rfl ?_); refine goesL_ (some 5) rfl rfl Tryd.func18 (by kernel_rfl) rfl #[.pointer (some ⟨g139, 0, none⟩), .int .i64 10] rfl (by (try simp only [List.map_toArray, List.map_cons, List.map_nil]); first | done | rfl | (simp only [List.length_drop, List.length_take]; rfl)) ?_; (with_reducible refine (spec_l91Melody.calls k g139 t137 t138 10 t140 t143 w _ ?side1 ?side2 A3.out).mono ?_); (case side1 => repeat (first | (with_reducible first | exact HI139.out | apply IsS68.alloc | apply IsS68.drewN | apply IsS68.drew | apply IsS68.set_1) | exact HI139.out)); (case side2 => repeat (first | (with_reducible first | exact HB.out | apply below_alloc | apply pw_below_drewN | apply below_drew1 | refine below_set ?_ (IsS68.ge HI139.out)) | exact HB.out)); rintro e w5 ⟨v141, rfl, ho0, hi, hb, hk⟩; refine ⟨_, rfl, ?_⟩; have n0_ := Aside0.mk (Kd.R_lower ho0 (below_size (by repeat (first | (with_reducible first | exact HB.out | apply below_alloc | apply pw_below_drewN | apply below_drew1 | refine below_set ?_ (IsS68.ge HI139.out)) | exact HB.out)))); have n1_ := Aside0.mk (hb); have n2_ := Aside0.mk (hi); clear HB; clear HI139; have HO142 := n0_; have HB := n1_; have HI139 := n2_; clear n0_ n1_ n2_; (try clear hb); (try clear hb2); (try clear hk); (try clear hi); (try clear ho0)))
 go_ret
 exact ⟨_, by first | rfl | (simp [errW_none, errW_some] <;> rfl) | (simp [*, errW_none, errW_some] <;> rfl), by (with_reducible repeat (first | apply Kd.R_alloc | apply Kd.R_drewN | apply Kd.R_drew)); exact HO142.out, by repeat (first | (with_reducible first | exact HB.out | apply below_alloc | apply pw_below_drewN | apply below_drew1 | refine below_set ?_ (IsS68.ge HI139.out)) | exact HB.out)⟩

end Go.Proofs.YtiagfjbngpbejaaDoor.PFnSingMany
namespace Go.Proofs.YtiagfjbngpbejaaDoor.PFnSingMany
open Go.RowKit Go.Proofs.YtiagfjbngpbejaaDoorW.PrintWords Go.Proofs.YtiagfjbngpbejaaDoorW.PrintLast Go.Proofs.YtiagfjbngpbejaaDoorW.PrintMore
attribute [local go_sem] max2_int min2_int max_two min_two max_three min_three max_four min_four   -- for this text's walks alone
set_option linter.unusedVariables false
set_option linter.unusedSimpArgs false

def impl_Tone_valid.f (a0_0 : Int) (a0_1 : Bool) : Option (Bool) := if a0_0 ≥ 0 then (if a0_0 ≤ 20 then (if a0_1 = true then (some ((Int.tmod a0_0 7) == 2)) else (some true)) else (some false)) else (some false)
set_option maxHeartbeats 8000000 in
set_option maxRecDepth 100000 in
theorem impl_Tone_valid.calls (a0_0 : Int) (a0_1 : Bool) (r : Bool) (w : World) (h : impl_Tone_valid.f a0_0 a0_1 = some r) :
 Calls Tryd.prog 32 #[.agg #[.int .i64 a0_0, .bool a0_1]] w fun e w' => e = .returned (.bool r) ∧ Below w.heap.size w w' := by
 have hu29 := Tryd.underlying29; have HB := Aside0.mk (Below.refl w.heap.size w); have H : (if a0_0 ≥ 0 then (if a0_0 ≤ 20 then (if a0_1 = true then (some ((Int.tmod a0_0 7) == 2)) else (some true)) else (some false)) else (some false)) = some r := h; clear h; by_cases c2 : a0_0 ≥ 0
 ·
  rw [if_pos c2] at H; have c2b0 : decide (0 ≤ a0_0) = true := decide_eq_true c2; clear c2; by_cases c3 : a0_0 ≤ 20
  ·
   rw [if_pos c3] at H; have c3b0 : decide (a0_0 ≤ 20) = true := decide_eq_true c3; clear c3; by_cases c4 : a0_1 = true
   ·
    subst c4; have H1 : (some ((Int.tmod a0_0 7) == 2)) = some r := by rw [if_pos rfl] at H; exact H
    clear H; have H := H1; clear H1; obtain rfl := Option.some.inj H; go_enter Tryd.func32, Tryd.ntmps32
    go_wp2_with (first | ((with_reducible refine gate_dst (N := 1) rfl ?_); refine box_event ?hg (N := 1) ?hd (cs := #[.int .i64 a0_0, .bool true]) (t := 29) ?hr ?_; (case hd => rfl); (case hg => rfl); (case hr => first | (go_simp; done) | (go_simp; rfl)); intro gb150 hg w5 hbox hb; have n0_ := Aside0.mk (below_step (by repeat (first | (with_reducible first | exact HB.out | apply below_alloc | apply pw_below_drewN | apply below_drew1) | exact HB.out)) hb); have n1_ := Aside0.mk (hbox); have n2_ := Aside0.mk ((by rw [hg]; exact (below_size (by repeat (first | (with_reducible first | exact HB.out | apply below_alloc | apply pw_below_drewN | apply below_drew1) | exact HB.out))) : w.heap.size ≤ gb150)); have n3_ := Aside0.mk ((by rw [hg]; exact (below_size (by repeat (first | (with_reducible first | exact HB.out | apply below_alloc | apply pw_below_drewN | apply below_drew1) | exact HB.out))) : w.heap.size ≤ gb150)); clear HB; have HB := n0_; have BK150 := n1_; have GW150 := n2_; have GE150 := n3_; clear n0_ n1_ n2_ n3_; clear hb hbox hg; have hcz6_0 : w5.cell? ⟨gb150, 0, none⟩ = some (.int .i64 a0_0) := (blk_cell BK150.out 0).trans rfl; have hcz6_1 : w5.cell? ⟨gb150, 1, none⟩ = some (.bool true) := (blk_cell BK150.out 1).trans rfl; have hfz6_0 := blk_frozen BK150.out 0; have hfz6_1 := blk_frozen BK150.out 1))
    go_ret
    exact ⟨by first | rfl | (simp [errW_none, errW_some] <;> rfl) | (simp [*, errW_none, errW_some] <;> rfl), by repeat (first | (with_reducible first | exact HB.out | apply below_alloc | apply pw_below_drewN | apply below_drew1 | refine below_set ?_ GE150.out) | exact HB.out)⟩
   ·
    replace c4 := Bool.eq_false_iff.mpr c4; subst c4; have H1 : (some true) = some r := by rw [if_neg (show ¬ (false = true) by decide)] at H; exact H
    clear H; have H := H1; clear H1; obtain rfl := Option.some.inj H; go_enter Tryd.func32, Tryd.ntmps32
    go_wp2_with (first | ((with_reducible refine gate_dst (N := 1) rfl ?_); refine box_event ?hg (N := 1) ?hd (cs := #[.int .i64 a0_0, .bool false]) (t := 29) ?hr ?_; (case hd => rfl); (case hg => rfl); (case hr => first | (go_simp; done) | (go_simp; rfl)); intro gb150 hg w7 hbox hb; have n0_ := Aside0.mk (below_step (by repeat (first | (with_reducible first | exact HB.out | apply below_alloc | apply pw_below_drewN | apply below_drew1) | exact HB.out)) hb); have n1_ := Aside0.mk (hbox); have n2_ := Aside0.mk ((by rw [hg]; exact (below_size (by repeat (first | (with_reducible first | exact HB.out | apply below_alloc | apply pw_below_drewN | apply below_drew1) | exact HB.out))) : w.heap.size ≤ gb150)); have n3_ := Aside0.mk ((by rw [hg]; exact (below_size (by repeat (first | (with_reducible first | exact HB.out | apply below_alloc | apply pw_below_drewN | apply below_drew1) | exact HB.out))) : w.heap.size ≤ gb150)); clear HB; have HB := n0_; have BK150 := n1_; have GW150 := n2_; have GE150 := n3_; clear n0_ n1_ n2_ n3_; clear hb hbox hg; have hcz8_0 : w7.cell? ⟨gb150, 0, none⟩ = some (.int .i64 a0_0) := (blk_cell BK150.out 0).trans rfl; have hcz8_1 : w7.cell? ⟨gb150, 1, none⟩ = some (.bool false) := (blk_cell BK150.out 1).trans rfl; have hfz8_0 := blk_frozen BK150.out 0; have hfz8_1 := blk_frozen BK150.out 1))
    go_ret
    exact ⟨by first | rfl | (simp [errW_none, errW_some] <;> rfl) | (simp [*, errW_none, errW_some] <;> rfl), by repeat (first | (with_reducible first | exact HB.out | apply below_alloc | apply pw_below_drewN | apply below_drew1 | refine below_set ?_ GE150.out) | exact HB.out)⟩
  ·
   rw [if_neg c3] at H; have c3b0 : decide (a0_0 ≤ 20) = false := decide_eq_false c3; clear c3; obtain rfl := Option.some.inj H; go_enter Tryd.func32, Tryd.ntmps32
   go_wp2_with (first | ((with_reducible refine gate_dst (N := 1) rfl ?_); refine box_event ?hg (N := 1) ?hd (cs := #[.int .i64 a0_0, .bool a0_1]) (t := 29) ?hr ?_; (case hd => rfl); (case hg => rfl); (case hr => first | (go_simp; done) | (go_simp; rfl)); intro gb150 hg w9 hbox hb; have n0_ := Aside0.mk (below_step (by repeat (first | (with_reducible first | exact HB.out | apply below_alloc | apply pw_below_drewN | apply below_drew1) | exact HB.out)) hb); have n1_ := Aside0.mk (hbox); have n2_ := Aside0.mk ((by rw [hg]; exact (below_size (by repeat (first | (with_reducible first | exact HB.out | apply below_alloc | apply pw_below_drewN | apply below_drew1) | exact HB.out))) : w.heap.size ≤ gb150)); have n3_ := Aside0.mk ((by rw [hg]; exact (below_size (by repeat (first | (with_reducible first | exact HB.out | apply below_alloc | apply pw_below_drewN | apply below_drew1) | exact HB.out))) : w.heap.size ≤ gb150)); clear HB; have HB := n0_; have BK150 := n1_; have GW150 := n2_; have GE150 := n3_; clear n0_ n1_ n2_ n3_; clear hb hbox hg; have hcz10_0 : w9.cell? ⟨gb150, 0, none⟩ = some (.int .i64 a0_0) := (blk_cell BK150.out 0).trans rfl; have hcz10_1 : w9.cell? ⟨gb150, 1, none⟩ = some (.bool a0_1) := (blk_cell BK150.out 1).trans rfl; have hfz10_0 := blk_frozen BK150.out 0; have hfz10_1 := blk_frozen BK150.out 1))
   go_ret
   exact ⟨by first | rfl | (simp [errW_none, errW_some] <;> rfl) | (simp [*, errW_none, errW_some] <;> rfl), by repeat (first | (with_reducible first | exact HB.out | apply below_alloc | apply pw_below_drewN | apply below_drew1 | refine below_set ?_ GE150.out) | exact HB.out)⟩
 ·
  rw [if_neg c2] at H; have c2b0 : decide (0 ≤ a0_0) = false := decide_eq_false c2; clear c2; obtain rfl := Option.some.inj H; go_enter Tryd.func32, Tryd.ntmps32
  go_wp2_with (first | ((with_reducible refine gate_dst (N := 1) rfl ?_); refine box_event ?hg (N := 1) ?hd (cs := #[.int .i64 a0_0, .bool a0_1]) (t := 29) ?hr ?_; (case hd => rfl); (case hg => rfl); (case hr => first | (go_simp; done) | (go_simp; rfl)); intro gb150 hg w11 hbox hb; have n0_ := Aside0.mk (below_step (by repeat (first | (with_reducible first | exact HB.out | apply below_alloc | apply pw_below_drewN | apply below_drew1) | exact HB.out)) hb); have n1_ := Aside0.mk (hbox); have n2_ := Aside0.mk ((by rw [hg]; exact (below_size (by repeat (first | (with_reducible first | exact HB.out | apply below_alloc | apply pw_below_drewN | apply below_drew1) | exact HB.out))) : w.heap.size ≤ gb150)); have n3_ := Aside0.mk ((by rw [hg]; exact (below_size (by repeat (first | (with_reducible first | exact HB.out | apply below_alloc | apply pw_below_drewN | apply below_drew1) | exact HB.out))) : w.heap.size ≤ gb150)); clear HB; have HB := n0_; have BK150 := n1_; have GW150 := n2_; have GE150 := n3_; clear n0_ n1_ n2_ n3_; clear hb hbox hg; have hcz12_0 : w11.cell? ⟨gb150, 0, none⟩ = some (.int .i64 a0_0) := (blk_cell BK150.out 0).trans rfl; have hcz12_1 : w11.cell? ⟨gb150, 1, none⟩ = some (.bool a0_1) := (blk_cell BK150.out 1).trans rfl; have hfz12_0 := blk_frozen BK150.out 0; have hfz12_1 := blk_frozen BK150.out 1))
  go_ret
  exact ⟨by first | rfl | (simp [errW_none, errW_some] <;> rfl) | (simp [*, errW_none, errW_some] <;> rfl), by repeat (first | (with_reducible first | exact HB.out | apply below_alloc | apply pw_below_drewN | apply below_drew1 | refine below_set ?_ GE150.out) | exact HB.out)⟩

end Go.Proofs.YtiagfjbngpbejaaDoor.PFnSingMany
namespace Go.Proofs.YtiagfjbngpbejaaDoor.PFnSingMany
open Go.RowKit Go.Proofs.YtiagfjbngpbejaaDoorW.PrintWords Go.Proofs.YtiagfjbngpbejaaDoorW.PrintLast Go.Proofs.YtiagfjbngpbejaaDoorW.PrintMore
attribute [local go_sem] max2_int min2_int max_two min_two max_three min_three max_four min_four   -- for this text's walks alone
set_option linter.unusedVariables false
set_option linter.unusedSimpArgs false

def impl_MelodyValid.l0 : Nat → List (S29) → Int → Int → Option (Bool)
 | 0, _, _, _ => none
 | k + 1, x8, x9, x10 => if x10 < x9 then (if 0 ≤ x10 then (if x10 < (x8.length : Int) then ((impl_Tone_valid.f ((rd_T29 x8 x10).f0) ((rd_T29 x8 x10).f1)).bind fun t153 => (if t153 = true then (impl_MelodyValid.l0 k x8 x9 (wrap64 (x10 + 1))) else (some false))) else (none)) else (none)) else (some true)
def impl_MelodyValid.f (k : Nat) (l0 : List (S29)) : Option (Bool) := if (l0.length : Int) > 24 then (some false) else (impl_MelodyValid.l0 k l0 (l0.length : Int) 0)
set_option maxHeartbeats 8000000 in
set_option maxRecDepth 100000 in
theorem impl_MelodyValid.calls (k : Nat) (A0 : Option Addr) (c0 : Nat) (l0 : List (S29)) (r : Bool) (w : World) (hr0 : Kd.C k29 w A0 l0.length l0) (hc0 : l0.length ≤ c0) (h : impl_MelodyValid.f k l0 = some r) :
 Calls Tryd.prog 20 #[.slice A0 l0.length c0] w fun e w' => e = .returned (.bool r) ∧ Below w.heap.size w w' := by
 have hu29 := Tryd.underlying29; have HR0 := Aside0.mk hr0; have HC0 := Aside0.mk hc0; clear hr0 hc0; have HB := Aside0.mk (Below.refl w.heap.size w); have H : (if (l0.length : Int) > 24 then (some false) else (impl_MelodyValid.l0 k l0 (l0.length : Int) 0)) = some r := h; clear h; by_cases c2 : (l0.length : Int) > 24
 ·
  rw [if_pos c2] at H; have c2b0 : decide (24 < (l0.length : Int)) = true := decide_eq_true c2; have c2b1 : decide (24 < l0.length) = true := decide_eq_true (by omega); clear c2; obtain rfl := Option.some.inj H; go_enter Tryd.func20, Tryd.ntmps20
  go_wp2; go_ret
  exact ⟨by first | rfl | (simp [errW_none, errW_some] <;> rfl) | (simp [*, errW_none, errW_some] <;> rfl), by repeat (first | (with_reducible first | exact HB.out | apply below_alloc | apply pw_below_drewN | apply below_drew1) | exact HB.out)⟩
 ·
  rw [if_neg c2] at H; have c2b0 : decide (24 < (l0.length : Int)) = false := decide_eq_false c2; have c2b1 : decide (24 < l0.length) = false := decide_eq_false (by omega); clear c2; have H' := Aside0.mk H; clear H; go_enter Tryd.func20, Tryd.ntmps20
  go_wp2; go_loopg [10] k (fun kq v10 w' => ∃ (x10_1 : Int), v10 = .int .i64 x10_1 ∧ Aside0 (impl_MelodyValid.l0 kq l0 (l0.length : Int) x10_1 = some r) ∧ Aside0 (kq ≤ k) ∧ Aside0 (Below w.heap.size w w'))
  case atStart => exact ⟨(0), (by first | rfl | (simp; done) | (simp [*]; done)), H', ⟨Nat.le_refl _⟩, ⟨by repeat (first | (with_reducible first | exact HB.out | apply below_alloc | apply pw_below_drewN | apply below_drew1) | exact HB.out)⟩⟩
  case round =>
   clear H'; try clear c2
   try clear c2b0
   try clear c2b1
   try clear p2
   obtain ⟨x10_1, rfl, HA, HK1, HB⟩ := hrel; cases gk with
   | zero => exact absurd HA.out (by simp [impl_MelodyValid.l0])
   | succ k1 =>
    have H := HA.out; clear HA; simp only [impl_MelodyValid.l0] at H; by_cases c3 : x10_1 < (l0.length : Int)
    ·
     rw [if_pos c3] at H; have c3b0 : decide (x10_1 < (l0.length : Int)) = true := decide_eq_true c3; clear c3; by_cases c4 : 0 ≤ x10_1
     ·
      rw [if_pos c4] at H; have c4b0 : decide (0 ≤ x10_1) = true := decide_eq_true c4; clear c4; by_cases c5 : x10_1 < (l0.length : Int)
      ·
       rw [if_pos c5] at H; have c5b0 : decide (x10_1 < (l0.length : Int)) = true := decide_eq_true c5; clear c5; replace H := Option.bind_eq_some_iff.mp H; obtain ⟨t153, A60, H⟩ := H; replace H : (if t153 = true then (impl_MelodyValid.l0 k1 l0 (l0.length : Int) (wrap64 (x10_1 + 1))) else (some false)) = some r := H; have A6 := Aside0.mk A60; clear A60; by_cases c7 : t153 = true
       ·
        subst c7; have H1 : (impl_MelodyValid.l0 k1 l0 (l0.length : Int) (wrap64 (x10_1 + 1))) = some r := by rw [if_pos rfl] at H; exact H
        clear H; have H := H1; clear H1; have H' := Aside0.mk H; clear H; have p151 : 0 ≤ (x10_1 : Int) := of_decide_eq_true (by first | (with_reducible assumption) | assumption); have q151 : x10_1 < (l0.length : Int) := of_decide_eq_true (by first | (with_reducible assumption) | assumption); obtain ⟨ad151, e151, hx151_0, hx151_1⟩ := at_T29 HR0.out x10_1 p151 q151; cases e151; replace hx151_0 := (HB.out.cell (World.block_lt_of_cell? w _ hx151_0)).trans hx151_0; replace hx151_1 := (HB.out.cell (World.block_lt_of_cell? w _ hx151_1)).trans hx151_1; replace p151 := eq_true p151; replace q151 := eq_true q151; go_wp2_with (first | ((with_reducible refine gate_dst (N := 4) rfl ?_); refine box_event ?hg (N := 4) ?hd (cs := #[.int .i64 0, .bool false]) (t := 29) ?hr ?_; (case hd => rfl); (case hg => rfl); (case hr => first | (go_simp; done) | (go_simp; rfl)); intro gb152 hg w8 hbox hb; have n0_ := Aside0.mk (below_step (by repeat (first | (with_reducible first | exact HB.out | apply below_alloc | apply pw_below_drewN | apply below_drew1) | exact HB.out)) hb); have n1_ := Aside0.mk (hbox); have n2_ := Aside0.mk ((by rw [hg]; exact (below_size (by repeat (first | (with_reducible first | exact HB.out | apply below_alloc | apply pw_below_drewN | apply below_drew1) | exact HB.out))) : w.heap.size ≤ gb152)); have n3_ := Aside0.mk ((by rw [hg]; exact (below_size (by repeat (first | (with_reducible first | exact HB.out | apply below_alloc | apply pw_below_drewN | apply below_drew1) | exact HB.out))) : w.heap.size ≤ gb152)); clear HB; have HB := n0_; have BK152 := n1_; have GW152 := n2_; have GE152 := n3_; clear n0_ n1_ n2_ n3_; clear hb hbox hg; have hcz9_0 : w8.cell? ⟨gb152, 0, none⟩ = some (.int .i64 0) := (blk_cell BK152.out 0).trans rfl; have hcz9_1 : w8.cell? ⟨gb152, 1, none⟩ = some (.bool false) := (blk_cell BK152.out 1).trans rfl; have hfz9_0 := blk_frozen BK152.out 0; have hfz9_1 := blk_frozen BK152.out 1) | ((with_reducible refine gate_callee (f := 32) rfl ?_); refine goesL_ (some 15) rfl rfl Tryd.func32 (by kernel_rfl) rfl #[.agg #[.int .i64 ((rd_T29 l0 x10_1).f0), .bool ((rd_T29 l0 x10_1).f1)]] rfl (by (try simp only [List.map_toArray, List.map_cons, List.map_nil]); first | done | rfl | (simp only [List.length_drop, List.length_take]; rfl)) ?_; (with_reducible refine (impl_Tone_valid.calls ((rd_T29 l0 x10_1).f0) ((rd_T29 l0 x10_1).f1) true _ A6.out).mono ?_); rintro e w10 ⟨rfl, hb⟩; refine ⟨_, rfl, ?_⟩; have n0_ := Aside0.mk (blk_below (g := gb152) (o := .cells #[.int .i64 ((rd_T29 l0 x10_1).f0), .bool ((rd_T29 l0 x10_1).f1)] 29 (0, 0)) (by (with_reducible repeat (first | refine blk_drewN ?_ _ | refine blk_drew ?_ | refine blk_alloc ?_ _)); refine blk_put (cs := #[.int .i64 ((rd_T29 l0 x10_1).f0), .bool false]) ?_ 1 _ rfl; (with_reducible repeat (first | refine blk_drewN ?_ _ | refine blk_drew ?_ | refine blk_alloc ?_ _)); refine blk_put (cs := #[.int .i64 0, .bool false]) ?_ 0 _ rfl; (with_reducible repeat (first | refine blk_drewN ?_ _ | refine blk_drew ?_ | refine blk_alloc ?_ _)); exact BK152.out) hb); have n1_ := Aside0.mk (below_step (by repeat (first | (with_reducible first | exact HB.out | apply below_alloc | apply pw_below_drewN | apply below_drew1 | refine below_set ?_ GE152.out) | exact HB.out)) hb); clear BK152; clear HB; have BK152 := n0_; have HB := n1_; clear n0_ n1_; (try clear hb); (try clear hb2); (try clear hk); (try clear hi)))
        go_roundg k1
        case measure => have := HK1.out; omega
        case rel => exact ⟨(wrap64 (x10_1 + 1)), (by first | rfl | (simp; done) | (simp [*]; done)), H', ⟨by have := HK1.out; omega⟩, ⟨by repeat (first | (with_reducible first | exact HB.out | apply below_alloc | apply pw_below_drewN | apply below_drew1 | refine below_set ?_ GE152.out) | exact HB.out)⟩⟩
       ·
        replace c7 := Bool.eq_false_iff.mpr c7; subst c7; have H1 : (some false) = some r := by rw [if_neg (show ¬ (false = true) by decide)] at H; exact H
        clear H; have H := H1; clear H1; obtain rfl := Option.some.inj H; have p151 : 0 ≤ (x10_1 : Int) := of_decide_eq_true (by first | (with_reducible assumption) | assumption); have q151 : x10_1 < (l0.length : Int) := of_decide_eq_true (by first | (with_reducible assumption) | assumption); obtain ⟨ad151, e151, hx151_0, hx151_1⟩ := at_T29 HR0.out x10_1 p151 q151; cases e151; replace hx151_0 := (HB.out.cell (World.block_lt_of_cell? w _ hx151_0)).trans hx151_0; replace hx151_1 := (HB.out.cell (World.block_lt_of_cell? w _ hx151_1)).trans hx151_1; replace p151 := eq_true p151; replace q151 := eq_true q151; go_wp2_with (first | ((with_reducible refine gate_dst (N := 4) rfl ?_); refine box_event ?hg (N := 4) ?hd (cs := #[.int .i64 0, .bool false]) (t := 29) ?hr ?_; (case hd => rfl); (case hg => rfl); (case hr => first | (go_simp; done) | (go_simp; rfl)); intro gb152 hg w11 hbox hb; have n0_ := Aside0.mk (below_step (by repeat (first | (with_reducible first | exact HB.out | apply below_alloc | apply pw_below_drewN | apply below_drew1) | exact HB.out)) hb); have n1_ := Aside0.mk (hbox); have n2_ := Aside0.mk ((by rw [hg]; exact (below_size (by repeat (first | (with_reducible first | exact HB.out | apply below_alloc | apply pw_below_drewN | apply below_drew1) | exact HB.out))) : w.heap.size ≤ gb152)); have n3_ := Aside0.mk ((by rw [hg]; exact (below_size (by repeat (first | (with_reducible first | exact HB.out | apply below_alloc | apply pw_below_drewN | apply below_drew1) | exact HB.out))) : w.heap.size ≤ gb152)); clear HB; have HB := n0_; have BK152 := n1_; have GW152 := n2_; have GE152 := n3_; clear n0_ n1_ n2_ n3_; clear hb hbox hg; have hcz12_0 : w11.cell? ⟨gb152, 0, none⟩ = some (.int .i64 0) := (blk_cell BK152.out 0).trans rfl; have hcz12_1 : w11.cell? ⟨gb152, 1, none⟩ = some (.bool false) := (blk_cell BK152.out 1).trans rfl; have hfz12_0 := blk_frozen BK152.out 0; have hfz12_1 := blk_frozen BK152.out 1) | ((with_reducible refine gate_callee (f := 32) rfl ?_); refine goesL_ (some 15) rfl rfl Tryd.func32 (by kernel_rfl) rfl #[.agg #[.int .i64 ((rd_T29 l0 x10_1).f0), .bool ((rd_T29 l0 x10_1).f1)]] rfl (by (try simp only [List.map_toArray, List.map_cons, List.map_nil]); first | done | rfl | (simp only [List.length_drop, List.length_take]; rfl)) ?_; (with_reducible refine (impl_Tone_valid.calls ((rd_T29 l0 x10_1).f0) ((rd_T29 l0 x10_1).f1) false _ A6.out).mono ?_); rintro e w13 ⟨rfl, hb⟩; refine ⟨_, rfl, ?_⟩; have n0_ := Aside0.mk (blk_below (g := gb152) (o := .cells #[.int .i64 ((rd_T29 l0 x10_1).f0), .bool ((rd_T29 l0 x10_1).f1)] 29 (0, 0)) (by (with_reducible repeat (first | refine blk_drewN ?_ _ | refine blk_drew ?_ | refine blk_alloc ?_ _)); refine blk_put (cs := #[.int .i64 ((rd_T29 l0 x10_1).f0), .bool false]) ?_ 1 _ rfl; (with_reducible repeat (first | refine blk_drewN ?_ _ | refine blk_drew ?_ | refine blk_alloc ?_ _)); refine blk_put (cs := #[.int .i64 0, .bool false]) ?_ 0 _ rfl; (with_reducible repeat (first | refine blk_drewN ?_ _ | refine blk_drew ?_ | refine blk_alloc ?_ _)); exact BK152.out) hb); have n1_ := Aside0.mk (below_step (by repeat (first | (with_reducible first | exact HB.out | apply below_alloc | apply pw_below_drewN | apply below_drew1 | refine below_set ?_ GE152.out) | exact HB.out)) hb); clear BK152; clear HB; have BK152 := n0_; have HB := n1_; clear n0_ n1_; (try clear hb); (try clear hb2); (try clear hk); (try clear hi)))
        go_ret
        exact ⟨by first | rfl | (simp [errW_none, errW_some] <;> rfl) | (simp [*, errW_none, errW_some] <;> rfl), by repeat (first | (with_reducible first | exact HB.out | apply below_alloc | apply pw_below_drewN | apply below_drew1 | refine below_set ?_ GE152.out) | exact HB.out)⟩
      ·
       rw [if_neg c5] at H; exact absurd H (by simp)
     ·
      rw [if_neg c4] at H; exact absurd H (by simp)
    ·
     rw [if_neg c3] at H; have c3b0 : decide (x10_1 < (l0.length : Int)) = false := decide_eq_false c3; clear c3; obtain rfl := Option.some.inj H; go_wp2; go_ret
     exact ⟨by first | rfl | (simp [errW_none, errW_some] <;> rfl) | (simp [*, errW_none, errW_some] <;> rfl), by repeat (first | (with_reducible first | exact HB.out | apply below_alloc | apply pw_below_drewN | apply below_drew1) | exact HB.out)⟩

end Go.Proofs.YtiagfjbngpbejaaDoor.PFnSingMany
namespace Go.Proofs.YtiagfjbngpbejaaDoor.Pure
set_option linter.unusedVariables false
set_option linter.unusedSimpArgs false
open Go Go.RowKit Go.Proofs.YtiagfjbngpbejaaDoor.PFnSingMany Go.Proofs.YtiagfjbngpbejaaDoorW.PrintWords Go.Proofs.YtiagfjbngpbejaaDoorW.PrintLast Go.Proofs.YtiagfjbngpbejaaDoorW.PrintMore

theorem Ev.succ {α : Type} {g : Nat → Option α} {r : α} (h : Ev (fun k => g (k + 1)) r) : Ev g r := Ev.step (fun _ => rfl) h
theorem Ev.pos {α : Type} {c : Prop} [Decidable c] {f g : Nat → Option α} {r : α} (hc : c) (h : Ev f r) : Ev (fun k => if c then f k else g k) r := by
 simp only [if_pos hc]; exact h
theorem Ev.neg {α : Type} {c : Prop} [Decidable c] {f g : Nat → Option α} {r : α} (hc : ¬ c) (h : Ev g r) : Ev (fun k => if c then f k else g k) r := by
 simp only [if_neg hc]; exact h
theorem Ev.conb {α β : Type} {x : Option α} {a : α} {f : Nat → α → Option β} {r : β} (hx : x = some a) (h : Ev (fun n => f n a) r) : Ev (fun n => x.bind (f n)) r := by subst hx; exact h
theorem Ev.eqr {α : Type} {g : Nat → Option α} {r r' : α} (h : Ev g r) (e : r = r') : Ev g r' := e ▸ h
/-- A loop over the places of a list, from the front. -/
theorem Ev.over {α ρ σ : Type} (d : α) (xs : List α) (L : Nat → σ → Int → Option ρ) (F : σ → List α → ρ) (I : Nat → σ → Prop)
 (hend : ∀ s, I xs.length s → Ev (fun k => L k s (xs.length : Int)) (F s []))
 (hstep : ∀ s (i : Nat) rest, I i s → i < xs.length → xs.drop i = xs.getD i d :: rest → (∀ s', I (i + 1) s' → Ev (fun k => L k s' ((i : Int) + 1)) (F s' rest)) → Ev (fun k => L k s (i : Int)) (F s (xs.getD i d :: rest))) :
 ∀ (i : Nat) (s : σ), i ≤ xs.length → I i s → Ev (fun k => L k s (i : Int)) (F s (xs.drop i)) := by
 intro i s hi hI
 obtain ⟨n, hn⟩ : ∃ n, n = xs.length - i := ⟨_, rfl⟩
 induction n generalizing i s with
 | zero =>
  have e : i = xs.length := by omega
  subst e
  rw [List.drop_length]
  exact hend s hI
 | succ n ih =>
  have hlt : i < xs.length := by omega
  have e : xs.drop i = xs.getD i d :: xs.drop (i + 1) := by
   rw [List.drop_eq_getElem_cons hlt, List.getD_eq_getElem?_getD, List.getElem?_eq_getElem hlt]; rfl
  rw [e]
  refine hstep s i _ hI hlt e (fun s' hs' => ?_)
  have := ih (i + 1) s' (by omega) hs' (by omega)
  simpa using this
theorem w64 {x : Int} (h : -9223372036854775808 ≤ x) (h' : x ≤ 9223372036854775807) : wrap64 x = x := by unfold wrap64; omega
theorem xor_bd (x y : Int) (hx : 0 ≤ x) (hx' : x < 4611686018427387904) (hy : 0 ≤ y) (hy' : y < 4611686018427387904) : 0 ≤ Go.bits .xor .i64 x y := by
 obtain ⟨a, rfl⟩ := Int.eq_ofNat_of_zero_le hx
 obtain ⟨b, rfl⟩ := Int.eq_ofNat_of_zero_le hy
 have ha : a < 2 ^ 62 := by omega
 have hb : b < 2 ^ 62 := by omega
 have hc : a ^^^ b < 2 ^ 62 := Nat.xor_lt_two_pow ha hb
 have ha' : a % 2 ^ IntKind.i64.bits = a := Nat.mod_eq_of_lt (Nat.lt_of_lt_of_le ha (by decide))
 have hb' : b % 2 ^ IntKind.i64.bits = b := Nat.mod_eq_of_lt (Nat.lt_of_lt_of_le hb (by decide))
 have e : Go.bits .xor .i64 (a : Int) (b : Int) = ((a ^^^ b : Nat) : Int) := by
  simp only [Go.bits, BitVec.ofInt_natCast, BitVec.toNat_xor, BitVec.toNat_ofNat, ha', hb']
  rw [Go.IntKind.wrap_i64]; omega
 rw [e]; omega
theorem mx_le (a b : Int) : a ≤ mx a b ∧ b ≤ mx a b ∧ (mx a b = a ∨ mx a b = b) := by unfold mx; split <;> omega
theorem mn_le (a b : Int) : mn a b ≤ a ∧ mn a b ≤ b ∧ (mn a b = a ∨ mn a b = b) := by unfold mn; split <;> omega
/-- From some number of rounds on there is an answer, and it is such a one. -/
def Evx {α : Type} (g : Nat → Option α) (P : α → Prop) : Prop := ∃ r, Ev g r ∧ P r
theorem Evx.now {α : Type} {P : α → Prop} {r : α} (h : P r) : Evx (fun _ => some r) P := ⟨r, Ev.now r, h⟩
theorem Evx.mono {α : Type} {g : Nat → Option α} {P Q : α → Prop} (h : Evx g P) (hPQ : ∀ r, P r → Q r) : Evx g Q := by
 obtain ⟨r, h, hP⟩ := h; exact ⟨r, h, hPQ r hP⟩
theorem Evx.bind {α β : Type} {g : Nat → Option α} {f : Nat → α → Option β} {P : α → Prop} {Q : β → Prop} (h : Evx g P) (k : ∀ a, P a → Evx (fun n => f n a) Q) : Evx (fun n => (g n).bind (f n)) Q := by
 obtain ⟨a, h, hP⟩ := h
 obtain ⟨r, h', hQ⟩ := k a hP
 exact ⟨r, Ev.bind h h', hQ⟩
theorem Evx.succ {α : Type} {g : Nat → Option α} {P : α → Prop} (h : Evx (fun k => g (k + 1)) P) : Evx g P := by
 obtain ⟨r, h, hP⟩ := h; exact ⟨r, Ev.succ h, hP⟩
theorem Evx.pos {α : Type} {c : Prop} [Decidable c] {f g : Nat → Option α} {P : α → Prop} (hc : c) (h : Evx f P) : Evx (fun k => if c then f k else g k) P := by
 simp only [if_pos hc]; exact h
theorem Evx.neg {α : Type} {c : Prop} [Decidable c] {f g : Nat → Option α} {P : α → Prop} (hc : ¬ c) (h : Evx g P) : Evx (fun k => if c then f k else g k) P := by
 simp only [if_neg hc]; exact h
theorem Evx.ite {α : Type} {c : Prop} [Decidable c] {f g : Nat → Option α} {P : α → Prop} (h : c → Evx f P) (h' : ¬ c → Evx g P) : Evx (fun k => if c then f k else g k) P := by
 by_cases hc : c
 ·
  exact Evx.pos hc (h hc)
 ·
  exact Evx.neg hc (h' hc)
theorem Evx.someb {α β : Type} {a : α} {f : Nat → α → Option β} {P : β → Prop} (h : Evx (fun n => f n a) P) : Evx (fun n => (some a).bind (f n)) P := h
theorem Evx.conb {α β : Type} {x : Option α} {a : α} {f : Nat → α → Option β} {P : β → Prop} (hx : x = some a) (h : Evx (fun n => f n a) P) : Evx (fun n => x.bind (f n)) P := by subst hx; exact h
theorem rd_bd {s : List Int} (hs : ∀ x ∈ s, 0 ≤ x ∧ x ≤ 255) (i : Int) : 0 ≤ rd s i ∧ rd s i ≤ 255 := by
 unfold rd
 rw [List.getD_eq_getElem?_getD]
 cases h : s[i.toNat]? with
 | none => simp
 | some v => exact hs v (List.mem_of_getElem? h)
theorem mem_set_of {α : Type} {P : α → Prop} {l : List α} (h : ∀ x ∈ l, P x) (i : Nat) (v : α) (hv : P v) : ∀ x ∈ l.set i v, P x := by
 intro x hx
 rcases List.mem_or_eq_of_mem_set hx with hx | hx
 ·
  exact h x hx
 ·
  exact hx ▸ hv

def toneOk (t : S29) : Bool := decide (0 ≤ t.f0 ∧ t.f0 ≤ 20) && (!t.f1 || Int.tmod t.f0 7 == 2)
def melOk (m : List S29) : Bool := decide (m.length ≤ 24) && m.all toneOk
theorem melOk_len {m : List S29} (h : melOk m = true) : m.length ≤ 24 := by
 unfold melOk at h; simp at h; exact h.1
theorem impl_Tone_valid_eq (a : Int) (b : Bool) : impl_Tone_valid.f a b = some (toneOk ⟨a, b⟩) := by
 unfold impl_Tone_valid.f toneOk
 by_cases h : a ≥ 0
 ·
  by_cases h' : a ≤ 20
  ·
   cases b
   ·
    simp [h, h']
   ·
    simp [h, h']
  ·
   simp [h, h']
 ·
  have : ¬ (0 ≤ a) := h
  simp [this]

theorem impl_MelodyValid_ev (m : List S29) : Ev (fun k => impl_MelodyValid.f k m) (melOk m) := by
 unfold impl_MelodyValid.f
 by_cases h : (m.length : Int) > 24
 ·
  refine Ev.eqr (Ev.pos h (Ev.now _)) ?_
  unfold melOk
  rw [decide_eq_false (by omega)]; rfl
 ·
  refine Ev.eqr (Ev.neg h (r := m.all toneOk) ?_) (by unfold melOk; rw [decide_eq_true (by omega)]; rfl)
  have := Ev.over z29 m (fun k (_ : Unit) i => impl_MelodyValid.l0 k m m.length i) (fun _ l => l.all toneOk) (fun _ _ => True) (by
   intro s _
   refine Ev.succ ?_
   simp only [impl_MelodyValid.l0]
   exact Ev.neg (by omega) (Ev.now _)) (by
   intro s i rest _ hi _ ih
   refine Ev.succ ?_
   simp only [impl_MelodyValid.l0]
   refine Ev.pos (by omega) (Ev.pos (by omega) (Ev.pos (by omega) (Ev.conb (impl_Tone_valid_eq _ _) ?_)))
   show Ev _ (toneOk (rd_T29 m i) && _)
   cases ht : toneOk (rd_T29 m i)
   ·
    exact Ev.neg (by simp [ht]) (Ev.now _)
   ·
    refine Ev.pos (by simp [ht]) ?_
    rw [w64 (by omega) (by omega)]
    simpa using ih () trivial) 0 () (Nat.zero_le _) trivial
  simpa using this

end Go.Proofs.YtiagfjbngpbejaaDoor.Pure
namespace Go.Proofs.YtiagfjbngpbejaaDoor.Pure
set_option linter.unusedVariables false
set_option linter.unusedSimpArgs false
open Go Go.RowKit Go.Proofs.YtiagfjbngpbejaaDoor.PFnSingMany Go.Proofs.YtiagfjbngpbejaaDoorW.PrintWords Go.Proofs.YtiagfjbngpbejaaDoorW.PrintLast Go.Proofs.YtiagfjbngpbejaaDoorW.PrintMore

def nCells : Array Value := #[.string ⟨#[71]⟩, .string ⟨#[65]⟩, .string ⟨#[66]⟩, .string ⟨#[67]⟩, .string ⟨#[68]⟩, .string ⟨#[69]⟩, .string ⟨#[70]⟩]
def NTab (w : World) : Prop := ∃ t fz, w.heap[0]? = some (.cells nCells t fz)
theorem NTab.below {w w' : World} (h : NTab w) (hb : Below w.heap.size w w') : NTab w' := by
 obtain ⟨t, fz, h⟩ := h
 exact ⟨t, fz, (hb.block _ (blk_lt h)).trans h⟩
theorem NTab.at {w : World} (h : NTab w) (k : Nat) : w.cell? ⟨0, k, none⟩ = nCells[k]? := by
 obtain ⟨t, fz, h⟩ := h
 exact cell_of_row w _ _ nCells t fz h
/-- The kind of a hexachord that begins at a step: hard, natural, soft, or none. -/
def kindB (s : Int) : ByteArray := if s % 7 = 0 then ⟨#[104, 97, 114, 100]⟩ else if s % 7 = 3 then ⟨#[110, 97, 116, 117, 114, 97, 108]⟩ else if s % 7 = 6 then ⟨#[115, 111, 102, 116]⟩ else ⟨#[]⟩
set_option maxHeartbeats 2000000 in
set_option maxRecDepth 100000 in
theorem impl_hexKindAt_calls (s : Int) (w : World) (ht : NTab w) (h0 : 0 ≤ s) (h1 : s ≤ 20) :
 Calls Tryd.prog 35 #[.int .i64 s] w fun e w' => e = .returned (.string (kindB s)) ∧ w' = w := by
 have HT := Aside0.mk ht
 clear ht
 have hm : Int.tmod s 7 = s % 7 := Int.tmod_eq_emod_of_nonneg h0
 obtain ⟨k, hk⟩ : ∃ k : Nat, s % 7 = (k : Int) := ⟨(s % 7).toNat, by omega⟩
 have hk7 : k < 7 := by omega
 have hkb : kindB s = if k = 0 then ⟨#[104, 97, 114, 100]⟩ else if k = 3 then ⟨#[110, 97, 116, 117, 114, 97, 108]⟩ else if k = 6 then ⟨#[115, 111, 102, 116]⟩ else ⟨#[]⟩ := by
  unfold kindB
  rw [hk]
  have a0 : ((k : Int) = 0) = (k = 0) := propext (by omega)
  have a3 : ((k : Int) = 3) = (k = 3) := propext (by omega)
  have a6 : ((k : Int) = 6) = (k = 6) := propext (by omega)
  simp only [a0, a3, a6]
 rw [hkb]
 rw [hk] at hm
 have hcell := HT.out.at k
 clear hk hkb h0 h1 HT
 have hv := hk7
 match k, hk7 with
 | 0, _ =>
  have hc : w.cell? ⟨0, 0, none⟩ = some (.string ⟨#[71]⟩) := hcell
  have hm' : Int.tmod s 7 = 0 := hm
  clear hcell hm hv
  go_enter Tryd.func35, Tryd.ntmps35
  go_wp2
  go_ret
  exact ⟨rfl, rfl⟩
 | 1, _ =>
  have hc : w.cell? ⟨0, 1, none⟩ = some (.string ⟨#[65]⟩) := hcell
  have hm' : Int.tmod s 7 = 1 := hm
  clear hcell hm hv
  go_enter Tryd.func35, Tryd.ntmps35
  go_wp2
  go_ret
  exact ⟨rfl, rfl⟩
 | 2, _ =>
  have hc : w.cell? ⟨0, 2, none⟩ = some (.string ⟨#[66]⟩) := hcell
  have hm' : Int.tmod s 7 = 2 := hm
  clear hcell hm hv
  go_enter Tryd.func35, Tryd.ntmps35
  go_wp2
  go_ret
  exact ⟨rfl, rfl⟩
 | 3, _ =>
  have hc : w.cell? ⟨0, 3, none⟩ = some (.string ⟨#[67]⟩) := hcell
  have hm' : Int.tmod s 7 = 3 := hm
  clear hcell hm hv
  go_enter Tryd.func35, Tryd.ntmps35
  go_wp2
  go_ret
  exact ⟨rfl, rfl⟩
 | 4, _ =>
  have hc : w.cell? ⟨0, 4, none⟩ = some (.string ⟨#[68]⟩) := hcell
  have hm' : Int.tmod s 7 = 4 := hm
  clear hcell hm hv
  go_enter Tryd.func35, Tryd.ntmps35
  go_wp2
  go_ret
  exact ⟨rfl, rfl⟩
 | 5, _ =>
  have hc : w.cell? ⟨0, 5, none⟩ = some (.string ⟨#[69]⟩) := hcell
  have hm' : Int.tmod s 7 = 5 := hm
  clear hcell hm hv
  go_enter Tryd.func35, Tryd.ntmps35
  go_wp2
  go_ret
  exact ⟨rfl, rfl⟩
 | 6, _ =>
  have hc : w.cell? ⟨0, 6, none⟩ = some (.string ⟨#[70]⟩) := hcell
  have hm' : Int.tmod s 7 = 6 := hm
  clear hcell hm hv
  go_enter Tryd.func35, Tryd.ntmps35
  go_wp2
  go_ret
  exact ⟨rfl, rfl⟩

theorem setCells_grown (W : World) (g o : Nat) (seg : List Value) : W.grownBy (W.setCells g o seg) (some g) := by
 obtain ⟨s1, s2, s3, s4⟩ := setCells_same g seg o W
 exact ⟨s1, s2, s3, by rw [s4]; exact Nat.le_refl _, fun k _ hk => setCells_far _ _ k (fun he => hk (by rw [he]))⟩
theorem below_grown {base g : Nat} {w0 W w1 : World} (h : Below base w0 W) (hg : W.grownBy w1 (some g)) (hb : base ≤ g) (hW : base ≤ W.heap.size) : Below base w0 w1 :=
 h.trans ⟨hg.os, hg.tape, hg.output, hg.size, fun k hk => hg.block k (by omega) (fun he => by injection he with he; omega)⟩
theorem box_store {P : Program} {ops : Array Oper} {rest : List Oper} {o : Oper} {a : Act} {Q : Exit → Act → World → Prop} {W : World} (hgd : o.guard = none) (hN : o.dst = none) (t : TypeId) (p x : Operand) (ho : o.op = .store t p x) {g off : Nat} {e : TypeId} {cur new : Array Value} (u : Value) (seg : List Value)
 (hh : W.heap[g]? = some (.cells cur e (0, 0))) (haddr : a.eval p = .pointer (some ⟨g, off, none⟩)) (hx : a.eval x = u) (hu : u.cells.toList = seg) (ht : (P.info? t).map (·.size) = some seg.length) (h1 : ∀ q ∈ seg, q.oneCell' = true)
 (hfit : off + seg.length ≤ cur.size) (hnew : (cur.toList.take off ++ seg ++ cur.toList.drop (off + seg.length)) = new.toList)
 (h : ∀ w1, w1.heap[g]? = some (.cells new e (0, 0)) → W.grownBy w1 (some g) → w1.heap.size = W.heap.size → wpList P ops Q rest a w1) : wpList P ops Q (o :: rest) a W := by
 refine wpList_plain hgd fun K hK => ?_
 have hrun : (Instr.storeAt t (.pointer (some ⟨g, off, none⟩)) u).run P W = .ok () (W.setCells g off seg) := run_store_run t u seg hh hu ht hfit h1
 unfold Oper.wp execOp
 simp only [ho, haddr, hx, Sem.run_bind, Sem.run_pure, Result.andThen_ok, hrun]
 show K (a.put o.dst undef) _
 rw [hN]
 obtain ⟨cur', h2, _, h3⟩ := setCells_row seg off W cur hh hfit
 have e2 : cur' = new := Array.ext' (by rw [h3, hnew])
 rw [e2] at h2
 exact hK a _ (h _ h2 (setCells_grown W g off seg) (setCells_same g seg off W).2.2.2)
/-- The same as a step of a region that draws. -/
theorem box_store_step {P : Program} {ops : Array Oper} {o : Oper} {a : Act} {Q : Exit → Act → World → Prop} {Kc : Act → World → Prop} {W : World} (hw : Region.wanted o (yielded ops a.tmps) = true) (hN : o.dst = none) (t : TypeId) (p x : Operand) (ho : o.op = .store t p x) {g off : Nat} {e : TypeId} {cur new : Array Value} (u : Value) (seg : List Value)
 (hh : W.heap[g]? = some (.cells cur e (0, 0))) (haddr : a.eval p = .pointer (some ⟨g, off, none⟩)) (hx : a.eval x = u) (hu : u.cells.toList = seg) (ht : (P.info? t).map (·.size) = some seg.length) (h1 : ∀ q ∈ seg, q.oneCell' = true)
 (hfit : off + seg.length ≤ cur.size) (hnew : (cur.toList.take off ++ seg ++ cur.toList.drop (off + seg.length)) = new.toList)
 (h : ∀ w1, w1.heap[g]? = some (.cells new e (0, 0)) → W.grownBy w1 (some g) → w1.heap.size = W.heap.size → Kc a w1) : if Region.wanted o (yielded ops a.tmps) = true then Oper.wp P o a W Kc Q else Kc (a.put o.dst undef) W := by
 rw [if_pos hw]
 have hrun : (Instr.storeAt t (.pointer (some ⟨g, off, none⟩)) u).run P W = .ok () (W.setCells g off seg) := run_store_run t u seg hh hu ht hfit h1
 unfold Oper.wp execOp
 simp only [ho, haddr, hx, Sem.run_bind, Sem.run_pure, Result.andThen_ok, hrun]
 show Kc (a.put o.dst undef) _
 rw [hN]
 obtain ⟨cur', h2, _, h3⟩ := setCells_row seg off W cur hh hfit
 have e2 : cur' = new := Array.ext' (by rw [h3, hnew])
 rw [e2] at h2
 exact h _ h2 (setCells_grown W g off seg) (setCells_same g seg off W).2.2.2

end Go.Proofs.YtiagfjbngpbejaaDoor.Pure
namespace Go.Proofs.YtiagfjbngpbejaaDoor.Pure
set_option linter.unusedVariables false
set_option linter.unusedSimpArgs false
open Go Go.RowKit Go.Proofs.YtiagfjbngpbejaaDoor.PFnSingMany Go.Proofs.YtiagfjbngpbejaaDoorW.PrintWords Go.Proofs.YtiagfjbngpbejaaDoorW.PrintLast Go.Proofs.YtiagfjbngpbejaaDoorW.PrintMore

theorem hex_one {W : World} {b : Nat} {cp : List Value} (h : W.heap[b]? = some (.cells cp.toArray 52 (0, 0))) (hl : cp.length = 13) (h1 : ∀ u ∈ cp, u.oneCell' = true) : ReadsRow ((Kd.raw 13).K W) 13 W (some ⟨b, 0, none⟩) 1 [cp] := by
 refine ⟨rfl, by omega, fun _ => ⟨_, rfl, fun j p hj => ?_⟩⟩
 obtain rfl : j = 0 := by have := (List.getElem?_eq_some_iff.1 hj).1; simp at this; omega
 obtain rfl : cp = p := by simpa using hj
 refine ⟨cp, hl, ⟨rfl, hl, h1⟩, fun i u hu => ?_⟩
 rw [Nat.zero_mul, Nat.zero_add, Addr.add_lit, Nat.zero_add, cell_of_row W b i cp.toArray 52 (0, 0) h]
 simpa using hu
theorem infoHex : (Tryd.prog.info? 52).map (fun i => (i.zero, i.size, i.bytes)) = some (some (.agg #[.int .i64 0, .int .i64 0, .bool false, .int .i64 0, .bool false, .int .i64 0, .bool false, .int .i64 0, .bool false, .int .i64 0, .bool false, .int .i64 0, .bool false]), 13, 104) := by kernel_rfl
def hexSt : List Int := [0, 3, 6, 7, 10, 13, 14]
/-- The cells of a hexachord that begins at s (soft or not), its first i tones set. -/
def hexC (s : Int) (f : Bool) (i : Nat) : Array Value := #[.int .i64 s, (if 0 < i then .int .i64 s else .int .i64 0), .bool (false), (if 1 < i then .int .i64 (s + 1) else .int .i64 0), .bool (false), (if 2 < i then .int .i64 (s + 2) else .int .i64 0), .bool (false), (if 3 < i then .int .i64 (s + 3) else .int .i64 0), .bool (decide (3 < i) && f), (if 4 < i then .int .i64 (s + 4) else .int .i64 0), .bool (false), (if 5 < i then .int .i64 (s + 5) else .int .i64 0), .bool (false)]
def hexL (s : Int) : List Value := (hexC s (decide (s % 7 = 6)) 6).toList
def hexTo (i : Nat) : List (List Value) := (hexSt.filter (fun s => decide (s < (i : Int)))).map hexL
theorem hexTo_in {i : Nat} (h : i ≤ 15) (hk : (i : Int) % 7 = 0 ∨ (i : Int) % 7 = 3 ∨ (i : Int) % 7 = 6) : hexTo (i + 1) = hexTo i ++ [hexL (i : Int)] := by
 have : i = 0 ∨ i = 3 ∨ i = 6 ∨ i = 7 ∨ i = 10 ∨ i = 13 ∨ i = 14 := by omega
 rcases this with rfl | rfl | rfl | rfl | rfl | rfl | rfl <;> rfl
theorem hexTo_out {i : Nat} (h : i ≤ 15) (hk : ¬ ((i : Int) % 7 = 0 ∨ (i : Int) % 7 = 3 ∨ (i : Int) % 7 = 6)) : hexTo (i + 1) = hexTo i := by
 have : i = 1 ∨ i = 2 ∨ i = 4 ∨ i = 5 ∨ i = 8 ∨ i = 9 ∨ i = 11 ∨ i = 12 ∨ i = 15 := by omega
 rcases this with rfl | rfl | rfl | rfl | rfl | rfl | rfl | rfl | rfl <;> rfl
theorem hexTo_len (i : Nat) : (hexTo i).length ≤ 7 := by
 unfold hexTo
 rw [List.length_map]
 exact List.length_filter_le _ _
theorem hexC_one (s : Int) (f : Bool) (i : Nat) : ∀ u ∈ (hexC s f i).toList, u.oneCell' = true := by
 intro u hu
 unfold hexC at hu
 simp only [List.mem_cons, List.not_mem_nil, or_false] at hu
 rcases hu with rfl | rfl | rfl | rfl | rfl | rfl | rfl | rfl | rfl | rfl | rfl | rfl | rfl <;> first | rfl | (split <;> rfl)
def HexRes (w : World) (e : Ending) (w' : World) : Prop :=
 ∃ g v, e = .returned (.pointer (some ⟨g, 0, none⟩)) ∧ w.heap.size ≤ g ∧ w'.heap[g]? = some (.cells #[v] 49 (0, 0)) ∧ (Kd.raw 13).R 52 w' w.heap.size (fun _ => True) v (hexSt.map hexL) ∧ Below w.heap.size w w'
set_option maxHeartbeats 40000000 in
set_option maxRecDepth 100000 in
theorem impl_hexachords_calls (w : World) (ht : NTab w) : Calls Tryd.prog 23 #[] w (HexRes w) := by
 have HT := Aside0.mk ht
 clear ht
 go_enter Tryd.func23, Tryd.ntmps23
 go_wp2_with (first
  | ((with_reducible refine gate_dst (N := 8) rfl ?_); refine box_event ?hg (N := 8) ?hd (cs := #[.slice none 0 0]) (t := 49) ?hr ?_; (case hd => rfl); (case hg => rfl); (case hr => first | (go_simp; done) | (go_simp; rfl)); intro g hg w1 hbox hb; have HG := Aside0.mk hbox; have HB := Aside0.mk hb; have GE : Aside0 (w.heap.size ≤ g) := ⟨Nat.le_of_eq hg.symm⟩; clear hb hbox hg))
 go_loopg [2] 16 (fun kq v2 w' => ∃ (i : Nat) (v : Value), v2 = .int .i64 (i : Int) ∧ Aside0 (kq = 16 - i ∧ i ≤ 16) ∧ Aside0 (w'.heap[g]? = some (.cells #[v] 49 (0, 0))) ∧ Aside0 ((Kd.raw 13).R 52 w' w.heap.size (fun _ => True) v (hexTo i)) ∧ Aside0 (Below w.heap.size w w'))
 case atStart => exact ⟨0, _, rfl, ⟨rfl, by omega⟩, HG, ⟨Kd.R_nil _ _ _ _ _⟩, HB⟩
 case round =>
  clear HG HB
  obtain ⟨i, v, rfl, HX, HG, HR, HB⟩ := hrel
  obtain ⟨hkq, hi16⟩ := HX.out
  clear HX
  have p1 : IntKind.i64.wrap ((i : Int) + 6) = (i : Int) + 6 := by rw [Go.IntKind.wrap_i64]; omega
  have p2 : IntKind.i64.wrap ((i : Int) + 6 - 1) = (i : Int) + 6 - 1 := by rw [Go.IntKind.wrap_i64]; omega
  have p3 : IntKind.i64.wrap ((i : Int) + 1) = (i : Int) + 1 := by rw [Go.IntKind.wrap_i64]; omega
  by_cases hi : i < 16
  rotate_left
  ·
   obtain rfl : i = 16 := by omega
   have d1 : decide (((16 : Nat) : Int) + 6 - 1 ≤ 20) = false := rfl
   go_wp2
   go_ret
   exact ⟨g, v, rfl, GE.out, HG.out, HR.out, HB.out⟩
  have d1 : decide ((i : Int) + 6 - 1 ≤ 20) = true := decide_eq_true (by omega)
  have NX : Aside0 (16 - (i + 1) < gk ∧ i + 1 ≤ 16) := ⟨by omega, by omega⟩
  have hcon : ∀ W, NTab W → Calls Tryd.prog 35 #[.int .i64 (i : Int)] W fun e w' => e = .returned (.string (kindB (i : Int))) ∧ w' = W := fun W hW => impl_hexKindAt_calls (i : Int) W hW (by omega) (by omega)
  by_cases hk : (i : Int) % 7 = 0 ∨ (i : Int) % 7 = 3 ∨ (i : Int) % 7 = 6
  rotate_left
  ·
   have hkb : kindB (i : Int) = ⟨#[]⟩ := by unfold kindB; rw [if_neg (fun h => hk (.inl h)), if_neg (fun h => hk (.inr (.inl h))), if_neg (fun h => hk (.inr (.inr h)))]
   rw [hkb] at hcon
   have HTO := Aside0.mk (hexTo_out (by omega) hk)
   clear hkb hk hkq hi16 hi
   go_wp2_with (first
    | (go_at_call 35; refine (hcon _ (HT.out.below HB.out)).mono ?_; rintro e wk ⟨rfl, rfl⟩))
   go_roundg (16 - (i + 1))
   case measure => exact NX.out.1
   case rel => exact ⟨i + 1, v, by simp, ⟨rfl, NX.out.2⟩, HG, ⟨by rw [HTO.out]; exact HR.out⟩, HB⟩
  have HTO := Aside0.mk (hexTo_in (by omega) hk)
  have HM := Aside0.mk (And.intro hkq (And.intro hi16 hi))
  clear hkq hi16
  rcases hk with hk | hk | hk
  ·
   have hkb : kindB (i : Int) = ⟨#[104, 97, 114, 100]⟩ := by unfold kindB; rw [if_pos hk]
   rw [hkb] at hcon
   clear hkb
   have hf : decide ((i : Int) % 7 = 6) = false := by rw [hk]; rfl
   have HF : Aside0 (hexL (i : Int) = (hexC (i : Int) false 6).toList) := ⟨by unfold hexL; rw [hf]⟩
   clear hf
   have w6 : IntKind.i64.wrap ((i : Int) + 1) = (i : Int) + 1 := by rw [Go.IntKind.wrap_i64]; omega
   have w7 : IntKind.i64.wrap ((i : Int) + 2) = (i : Int) + 2 := by rw [Go.IntKind.wrap_i64]; omega
   have w8 : IntKind.i64.wrap ((i : Int) + 3) = (i : Int) + 3 := by rw [Go.IntKind.wrap_i64]; omega
   have w9 : IntKind.i64.wrap ((i : Int) + 4) = (i : Int) + 4 := by rw [Go.IntKind.wrap_i64]; omega
   have w10 : IntKind.i64.wrap ((i : Int) + 5) = (i : Int) + 5 := by rw [Go.IntKind.wrap_i64]; omega
   have w5 : IntKind.i64.wrap (i : Int) = (i : Int) := by rw [Go.IntKind.wrap_i64]; omega
   clear hk hi
   go_wp2_with (first
    | (go_at_call 35; refine (hcon _ (HT.out.below HB.out)).mono ?_; rintro e wk ⟨rfl, rfl⟩)
    | ((with_reducible refine gate_dst (N := 4) rfl ?_); refine box_event ?hg (N := 4) ?hd (cs := #[.int .i64 0, .int .i64 0, .bool false, .int .i64 0, .bool false, .int .i64 0, .bool false, .int .i64 0, .bool false, .int .i64 0, .bool false, .int .i64 0, .bool false]) (t := 52) ?hr ?_; (case hd => rfl); (case hg => rfl); (case hr => first | (go_simp; done) | (go_simp; rfl)); intro gh hg w2 hbox hb; have HH := Aside0.mk hbox; have HB2 := Aside0.mk (below_step HB.out hb); have HG2 := Aside0.mk (blk_below HG.out hb); have GH : Aside0 (w.heap.size ≤ gh) := ⟨by rw [hg]; exact HB.out.size⟩; have HR2 : Aside0 ((Kd.raw 13).R 52 w2 w.heap.size (fun k => k < gh) v (hexTo i)) := ⟨Kd.R_mono (Kd.R_below (Kd.R_bound HR.out) hb) (fun k hk => by have := hk.2.2.1; omega)⟩; have hlt := blk_lt HG.out; have HNE : Aside0 (g ≠ gh) := ⟨by omega⟩; clear hb hbox hg hlt)
    | ((with_reducible refine gate_ (.store 52 (.tmp 4) (.tmp 20)) rfl ?_); (refine box_store rfl rfl 52 (.tmp 4) (.tmp 20) rfl (g := gh) (off := 0) (new := hexC (i : Int) false 0) _ (hexC (i : Int) false 0).toList HH.out rfl rfl rfl (by kernel_rfl) (hexC_one _ _ _) (Nat.le_refl 13) rfl ?_); intro w3 hh3 hg3 hz3; have HH3 := Aside0.mk hh3; have HB3 := Aside0.mk (below_grown HB2.out hg3 GH.out HB2.out.size); have HG3 := Aside0.mk (blk_grown HG2.out hg3 (fun h => HNE.out (Option.some.inj h))); have HR3 := Aside0.mk (Kd.R_grown HR2.out hg3 (fun k hk h => by injection h with h; omega)); clear hh3 hg3 hz3))
   go_loopg [5, 6, 21] 6 (fun kq v5 v6 v21 w' => ∃ j : Int, v21 = .int .i64 j ∧ Aside0 (kq = 6 - j.toNat ∧ 0 ≤ j ∧ j ≤ 6) ∧ Aside0 (w'.heap[gh]? = some (.cells (hexC (i : Int) false j.toNat) 52 (0, 0))) ∧ Aside0 (w'.heap[g]? = some (.cells #[v] 49 (0, 0))) ∧ Aside0 ((Kd.raw 13).R 52 w' w.heap.size (fun k => k < gh) v (hexTo i)) ∧ Aside0 (Below w.heap.size w w'))
   case atStart => exact ⟨0, rfl, ⟨by decide⟩, HH3, HG3, HR3, HB3⟩
   case round =>
    clear HH HG HR HB HH3 HG2 HR2 HB2 HG3 HR3 HB3 hcon p1 p2 d1
    obtain ⟨j, rfl, HX, HH, HG, HR, HB⟩ := hrel
    obtain ⟨hkq, hj0, hj6⟩ := HX.out
    clear HX
    by_cases hj : j = 6
    rotate_left
    ·
     have hjj : j = 0 ∨ j = 1 ∨ j = 2 ∨ j = 3 ∨ j = 4 ∨ j = 5 := by omega
     clear hj0 hj6 hj
     rcases hjj with rfl | rfl | rfl | rfl | rfl | rfl
     ·
      have NJ : Aside0 (5 - 0 < gk) := ⟨by simp at hkq; omega⟩
      clear hkq
      go_wp2_with (first
       | ((with_reducible refine gate_ (.store 29 (.tmp 38) (.tmp 36)) rfl ?_); (refine box_store rfl rfl 29 (.tmp 38) (.tmp 36) rfl (g := gh) (off := 1) (new := hexC (i : Int) false 1) _ [.int .i64 (i : Int), .bool false] HH.out rfl rfl rfl (by kernel_rfl) (by simp [Value.oneCell']) (Nat.le_of_ble_eq_true rfl) rfl ?_); intro w4 hh4 hg4 hz4; have HH4 := Aside0.mk hh4; have HB4 := Aside0.mk (below_grown HB.out hg4 GH.out HB.out.size); have HG4 := Aside0.mk (blk_grown HG.out hg4 (fun h => HNE.out (Option.some.inj h))); have HR4 := Aside0.mk (Kd.R_grown HR.out hg4 (fun k hk h => by injection h with h; omega)); clear hh4 hg4 hz4))
      go_roundg (5 - 0)
      case measure => exact NJ.out
      case rel => exact ⟨1, by simp, ⟨by decide⟩, HH4, HG4, HR4, HB4⟩
     ·
      have NJ : Aside0 (5 - 1 < gk) := ⟨by simp at hkq; omega⟩
      clear hkq
      go_wp2_with (first
       | ((with_reducible refine gate_ (.store 29 (.tmp 38) (.tmp 36)) rfl ?_); (refine box_store rfl rfl 29 (.tmp 38) (.tmp 36) rfl (g := gh) (off := 3) (new := hexC (i : Int) false 2) _ [.int .i64 ((i : Int) + 1), .bool false] HH.out rfl rfl rfl (by kernel_rfl) (by simp [Value.oneCell']) (Nat.le_of_ble_eq_true rfl) rfl ?_); intro w4 hh4 hg4 hz4; have HH4 := Aside0.mk hh4; have HB4 := Aside0.mk (below_grown HB.out hg4 GH.out HB.out.size); have HG4 := Aside0.mk (blk_grown HG.out hg4 (fun h => HNE.out (Option.some.inj h))); have HR4 := Aside0.mk (Kd.R_grown HR.out hg4 (fun k hk h => by injection h with h; omega)); clear hh4 hg4 hz4))
      go_roundg (5 - 1)
      case measure => exact NJ.out
      case rel => exact ⟨2, by simp, ⟨by decide⟩, HH4, HG4, HR4, HB4⟩
     ·
      have NJ : Aside0 (5 - 2 < gk) := ⟨by simp at hkq; omega⟩
      clear hkq
      go_wp2_with (first
       | ((with_reducible refine gate_ (.store 29 (.tmp 38) (.tmp 36)) rfl ?_); (refine box_store rfl rfl 29 (.tmp 38) (.tmp 36) rfl (g := gh) (off := 5) (new := hexC (i : Int) false 3) _ [.int .i64 ((i : Int) + 2), .bool false] HH.out rfl rfl rfl (by kernel_rfl) (by simp [Value.oneCell']) (Nat.le_of_ble_eq_true rfl) rfl ?_); intro w4 hh4 hg4 hz4; have HH4 := Aside0.mk hh4; have HB4 := Aside0.mk (below_grown HB.out hg4 GH.out HB.out.size); have HG4 := Aside0.mk (blk_grown HG.out hg4 (fun h => HNE.out (Option.some.inj h))); have HR4 := Aside0.mk (Kd.R_grown HR.out hg4 (fun k hk h => by injection h with h; omega)); clear hh4 hg4 hz4))
      go_roundg (5 - 2)
      case measure => exact NJ.out
      case rel => exact ⟨3, by simp, ⟨by decide⟩, HH4, HG4, HR4, HB4⟩
     ·
      have NJ : Aside0 (5 - 3 < gk) := ⟨by simp at hkq; omega⟩
      clear hkq
      go_wp2_with (first
       | ((with_reducible refine gate_ (.store 29 (.tmp 38) (.tmp 36)) rfl ?_); (refine box_store rfl rfl 29 (.tmp 38) (.tmp 36) rfl (g := gh) (off := 7) (new := hexC (i : Int) false 4) _ [.int .i64 ((i : Int) + 3), .bool false] HH.out rfl rfl rfl (by kernel_rfl) (by simp [Value.oneCell']) (Nat.le_of_ble_eq_true rfl) rfl ?_); intro w4 hh4 hg4 hz4; have HH4 := Aside0.mk hh4; have HB4 := Aside0.mk (below_grown HB.out hg4 GH.out HB.out.size); have HG4 := Aside0.mk (blk_grown HG.out hg4 (fun h => HNE.out (Option.some.inj h))); have HR4 := Aside0.mk (Kd.R_grown HR.out hg4 (fun k hk h => by injection h with h; omega)); clear hh4 hg4 hz4))
      go_roundg (5 - 3)
      case measure => exact NJ.out
      case rel => exact ⟨4, by simp, ⟨by decide⟩, HH4, HG4, HR4, HB4⟩
     ·
      have NJ : Aside0 (5 - 4 < gk) := ⟨by simp at hkq; omega⟩
      clear hkq
      go_wp2_with (first
       | ((with_reducible refine gate_ (.store 29 (.tmp 38) (.tmp 36)) rfl ?_); (refine box_store rfl rfl 29 (.tmp 38) (.tmp 36) rfl (g := gh) (off := 9) (new := hexC (i : Int) false 5) _ [.int .i64 ((i : Int) + 4), .bool false] HH.out rfl rfl rfl (by kernel_rfl) (by simp [Value.oneCell']) (Nat.le_of_ble_eq_true rfl) rfl ?_); intro w4 hh4 hg4 hz4; have HH4 := Aside0.mk hh4; have HB4 := Aside0.mk (below_grown HB.out hg4 GH.out HB.out.size); have HG4 := Aside0.mk (blk_grown HG.out hg4 (fun h => HNE.out (Option.some.inj h))); have HR4 := Aside0.mk (Kd.R_grown HR.out hg4 (fun k hk h => by injection h with h; omega)); clear hh4 hg4 hz4))
      go_roundg (5 - 4)
      case measure => exact NJ.out
      case rel => exact ⟨5, by simp, ⟨by decide⟩, HH4, HG4, HR4, HB4⟩
     ·
      have NJ : Aside0 (5 - 5 < gk) := ⟨by simp at hkq; omega⟩
      clear hkq
      go_wp2_with (first
       | ((with_reducible refine gate_ (.store 29 (.tmp 38) (.tmp 36)) rfl ?_); (refine box_store rfl rfl 29 (.tmp 38) (.tmp 36) rfl (g := gh) (off := 11) (new := hexC (i : Int) false 6) _ [.int .i64 ((i : Int) + 5), .bool false] HH.out rfl rfl rfl (by kernel_rfl) (by simp [Value.oneCell']) (Nat.le_of_ble_eq_true rfl) rfl ?_); intro w4 hh4 hg4 hz4; have HH4 := Aside0.mk hh4; have HB4 := Aside0.mk (below_grown HB.out hg4 GH.out HB.out.size); have HG4 := Aside0.mk (blk_grown HG.out hg4 (fun h => HNE.out (Option.some.inj h))); have HR4 := Aside0.mk (Kd.R_grown HR.out hg4 (fun k hk h => by injection h with h; omega)); clear hh4 hg4 hz4))
      go_roundg (5 - 5)
      case measure => exact NJ.out
      case rel => exact ⟨6, by simp, ⟨by decide⟩, HH4, HG4, HR4, HB4⟩
    subst hj
    have hhx : wr.heap[gh]? = some (.cells (#[.int .i64 (i : Int), .int .i64 (i : Int), .bool false, .int .i64 ((i : Int) + 1), .bool false, .int .i64 ((i : Int) + 2), .bool false, .int .i64 ((i : Int) + 3), .bool false, .int .i64 ((i : Int) + 4), .bool false, .int .i64 ((i : Int) + 5), .bool false]) 52 (0, 0)) := HH.out
    clear HH
    have HH := Aside0.mk hhx
    clear hhx
    go_upto_region 14 with fail
    have HX0 : Aside0 (wr.cell? ⟨g, 0, none⟩ = some v ∧ wr.cell? ⟨gh, 0, none⟩ = some (.int .i64 (i : Int)) ∧ wr.cell? ⟨gh, 1, none⟩ = some (.int .i64 (i : Int)) ∧ wr.cell? ⟨gh, 2, none⟩ = some (.bool false) ∧ wr.cell? ⟨gh, 3, none⟩ = some (.int .i64 ((i : Int) + 1)) ∧ wr.cell? ⟨gh, 4, none⟩ = some (.bool false) ∧ wr.cell? ⟨gh, 5, none⟩ = some (.int .i64 ((i : Int) + 2)) ∧ wr.cell? ⟨gh, 6, none⟩ = some (.bool false) ∧ wr.cell? ⟨gh, 7, none⟩ = some (.int .i64 ((i : Int) + 3)) ∧ wr.cell? ⟨gh, 8, none⟩ = some (.bool false) ∧ wr.cell? ⟨gh, 9, none⟩ = some (.int .i64 ((i : Int) + 4)) ∧ wr.cell? ⟨gh, 10, none⟩ = some (.bool false) ∧ wr.cell? ⟨gh, 11, none⟩ = some (.int .i64 ((i : Int) + 5)) ∧ wr.cell? ⟨gh, 12, none⟩ = some (.bool false)) := ⟨⟨blk_cell HG.out 0, (blk_cell HH.out 0).trans rfl, (blk_cell HH.out 1).trans rfl, (blk_cell HH.out 2).trans rfl, (blk_cell HH.out 3).trans rfl, (blk_cell HH.out 4).trans rfl, (blk_cell HH.out 5).trans rfl, (blk_cell HH.out 6).trans rfl, (blk_cell HH.out 7).trans rfl, (blk_cell HH.out 8).trans rfl, (blk_cell HH.out 9).trans rfl, (blk_cell HH.out 10).trans rfl, (blk_cell HH.out 11).trans rfl, (blk_cell HH.out 12).trans rfl⟩⟩
    obtain ⟨wd, hwd⟩ : ∃ wd, wd = wr.drew := ⟨_, rfl⟩
    refine start_ (n := 11) (S := (fun w' => w'.cell? ⟨g, 0, none⟩ = some v ∧ w'.cell? ⟨gh, 0, none⟩ = some (.int .i64 (i : Int)) ∧ w'.cell? ⟨gh, 1, none⟩ = some (.int .i64 (i : Int)) ∧ w'.cell? ⟨gh, 2, none⟩ = some (.bool false) ∧ w'.cell? ⟨gh, 3, none⟩ = some (.int .i64 ((i : Int) + 1)) ∧ w'.cell? ⟨gh, 4, none⟩ = some (.bool false) ∧ w'.cell? ⟨gh, 5, none⟩ = some (.int .i64 ((i : Int) + 2)) ∧ w'.cell? ⟨gh, 6, none⟩ = some (.bool false) ∧ w'.cell? ⟨gh, 7, none⟩ = some (.int .i64 ((i : Int) + 3)) ∧ w'.cell? ⟨gh, 8, none⟩ = some (.bool false) ∧ w'.cell? ⟨gh, 9, none⟩ = some (.int .i64 ((i : Int) + 4)) ∧ w'.cell? ⟨gh, 10, none⟩ = some (.bool false) ∧ w'.cell? ⟨gh, 11, none⟩ = some (.int .i64 ((i : Int) + 5)) ∧ w'.cell? ⟨gh, 12, none⟩ = some (.bool false))) (ds := [7, 10]) (rowB 11 0) (by kernel_rfl) rfl rfl ⟨blk_cell (blk_drew HG.out) 0, (blk_cell (blk_drew HH.out) 0).trans rfl, (blk_cell (blk_drew HH.out) 1).trans rfl, (blk_cell (blk_drew HH.out) 2).trans rfl, (blk_cell (blk_drew HH.out) 3).trans rfl, (blk_cell (blk_drew HH.out) 4).trans rfl, (blk_cell (blk_drew HH.out) 5).trans rfl, (blk_cell (blk_drew HH.out) 6).trans rfl, (blk_cell (blk_drew HH.out) 7).trans rfl, (blk_cell (blk_drew HH.out) 8).trans rfl, (blk_cell (blk_drew HH.out) 9).trans rfl, (blk_cell (blk_drew HH.out) 10).trans rfl, (blk_cell (blk_drew HH.out) 11).trans rfl, (blk_cell (blk_drew HH.out) 12).trans rfl⟩ (fun hHeld => ?_)
    refine pure_ (i := 0) (N := some 40) (v := ?_) (a' := ?_) (rowB 11 1) rfl rfl (by kernel_rfl) (fun _ _ _ h => h) (Or.inl ⟨by rfl, ?_⟩) ?_ ?_
    rotate_left
    ·
     intro w'
     go_simp
     with_reducible rfl
    rotate_left
    ·
     simp only [Act.put, List.setIfInBounds_toArray, List.set_cons_zero, List.set_cons_succ, i64_w, i32_w]
     rfl
    refine pure_ (i := 1) (N := some 41) (v := ?_) (a' := ?_) (rowB 11 3) rfl rfl (by kernel_rfl) (fun _ _ _ h => h) (Or.inl ⟨by rfl, ?_⟩) ?_ ?_
    rotate_left
    ·
     intro w'
     go_simp
     with_reducible rfl
    rotate_left
    ·
     simp only [Act.put, List.setIfInBounds_toArray, List.set_cons_zero, List.set_cons_succ, i64_w, i32_w]
     rfl
    refine pure_ (i := 2) (N := some 42) (v := ?_) (a' := ?_) (rowB 11 7) rfl rfl (by kernel_rfl) (fun _ _ _ h => h) (Or.inl ⟨by rfl, ?_⟩) ?_ ?_
    rotate_left
    ·
     intro w'
     go_simp
     with_reducible rfl
    rotate_left
    ·
     simp only [Act.put, List.setIfInBounds_toArray, List.set_cons_zero, List.set_cons_succ, i64_w, i32_w]
     rfl
    refine pure_ (i := 3) (N := some 43) (v := ?_) (a' := ?_) (rowB 11 15) rfl rfl (by kernel_rfl) (fun _ _ _ h => h) (Or.inl ⟨by rfl, ?_⟩) ?_ ?_
    rotate_left
    ·
     intro w'
     go_simp
     with_reducible rfl
    rotate_left
    ·
     simp only [Act.put, List.setIfInBounds_toArray, List.set_cons_zero, List.set_cons_succ, i64_w, i32_w]
     rfl
    refine take_ (i := 4) (N := some 44) (v := ?_) (a' := ?_) (rowB 11 31) rfl rfl (by kernel_rfl) (fun _ _ _ h => h) (Or.inl ⟨by rfl, ?_⟩) hHeld ?_ ?_
    rotate_left
    ·
     rintro w' ⟨s0, s1, s2, s3, s4, s5, s6, s7, s8, s9, s10, s11, s12, s13⟩
     go_simp
     with_reducible rfl
    rotate_left
    ·
     simp only [Act.put, List.setIfInBounds_toArray, List.set_cons_zero, List.set_cons_succ, i64_w, i32_w]
     rfl
    refine take_ (i := 5) (N := some 45) (v := ?_) (a' := ?_) (rowB 11 63) rfl rfl (by kernel_rfl) (fun _ _ _ h => h) (Or.inl ⟨by rfl, ?_⟩) hHeld ?_ ?_
    rotate_left
    ·
     rintro w' ⟨s0, s1, s2, s3, s4, s5, s6, s7, s8, s9, s10, s11, s12, s13⟩
     go_simp
     with_reducible rfl
    rotate_left
    ·
     simp only [Act.put, List.setIfInBounds_toArray, List.set_cons_zero, List.set_cons_succ, i64_w, i32_w]
     rfl
    refine one_ (i := 6) (N := some 46) (rowB 11 127) rfl rfl (by kernel_rfl) (by decide) (fun K hK => ?_)
    refine event_step (w1 := ?_) (v := ?_) (by rfl) ?_ ?_
    rotate_left 2
    ·
     go_simp
     constructor
     ·
      rfl
     ·
      rfl
    refine hK.out _ _ (by have hb := below_alloc (Below.refl wr.drew.heap.size wr.drew) (.cells (#[.int .i64 (i : Int), .int .i64 (i : Int), .bool false, .int .i64 ((i : Int) + 1), .bool false, .int .i64 ((i : Int) + 2), .bool false, .int .i64 ((i : Int) + 3), .bool false, .int .i64 ((i : Int) + 4), .bool false, .int .i64 ((i : Int) + 5), .bool false]) 52 (0, 0)); exact ⟨blk_cell (blk_below (blk_drew HG.out) hb) 0, (blk_cell (blk_below (blk_drew HH.out) hb) 0).trans rfl, (blk_cell (blk_below (blk_drew HH.out) hb) 1).trans rfl, (blk_cell (blk_below (blk_drew HH.out) hb) 2).trans rfl, (blk_cell (blk_below (blk_drew HH.out) hb) 3).trans rfl, (blk_cell (blk_below (blk_drew HH.out) hb) 4).trans rfl, (blk_cell (blk_below (blk_drew HH.out) hb) 5).trans rfl, (blk_cell (blk_below (blk_drew HH.out) hb) 6).trans rfl, (blk_cell (blk_below (blk_drew HH.out) hb) 7).trans rfl, (blk_cell (blk_below (blk_drew HH.out) hb) 8).trans rfl, (blk_cell (blk_below (blk_drew HH.out) hb) 9).trans rfl, (blk_cell (blk_below (blk_drew HH.out) hb) 10).trans rfl, (blk_cell (blk_below (blk_drew HH.out) hb) 11).trans rfl, (blk_cell (blk_below (blk_drew HH.out) hb) 12).trans rfl⟩) (fun hHeld => ?_)
    clear hK K
    refine norm_ (a' := ?_) ?_ ?_
    rotate_left
    ·
     show Act.put _ (some 46) _ = _
     simp only [Act.put, List.setIfInBounds_toArray, List.set_cons_zero, List.set_cons_succ, i64_w, i32_w]
     rfl
    refine last_ (i := 7) (N := some 47) (rowB 11 255) rfl rfl (by kernel_rfl) (by decide) (fun K hK => ?_)
    refine Kd.R_append_rows_step (Kd.raw 13) (w0 := w) w.heap.size (by rfl) (.tmp 44) (.tmp 46) 47 52 _ 104 rfl Tryd.underlying47 infoHex rfl (by decide) (by omega) v (hexTo i) [(#[.int .i64 (i : Int), .int .i64 (i : Int), .bool false, .int .i64 ((i : Int) + 1), .bool false, .int .i64 ((i : Int) + 2), .bool false, .int .i64 ((i : Int) + 3), .bool false, .int .i64 ((i : Int) + 4), .bool false, .int .i64 ((i : Int) + 5), .bool false] : Array Value).toList] (some ⟨wr.drew.heap.size, 0, none⟩) 1 1 (fun _ => True) (fun _ => False) rfl rfl ?aO ?aR (fun _ _ h => h) (fun _ h => h.elim) (fun _ _ => trivial) ?aB ?aS ?aL ?_
    (case aO => exact Kd.R_alloc (Kd.R_drew (Kd.R_mono HR.out (fun _ _ => trivial))) _)
    (case aR => exact hex_one (blk_new _ _) rfl (hexC_one (i : Int) false 6))
    (case aB => exact below_alloc (below_drew HB.out) _)
    (case aS => exact (below_alloc (below_drew HB.out) _).size)
    (case aL => have := hexTo_len i; show ((hexTo i).length + 1) * 104 ≤ 140737488355328; omega)
    intro v47 w8 ho hb hg hat
    have HO8 := Aside0.mk ho
    have HB8 := Aside0.mk hb
    have HG8 := Aside0.mk (blk_grown (blk_alloc (blk_drew HG.out) _) hg (Kd.R_ne HR.out HG.out (by decide)))
    clear ho hb hg hat
    refine hK.out _ _ ?_
    clear hK K
    refine norm_ (a' := ?_) ?_ ?_
    rotate_left
    ·
     show Act.put _ (some 47) _ = _
     simp only [Act.put, List.setIfInBounds_toArray, List.set_cons_zero, List.set_cons_succ, i64_w, i32_w]
     rfl
    refine pure_ (i := 8) (N := some 48) (v := ?_) (a' := ?_) (rowB 11 511) rfl rfl (by kernel_rfl) (fun _ _ _ h => h) (Or.inl ⟨by rfl, ?_⟩) ?_ ?_
    rotate_left
    ·
     intro w'
     go_simp
     with_reducible rfl
    rotate_left
    ·
     simp only [Act.put, List.setIfInBounds_toArray, List.set_cons_zero, List.set_cons_succ, i64_w, i32_w]
     rfl
    refine pure_ (i := 9) (N := some 49) (v := ?_) (a' := ?_) (rowB 11 1023) rfl rfl (by kernel_rfl) (fun _ _ _ h => h) (Or.inl ⟨by rfl, ?_⟩) ?_ ?_
    rotate_left
    ·
     intro w'
     go_simp
     with_reducible rfl
    rotate_left
    ·
     simp only [Act.put, List.setIfInBounds_toArray, List.set_cons_zero, List.set_cons_succ, i64_w, i32_w]
     rfl
    refine last_ (i := 10) (N := none) (rowB 11 2047) rfl rfl (by kernel_rfl) (by decide) (fun K hK => ?_)
    refine box_store_step (by rfl) rfl 47 (.tmp 49) (.tmp 47) rfl (g := g) (off := 0) (new := #[v47]) v47 [v47] HG8.out rfl rfl (by obtain ⟨_, _, rfl⟩ := Kd.R_slice HO8.out; rfl) (by kernel_rfl) (by obtain ⟨_, _, rfl⟩ := Kd.R_slice HO8.out; simp [Value.oneCell']) (Nat.le_of_ble_eq_true rfl) rfl ?_
    intro w9 hh9 hg9 hz9
    have HG9 := Aside0.mk hh9
    have HB9 := Aside0.mk (below_grown HB8.out hg9 GE.out HB8.out.size)
    have HO9 := Aside0.mk (Kd.R_mono (Kd.R_grown (Kd.R_types HO8.out HG8.out (by intro q hq; have hq2 : q = 52 := List.mem_singleton.1 hq; rw [hq2]; decide)) hg9 (fun k hk h => hk.2 (Option.some.inj h))) (fun _ hk => hk.1))
    clear hh9 hg9 hz9
    refine hK.out _ _ ?_
    clear hK K
    refine done_ (by kernel_rfl) ?_
    go_wp2
    go_roundg (16 - (i + 1))
    case measure => exact NX.out.1
    case rel => exact ⟨i + 1, v47, by simp, ⟨rfl, NX.out.2⟩, HG9, ⟨by rw [HTO.out, HF.out]; exact HO9.out⟩, HB9⟩
  ·
   have hkb : kindB (i : Int) = ⟨#[110, 97, 116, 117, 114, 97, 108]⟩ := by unfold kindB; rw [if_neg (by omega), if_pos hk]
   rw [hkb] at hcon
   clear hkb
   have hf : decide ((i : Int) % 7 = 6) = false := by rw [hk]; rfl
   have HF : Aside0 (hexL (i : Int) = (hexC (i : Int) false 6).toList) := ⟨by unfold hexL; rw [hf]⟩
   clear hf
   have w6 : IntKind.i64.wrap ((i : Int) + 1) = (i : Int) + 1 := by rw [Go.IntKind.wrap_i64]; omega
   have w7 : IntKind.i64.wrap ((i : Int) + 2) = (i : Int) + 2 := by rw [Go.IntKind.wrap_i64]; omega
   have w8 : IntKind.i64.wrap ((i : Int) + 3) = (i : Int) + 3 := by rw [Go.IntKind.wrap_i64]; omega
   have w9 : IntKind.i64.wrap ((i : Int) + 4) = (i : Int) + 4 := by rw [Go.IntKind.wrap_i64]; omega
   have w10 : IntKind.i64.wrap ((i : Int) + 5) = (i : Int) + 5 := by rw [Go.IntKind.wrap_i64]; omega
   have w5 : IntKind.i64.wrap (i : Int) = (i : Int) := by rw [Go.IntKind.wrap_i64]; omega
   clear hk hi
   go_wp2_with (first
    | (go_at_call 35; refine (hcon _ (HT.out.below HB.out)).mono ?_; rintro e wk ⟨rfl, rfl⟩)
    | ((with_reducible refine gate_dst (N := 4) rfl ?_); refine box_event ?hg (N := 4) ?hd (cs := #[.int .i64 0, .int .i64 0, .bool false, .int .i64 0, .bool false, .int .i64 0, .bool false, .int .i64 0, .bool false, .int .i64 0, .bool false, .int .i64 0, .bool false]) (t := 52) ?hr ?_; (case hd => rfl); (case hg => rfl); (case hr => first | (go_simp; done) | (go_simp; rfl)); intro gh hg w2 hbox hb; have HH := Aside0.mk hbox; have HB2 := Aside0.mk (below_step HB.out hb); have HG2 := Aside0.mk (blk_below HG.out hb); have GH : Aside0 (w.heap.size ≤ gh) := ⟨by rw [hg]; exact HB.out.size⟩; have HR2 : Aside0 ((Kd.raw 13).R 52 w2 w.heap.size (fun k => k < gh) v (hexTo i)) := ⟨Kd.R_mono (Kd.R_below (Kd.R_bound HR.out) hb) (fun k hk => by have := hk.2.2.1; omega)⟩; have hlt := blk_lt HG.out; have HNE : Aside0 (g ≠ gh) := ⟨by omega⟩; clear hb hbox hg hlt)
    | ((with_reducible refine gate_ (.store 52 (.tmp 4) (.tmp 20)) rfl ?_); (refine box_store rfl rfl 52 (.tmp 4) (.tmp 20) rfl (g := gh) (off := 0) (new := hexC (i : Int) false 0) _ (hexC (i : Int) false 0).toList HH.out rfl rfl rfl (by kernel_rfl) (hexC_one _ _ _) (Nat.le_refl 13) rfl ?_); intro w3 hh3 hg3 hz3; have HH3 := Aside0.mk hh3; have HB3 := Aside0.mk (below_grown HB2.out hg3 GH.out HB2.out.size); have HG3 := Aside0.mk (blk_grown HG2.out hg3 (fun h => HNE.out (Option.some.inj h))); have HR3 := Aside0.mk (Kd.R_grown HR2.out hg3 (fun k hk h => by injection h with h; omega)); clear hh3 hg3 hz3))
   go_loopg [5, 6, 21] 6 (fun kq v5 v6 v21 w' => ∃ j : Int, v21 = .int .i64 j ∧ Aside0 (kq = 6 - j.toNat ∧ 0 ≤ j ∧ j ≤ 6) ∧ Aside0 (w'.heap[gh]? = some (.cells (hexC (i : Int) false j.toNat) 52 (0, 0))) ∧ Aside0 (w'.heap[g]? = some (.cells #[v] 49 (0, 0))) ∧ Aside0 ((Kd.raw 13).R 52 w' w.heap.size (fun k => k < gh) v (hexTo i)) ∧ Aside0 (Below w.heap.size w w'))
   case atStart => exact ⟨0, rfl, ⟨by decide⟩, HH3, HG3, HR3, HB3⟩
   case round =>
    clear HH HG HR HB HH3 HG2 HR2 HB2 HG3 HR3 HB3 hcon p1 p2 d1
    obtain ⟨j, rfl, HX, HH, HG, HR, HB⟩ := hrel
    obtain ⟨hkq, hj0, hj6⟩ := HX.out
    clear HX
    by_cases hj : j = 6
    rotate_left
    ·
     have hjj : j = 0 ∨ j = 1 ∨ j = 2 ∨ j = 3 ∨ j = 4 ∨ j = 5 := by omega
     clear hj0 hj6 hj
     rcases hjj with rfl | rfl | rfl | rfl | rfl | rfl
     ·
      have NJ : Aside0 (5 - 0 < gk) := ⟨by simp at hkq; omega⟩
      clear hkq
      go_wp2_with (first
       | ((with_reducible refine gate_ (.store 29 (.tmp 38) (.tmp 36)) rfl ?_); (refine box_store rfl rfl 29 (.tmp 38) (.tmp 36) rfl (g := gh) (off := 1) (new := hexC (i : Int) false 1) _ [.int .i64 (i : Int), .bool false] HH.out rfl rfl rfl (by kernel_rfl) (by simp [Value.oneCell']) (Nat.le_of_ble_eq_true rfl) rfl ?_); intro w4 hh4 hg4 hz4; have HH4 := Aside0.mk hh4; have HB4 := Aside0.mk (below_grown HB.out hg4 GH.out HB.out.size); have HG4 := Aside0.mk (blk_grown HG.out hg4 (fun h => HNE.out (Option.some.inj h))); have HR4 := Aside0.mk (Kd.R_grown HR.out hg4 (fun k hk h => by injection h with h; omega)); clear hh4 hg4 hz4))
      go_roundg (5 - 0)
      case measure => exact NJ.out
      case rel => exact ⟨1, by simp, ⟨by decide⟩, HH4, HG4, HR4, HB4⟩
     ·
      have NJ : Aside0 (5 - 1 < gk) := ⟨by simp at hkq; omega⟩
      clear hkq
      go_wp2_with (first
       | ((with_reducible refine gate_ (.store 29 (.tmp 38) (.tmp 36)) rfl ?_); (refine box_store rfl rfl 29 (.tmp 38) (.tmp 36) rfl (g := gh) (off := 3) (new := hexC (i : Int) false 2) _ [.int .i64 ((i : Int) + 1), .bool false] HH.out rfl rfl rfl (by kernel_rfl) (by simp [Value.oneCell']) (Nat.le_of_ble_eq_true rfl) rfl ?_); intro w4 hh4 hg4 hz4; have HH4 := Aside0.mk hh4; have HB4 := Aside0.mk (below_grown HB.out hg4 GH.out HB.out.size); have HG4 := Aside0.mk (blk_grown HG.out hg4 (fun h => HNE.out (Option.some.inj h))); have HR4 := Aside0.mk (Kd.R_grown HR.out hg4 (fun k hk h => by injection h with h; omega)); clear hh4 hg4 hz4))
      go_roundg (5 - 1)
      case measure => exact NJ.out
      case rel => exact ⟨2, by simp, ⟨by decide⟩, HH4, HG4, HR4, HB4⟩
     ·
      have NJ : Aside0 (5 - 2 < gk) := ⟨by simp at hkq; omega⟩
      clear hkq
      go_wp2_with (first
       | ((with_reducible refine gate_ (.store 29 (.tmp 38) (.tmp 36)) rfl ?_); (refine box_store rfl rfl 29 (.tmp 38) (.tmp 36) rfl (g := gh) (off := 5) (new := hexC (i : Int) false 3) _ [.int .i64 ((i : Int) + 2), .bool false] HH.out rfl rfl rfl (by kernel_rfl) (by simp [Value.oneCell']) (Nat.le_of_ble_eq_true rfl) rfl ?_); intro w4 hh4 hg4 hz4; have HH4 := Aside0.mk hh4; have HB4 := Aside0.mk (below_grown HB.out hg4 GH.out HB.out.size); have HG4 := Aside0.mk (blk_grown HG.out hg4 (fun h => HNE.out (Option.some.inj h))); have HR4 := Aside0.mk (Kd.R_grown HR.out hg4 (fun k hk h => by injection h with h; omega)); clear hh4 hg4 hz4))
      go_roundg (5 - 2)
      case measure => exact NJ.out
      case rel => exact ⟨3, by simp, ⟨by decide⟩, HH4, HG4, HR4, HB4⟩
     ·
      have NJ : Aside0 (5 - 3 < gk) := ⟨by simp at hkq; omega⟩
      clear hkq
      go_wp2_with (first
       | ((with_reducible refine gate_ (.store 29 (.tmp 38) (.tmp 36)) rfl ?_); (refine box_store rfl rfl 29 (.tmp 38) (.tmp 36) rfl (g := gh) (off := 7) (new := hexC (i : Int) false 4) _ [.int .i64 ((i : Int) + 3), .bool false] HH.out rfl rfl rfl (by kernel_rfl) (by simp [Value.oneCell']) (Nat.le_of_ble_eq_true rfl) rfl ?_); intro w4 hh4 hg4 hz4; have HH4 := Aside0.mk hh4; have HB4 := Aside0.mk (below_grown HB.out hg4 GH.out HB.out.size); have HG4 := Aside0.mk (blk_grown HG.out hg4 (fun h => HNE.out (Option.some.inj h))); have HR4 := Aside0.mk (Kd.R_grown HR.out hg4 (fun k hk h => by injection h with h; omega)); clear hh4 hg4 hz4))
      go_roundg (5 - 3)
      case measure => exact NJ.out
      case rel => exact ⟨4, by simp, ⟨by decide⟩, HH4, HG4, HR4, HB4⟩
     ·
      have NJ : Aside0 (5 - 4 < gk) := ⟨by simp at hkq; omega⟩
      clear hkq
      go_wp2_with (first
       | ((with_reducible refine gate_ (.store 29 (.tmp 38) (.tmp 36)) rfl ?_); (refine box_store rfl rfl 29 (.tmp 38) (.tmp 36) rfl (g := gh) (off := 9) (new := hexC (i : Int) false 5) _ [.int .i64 ((i : Int) + 4), .bool false] HH.out rfl rfl rfl (by kernel_rfl) (by simp [Value.oneCell']) (Nat.le_of_ble_eq_true rfl) rfl ?_); intro w4 hh4 hg4 hz4; have HH4 := Aside0.mk hh4; have HB4 := Aside0.mk (below_grown HB.out hg4 GH.out HB.out.size); have HG4 := Aside0.mk (blk_grown HG.out hg4 (fun h => HNE.out (Option.some.inj h))); have HR4 := Aside0.mk (Kd.R_grown HR.out hg4 (fun k hk h => by injection h with h; omega)); clear hh4 hg4 hz4))
      go_roundg (5 - 4)
      case measure => exact NJ.out
      case rel => exact ⟨5, by simp, ⟨by decide⟩, HH4, HG4, HR4, HB4⟩
     ·
      have NJ : Aside0 (5 - 5 < gk) := ⟨by simp at hkq; omega⟩
      clear hkq
      go_wp2_with (first
       | ((with_reducible refine gate_ (.store 29 (.tmp 38) (.tmp 36)) rfl ?_); (refine box_store rfl rfl 29 (.tmp 38) (.tmp 36) rfl (g := gh) (off := 11) (new := hexC (i : Int) false 6) _ [.int .i64 ((i : Int) + 5), .bool false] HH.out rfl rfl rfl (by kernel_rfl) (by simp [Value.oneCell']) (Nat.le_of_ble_eq_true rfl) rfl ?_); intro w4 hh4 hg4 hz4; have HH4 := Aside0.mk hh4; have HB4 := Aside0.mk (below_grown HB.out hg4 GH.out HB.out.size); have HG4 := Aside0.mk (blk_grown HG.out hg4 (fun h => HNE.out (Option.some.inj h))); have HR4 := Aside0.mk (Kd.R_grown HR.out hg4 (fun k hk h => by injection h with h; omega)); clear hh4 hg4 hz4))
      go_roundg (5 - 5)
      case measure => exact NJ.out
      case rel => exact ⟨6, by simp, ⟨by decide⟩, HH4, HG4, HR4, HB4⟩
    subst hj
    have hhx : wr.heap[gh]? = some (.cells (#[.int .i64 (i : Int), .int .i64 (i : Int), .bool false, .int .i64 ((i : Int) + 1), .bool false, .int .i64 ((i : Int) + 2), .bool false, .int .i64 ((i : Int) + 3), .bool false, .int .i64 ((i : Int) + 4), .bool false, .int .i64 ((i : Int) + 5), .bool false]) 52 (0, 0)) := HH.out
    clear HH
    have HH := Aside0.mk hhx
    clear hhx
    go_upto_region 14 with fail
    have HX0 : Aside0 (wr.cell? ⟨g, 0, none⟩ = some v ∧ wr.cell? ⟨gh, 0, none⟩ = some (.int .i64 (i : Int)) ∧ wr.cell? ⟨gh, 1, none⟩ = some (.int .i64 (i : Int)) ∧ wr.cell? ⟨gh, 2, none⟩ = some (.bool false) ∧ wr.cell? ⟨gh, 3, none⟩ = some (.int .i64 ((i : Int) + 1)) ∧ wr.cell? ⟨gh, 4, none⟩ = some (.bool false) ∧ wr.cell? ⟨gh, 5, none⟩ = some (.int .i64 ((i : Int) + 2)) ∧ wr.cell? ⟨gh, 6, none⟩ = some (.bool false) ∧ wr.cell? ⟨gh, 7, none⟩ = some (.int .i64 ((i : Int) + 3)) ∧ wr.cell? ⟨gh, 8, none⟩ = some (.bool false) ∧ wr.cell? ⟨gh, 9, none⟩ = some (.int .i64 ((i : Int) + 4)) ∧ wr.cell? ⟨gh, 10, none⟩ = some (.bool false) ∧ wr.cell? ⟨gh, 11, none⟩ = some (.int .i64 ((i : Int) + 5)) ∧ wr.cell? ⟨gh, 12, none⟩ = some (.bool false)) := ⟨⟨blk_cell HG.out 0, (blk_cell HH.out 0).trans rfl, (blk_cell HH.out 1).trans rfl, (blk_cell HH.out 2).trans rfl, (blk_cell HH.out 3).trans rfl, (blk_cell HH.out 4).trans rfl, (blk_cell HH.out 5).trans rfl, (blk_cell HH.out 6).trans rfl, (blk_cell HH.out 7).trans rfl, (blk_cell HH.out 8).trans rfl, (blk_cell HH.out 9).trans rfl, (blk_cell HH.out 10).trans rfl, (blk_cell HH.out 11).trans rfl, (blk_cell HH.out 12).trans rfl⟩⟩
    obtain ⟨wd, hwd⟩ : ∃ wd, wd = wr.drew := ⟨_, rfl⟩
    refine start_ (n := 11) (S := (fun w' => w'.cell? ⟨g, 0, none⟩ = some v ∧ w'.cell? ⟨gh, 0, none⟩ = some (.int .i64 (i : Int)) ∧ w'.cell? ⟨gh, 1, none⟩ = some (.int .i64 (i : Int)) ∧ w'.cell? ⟨gh, 2, none⟩ = some (.bool false) ∧ w'.cell? ⟨gh, 3, none⟩ = some (.int .i64 ((i : Int) + 1)) ∧ w'.cell? ⟨gh, 4, none⟩ = some (.bool false) ∧ w'.cell? ⟨gh, 5, none⟩ = some (.int .i64 ((i : Int) + 2)) ∧ w'.cell? ⟨gh, 6, none⟩ = some (.bool false) ∧ w'.cell? ⟨gh, 7, none⟩ = some (.int .i64 ((i : Int) + 3)) ∧ w'.cell? ⟨gh, 8, none⟩ = some (.bool false) ∧ w'.cell? ⟨gh, 9, none⟩ = some (.int .i64 ((i : Int) + 4)) ∧ w'.cell? ⟨gh, 10, none⟩ = some (.bool false) ∧ w'.cell? ⟨gh, 11, none⟩ = some (.int .i64 ((i : Int) + 5)) ∧ w'.cell? ⟨gh, 12, none⟩ = some (.bool false))) (ds := [7, 10]) (rowB 11 0) (by kernel_rfl) rfl rfl ⟨blk_cell (blk_drew HG.out) 0, (blk_cell (blk_drew HH.out) 0).trans rfl, (blk_cell (blk_drew HH.out) 1).trans rfl, (blk_cell (blk_drew HH.out) 2).trans rfl, (blk_cell (blk_drew HH.out) 3).trans rfl, (blk_cell (blk_drew HH.out) 4).trans rfl, (blk_cell (blk_drew HH.out) 5).trans rfl, (blk_cell (blk_drew HH.out) 6).trans rfl, (blk_cell (blk_drew HH.out) 7).trans rfl, (blk_cell (blk_drew HH.out) 8).trans rfl, (blk_cell (blk_drew HH.out) 9).trans rfl, (blk_cell (blk_drew HH.out) 10).trans rfl, (blk_cell (blk_drew HH.out) 11).trans rfl, (blk_cell (blk_drew HH.out) 12).trans rfl⟩ (fun hHeld => ?_)
    refine pure_ (i := 0) (N := some 40) (v := ?_) (a' := ?_) (rowB 11 1) rfl rfl (by kernel_rfl) (fun _ _ _ h => h) (Or.inl ⟨by rfl, ?_⟩) ?_ ?_
    rotate_left
    ·
     intro w'
     go_simp
     with_reducible rfl
    rotate_left
    ·
     simp only [Act.put, List.setIfInBounds_toArray, List.set_cons_zero, List.set_cons_succ, i64_w, i32_w]
     rfl
    refine pure_ (i := 1) (N := some 41) (v := ?_) (a' := ?_) (rowB 11 3) rfl rfl (by kernel_rfl) (fun _ _ _ h => h) (Or.inl ⟨by rfl, ?_⟩) ?_ ?_
    rotate_left
    ·
     intro w'
     go_simp
     with_reducible rfl
    rotate_left
    ·
     simp only [Act.put, List.setIfInBounds_toArray, List.set_cons_zero, List.set_cons_succ, i64_w, i32_w]
     rfl
    refine pure_ (i := 2) (N := some 42) (v := ?_) (a' := ?_) (rowB 11 7) rfl rfl (by kernel_rfl) (fun _ _ _ h => h) (Or.inl ⟨by rfl, ?_⟩) ?_ ?_
    rotate_left
    ·
     intro w'
     go_simp
     with_reducible rfl
    rotate_left
    ·
     simp only [Act.put, List.setIfInBounds_toArray, List.set_cons_zero, List.set_cons_succ, i64_w, i32_w]
     rfl
    refine pure_ (i := 3) (N := some 43) (v := ?_) (a' := ?_) (rowB 11 15) rfl rfl (by kernel_rfl) (fun _ _ _ h => h) (Or.inl ⟨by rfl, ?_⟩) ?_ ?_
    rotate_left
    ·
     intro w'
     go_simp
     with_reducible rfl
    rotate_left
    ·
     simp only [Act.put, List.setIfInBounds_toArray, List.set_cons_zero, List.set_cons_succ, i64_w, i32_w]
     rfl
    refine take_ (i := 4) (N := some 44) (v := ?_) (a' := ?_) (rowB 11 31) rfl rfl (by kernel_rfl) (fun _ _ _ h => h) (Or.inl ⟨by rfl, ?_⟩) hHeld ?_ ?_
    rotate_left
    ·
     rintro w' ⟨s0, s1, s2, s3, s4, s5, s6, s7, s8, s9, s10, s11, s12, s13⟩
     go_simp
     with_reducible rfl
    rotate_left
    ·
     simp only [Act.put, List.setIfInBounds_toArray, List.set_cons_zero, List.set_cons_succ, i64_w, i32_w]
     rfl
    refine take_ (i := 5) (N := some 45) (v := ?_) (a' := ?_) (rowB 11 63) rfl rfl (by kernel_rfl) (fun _ _ _ h => h) (Or.inl ⟨by rfl, ?_⟩) hHeld ?_ ?_
    rotate_left
    ·
     rintro w' ⟨s0, s1, s2, s3, s4, s5, s6, s7, s8, s9, s10, s11, s12, s13⟩
     go_simp
     with_reducible rfl
    rotate_left
    ·
     simp only [Act.put, List.setIfInBounds_toArray, List.set_cons_zero, List.set_cons_succ, i64_w, i32_w]
     rfl
    refine one_ (i := 6) (N := some 46) (rowB 11 127) rfl rfl (by kernel_rfl) (by decide) (fun K hK => ?_)
    refine event_step (w1 := ?_) (v := ?_) (by rfl) ?_ ?_
    rotate_left 2
    ·
     go_simp
     constructor
     ·
      rfl
     ·
      rfl
    refine hK.out _ _ (by have hb := below_alloc (Below.refl wr.drew.heap.size wr.drew) (.cells (#[.int .i64 (i : Int), .int .i64 (i : Int), .bool false, .int .i64 ((i : Int) + 1), .bool false, .int .i64 ((i : Int) + 2), .bool false, .int .i64 ((i : Int) + 3), .bool false, .int .i64 ((i : Int) + 4), .bool false, .int .i64 ((i : Int) + 5), .bool false]) 52 (0, 0)); exact ⟨blk_cell (blk_below (blk_drew HG.out) hb) 0, (blk_cell (blk_below (blk_drew HH.out) hb) 0).trans rfl, (blk_cell (blk_below (blk_drew HH.out) hb) 1).trans rfl, (blk_cell (blk_below (blk_drew HH.out) hb) 2).trans rfl, (blk_cell (blk_below (blk_drew HH.out) hb) 3).trans rfl, (blk_cell (blk_below (blk_drew HH.out) hb) 4).trans rfl, (blk_cell (blk_below (blk_drew HH.out) hb) 5).trans rfl, (blk_cell (blk_below (blk_drew HH.out) hb) 6).trans rfl, (blk_cell (blk_below (blk_drew HH.out) hb) 7).trans rfl, (blk_cell (blk_below (blk_drew HH.out) hb) 8).trans rfl, (blk_cell (blk_below (blk_drew HH.out) hb) 9).trans rfl, (blk_cell (blk_below (blk_drew HH.out) hb) 10).trans rfl, (blk_cell (blk_below (blk_drew HH.out) hb) 11).trans rfl, (blk_cell (blk_below (blk_drew HH.out) hb) 12).trans rfl⟩) (fun hHeld => ?_)
    clear hK K
    refine norm_ (a' := ?_) ?_ ?_
    rotate_left
    ·
     show Act.put _ (some 46) _ = _
     simp only [Act.put, List.setIfInBounds_toArray, List.set_cons_zero, List.set_cons_succ, i64_w, i32_w]
     rfl
    refine last_ (i := 7) (N := some 47) (rowB 11 255) rfl rfl (by kernel_rfl) (by decide) (fun K hK => ?_)
    refine Kd.R_append_rows_step (Kd.raw 13) (w0 := w) w.heap.size (by rfl) (.tmp 44) (.tmp 46) 47 52 _ 104 rfl Tryd.underlying47 infoHex rfl (by decide) (by omega) v (hexTo i) [(#[.int .i64 (i : Int), .int .i64 (i : Int), .bool false, .int .i64 ((i : Int) + 1), .bool false, .int .i64 ((i : Int) + 2), .bool false, .int .i64 ((i : Int) + 3), .bool false, .int .i64 ((i : Int) + 4), .bool false, .int .i64 ((i : Int) + 5), .bool false] : Array Value).toList] (some ⟨wr.drew.heap.size, 0, none⟩) 1 1 (fun _ => True) (fun _ => False) rfl rfl ?aO ?aR (fun _ _ h => h) (fun _ h => h.elim) (fun _ _ => trivial) ?aB ?aS ?aL ?_
    (case aO => exact Kd.R_alloc (Kd.R_drew (Kd.R_mono HR.out (fun _ _ => trivial))) _)
    (case aR => exact hex_one (blk_new _ _) rfl (hexC_one (i : Int) false 6))
    (case aB => exact below_alloc (below_drew HB.out) _)
    (case aS => exact (below_alloc (below_drew HB.out) _).size)
    (case aL => have := hexTo_len i; show ((hexTo i).length + 1) * 104 ≤ 140737488355328; omega)
    intro v47 w8 ho hb hg hat
    have HO8 := Aside0.mk ho
    have HB8 := Aside0.mk hb
    have HG8 := Aside0.mk (blk_grown (blk_alloc (blk_drew HG.out) _) hg (Kd.R_ne HR.out HG.out (by decide)))
    clear ho hb hg hat
    refine hK.out _ _ ?_
    clear hK K
    refine norm_ (a' := ?_) ?_ ?_
    rotate_left
    ·
     show Act.put _ (some 47) _ = _
     simp only [Act.put, List.setIfInBounds_toArray, List.set_cons_zero, List.set_cons_succ, i64_w, i32_w]
     rfl
    refine pure_ (i := 8) (N := some 48) (v := ?_) (a' := ?_) (rowB 11 511) rfl rfl (by kernel_rfl) (fun _ _ _ h => h) (Or.inl ⟨by rfl, ?_⟩) ?_ ?_
    rotate_left
    ·
     intro w'
     go_simp
     with_reducible rfl
    rotate_left
    ·
     simp only [Act.put, List.setIfInBounds_toArray, List.set_cons_zero, List.set_cons_succ, i64_w, i32_w]
     rfl
    refine pure_ (i := 9) (N := some 49) (v := ?_) (a' := ?_) (rowB 11 1023) rfl rfl (by kernel_rfl) (fun _ _ _ h => h) (Or.inl ⟨by rfl, ?_⟩) ?_ ?_
    rotate_left
    ·
     intro w'
     go_simp
     with_reducible rfl
    rotate_left
    ·
     simp only [Act.put, List.setIfInBounds_toArray, List.set_cons_zero, List.set_cons_succ, i64_w, i32_w]
     rfl
    refine last_ (i := 10) (N := none) (rowB 11 2047) rfl rfl (by kernel_rfl) (by decide) (fun K hK => ?_)
    refine box_store_step (by rfl) rfl 47 (.tmp 49) (.tmp 47) rfl (g := g) (off := 0) (new := #[v47]) v47 [v47] HG8.out rfl rfl (by obtain ⟨_, _, rfl⟩ := Kd.R_slice HO8.out; rfl) (by kernel_rfl) (by obtain ⟨_, _, rfl⟩ := Kd.R_slice HO8.out; simp [Value.oneCell']) (Nat.le_of_ble_eq_true rfl) rfl ?_
    intro w9 hh9 hg9 hz9
    have HG9 := Aside0.mk hh9
    have HB9 := Aside0.mk (below_grown HB8.out hg9 GE.out HB8.out.size)
    have HO9 := Aside0.mk (Kd.R_mono (Kd.R_grown (Kd.R_types HO8.out HG8.out (by intro q hq; have hq2 : q = 52 := List.mem_singleton.1 hq; rw [hq2]; decide)) hg9 (fun k hk h => hk.2 (Option.some.inj h))) (fun _ hk => hk.1))
    clear hh9 hg9 hz9
    refine hK.out _ _ ?_
    clear hK K
    refine done_ (by kernel_rfl) ?_
    go_wp2
    go_roundg (16 - (i + 1))
    case measure => exact NX.out.1
    case rel => exact ⟨i + 1, v47, by simp, ⟨rfl, NX.out.2⟩, HG9, ⟨by rw [HTO.out, HF.out]; exact HO9.out⟩, HB9⟩
  ·
   have hkb : kindB (i : Int) = ⟨#[115, 111, 102, 116]⟩ := by unfold kindB; rw [if_neg (by omega), if_neg (by omega), if_pos hk]
   rw [hkb] at hcon
   clear hkb
   have hf : decide ((i : Int) % 7 = 6) = true := by rw [hk]; rfl
   have HF : Aside0 (hexL (i : Int) = (hexC (i : Int) true 6).toList) := ⟨by unfold hexL; rw [hf]⟩
   clear hf
   have m0 : Int.tmod ((i : Int) + 0) 7 = 6 := by rw [Int.tmod_eq_emod_of_nonneg (by omega)]; omega
   have m1 : Int.tmod ((i : Int) + 1) 7 = 0 := by rw [Int.tmod_eq_emod_of_nonneg (by omega)]; omega
   have m2 : Int.tmod ((i : Int) + 2) 7 = 1 := by rw [Int.tmod_eq_emod_of_nonneg (by omega)]; omega
   have m3 : Int.tmod ((i : Int) + 3) 7 = 2 := by rw [Int.tmod_eq_emod_of_nonneg (by omega)]; omega
   have m4 : Int.tmod ((i : Int) + 4) 7 = 3 := by rw [Int.tmod_eq_emod_of_nonneg (by omega)]; omega
   have m5 : Int.tmod ((i : Int) + 5) 7 = 4 := by rw [Int.tmod_eq_emod_of_nonneg (by omega)]; omega
   rw [Int.add_zero] at m0
   have w6 : IntKind.i64.wrap ((i : Int) + 1) = (i : Int) + 1 := by rw [Go.IntKind.wrap_i64]; omega
   have w7 : IntKind.i64.wrap ((i : Int) + 2) = (i : Int) + 2 := by rw [Go.IntKind.wrap_i64]; omega
   have w8 : IntKind.i64.wrap ((i : Int) + 3) = (i : Int) + 3 := by rw [Go.IntKind.wrap_i64]; omega
   have w9 : IntKind.i64.wrap ((i : Int) + 4) = (i : Int) + 4 := by rw [Go.IntKind.wrap_i64]; omega
   have w10 : IntKind.i64.wrap ((i : Int) + 5) = (i : Int) + 5 := by rw [Go.IntKind.wrap_i64]; omega
   have w5 : IntKind.i64.wrap (i : Int) = (i : Int) := by rw [Go.IntKind.wrap_i64]; omega
   clear hk hi
   go_wp2_with (first
    | (go_at_call 35; refine (hcon _ (HT.out.below HB.out)).mono ?_; rintro e wk ⟨rfl, rfl⟩)
    | ((with_reducible refine gate_dst (N := 4) rfl ?_); refine box_event ?hg (N := 4) ?hd (cs := #[.int .i64 0, .int .i64 0, .bool false, .int .i64 0, .bool false, .int .i64 0, .bool false, .int .i64 0, .bool false, .int .i64 0, .bool false, .int .i64 0, .bool false]) (t := 52) ?hr ?_; (case hd => rfl); (case hg => rfl); (case hr => first | (go_simp; done) | (go_simp; rfl)); intro gh hg w2 hbox hb; have HH := Aside0.mk hbox; have HB2 := Aside0.mk (below_step HB.out hb); have HG2 := Aside0.mk (blk_below HG.out hb); have GH : Aside0 (w.heap.size ≤ gh) := ⟨by rw [hg]; exact HB.out.size⟩; have HR2 : Aside0 ((Kd.raw 13).R 52 w2 w.heap.size (fun k => k < gh) v (hexTo i)) := ⟨Kd.R_mono (Kd.R_below (Kd.R_bound HR.out) hb) (fun k hk => by have := hk.2.2.1; omega)⟩; have hlt := blk_lt HG.out; have HNE : Aside0 (g ≠ gh) := ⟨by omega⟩; clear hb hbox hg hlt)
    | ((with_reducible refine gate_ (.store 52 (.tmp 4) (.tmp 20)) rfl ?_); (refine box_store rfl rfl 52 (.tmp 4) (.tmp 20) rfl (g := gh) (off := 0) (new := hexC (i : Int) true 0) _ (hexC (i : Int) true 0).toList HH.out rfl rfl rfl (by kernel_rfl) (hexC_one _ _ _) (Nat.le_refl 13) rfl ?_); intro w3 hh3 hg3 hz3; have HH3 := Aside0.mk hh3; have HB3 := Aside0.mk (below_grown HB2.out hg3 GH.out HB2.out.size); have HG3 := Aside0.mk (blk_grown HG2.out hg3 (fun h => HNE.out (Option.some.inj h))); have HR3 := Aside0.mk (Kd.R_grown HR2.out hg3 (fun k hk h => by injection h with h; omega)); clear hh3 hg3 hz3))
   go_loopg [5, 6, 21] 6 (fun kq v5 v6 v21 w' => ∃ j : Int, v21 = .int .i64 j ∧ Aside0 (kq = 6 - j.toNat ∧ 0 ≤ j ∧ j ≤ 6) ∧ Aside0 (w'.heap[gh]? = some (.cells (hexC (i : Int) true j.toNat) 52 (0, 0))) ∧ Aside0 (w'.heap[g]? = some (.cells #[v] 49 (0, 0))) ∧ Aside0 ((Kd.raw 13).R 52 w' w.heap.size (fun k => k < gh) v (hexTo i)) ∧ Aside0 (Below w.heap.size w w'))
   case atStart => exact ⟨0, rfl, ⟨by decide⟩, HH3, HG3, HR3, HB3⟩
   case round =>
    clear HH HG HR HB HH3 HG2 HR2 HB2 HG3 HR3 HB3 hcon p1 p2 d1
    obtain ⟨j, rfl, HX, HH, HG, HR, HB⟩ := hrel
    obtain ⟨hkq, hj0, hj6⟩ := HX.out
    clear HX
    by_cases hj : j = 6
    rotate_left
    ·
     have hjj : j = 0 ∨ j = 1 ∨ j = 2 ∨ j = 3 ∨ j = 4 ∨ j = 5 := by omega
     clear hj0 hj6 hj
     rcases hjj with rfl | rfl | rfl | rfl | rfl | rfl
     ·
      have NJ : Aside0 (5 - 0 < gk) := ⟨by simp at hkq; omega⟩
      clear hkq
      go_wp2_with (first
       | ((with_reducible refine gate_ (.store 29 (.tmp 38) (.tmp 36)) rfl ?_); (refine box_store rfl rfl 29 (.tmp 38) (.tmp 36) rfl (g := gh) (off := 1) (new := hexC (i : Int) true 1) _ [.int .i64 (i : Int), .bool false] HH.out rfl rfl rfl (by kernel_rfl) (by simp [Value.oneCell']) (Nat.le_of_ble_eq_true rfl) rfl ?_); intro w4 hh4 hg4 hz4; have HH4 := Aside0.mk hh4; have HB4 := Aside0.mk (below_grown HB.out hg4 GH.out HB.out.size); have HG4 := Aside0.mk (blk_grown HG.out hg4 (fun h => HNE.out (Option.some.inj h))); have HR4 := Aside0.mk (Kd.R_grown HR.out hg4 (fun k hk h => by injection h with h; omega)); clear hh4 hg4 hz4))
      go_roundg (5 - 0)
      case measure => exact NJ.out
      case rel => exact ⟨1, by simp, ⟨by decide⟩, HH4, HG4, HR4, HB4⟩
     ·
      have NJ : Aside0 (5 - 1 < gk) := ⟨by simp at hkq; omega⟩
      clear hkq
      go_wp2_with (first
       | ((with_reducible refine gate_ (.store 29 (.tmp 38) (.tmp 36)) rfl ?_); (refine box_store rfl rfl 29 (.tmp 38) (.tmp 36) rfl (g := gh) (off := 3) (new := hexC (i : Int) true 2) _ [.int .i64 ((i : Int) + 1), .bool false] HH.out rfl rfl rfl (by kernel_rfl) (by simp [Value.oneCell']) (Nat.le_of_ble_eq_true rfl) rfl ?_); intro w4 hh4 hg4 hz4; have HH4 := Aside0.mk hh4; have HB4 := Aside0.mk (below_grown HB.out hg4 GH.out HB.out.size); have HG4 := Aside0.mk (blk_grown HG.out hg4 (fun h => HNE.out (Option.some.inj h))); have HR4 := Aside0.mk (Kd.R_grown HR.out hg4 (fun k hk h => by injection h with h; omega)); clear hh4 hg4 hz4))
      go_roundg (5 - 1)
      case measure => exact NJ.out
      case rel => exact ⟨2, by simp, ⟨by decide⟩, HH4, HG4, HR4, HB4⟩
     ·
      have NJ : Aside0 (5 - 2 < gk) := ⟨by simp at hkq; omega⟩
      clear hkq
      go_wp2_with (first
       | ((with_reducible refine gate_ (.store 29 (.tmp 38) (.tmp 36)) rfl ?_); (refine box_store rfl rfl 29 (.tmp 38) (.tmp 36) rfl (g := gh) (off := 5) (new := hexC (i : Int) true 3) _ [.int .i64 ((i : Int) + 2), .bool false] HH.out rfl rfl rfl (by kernel_rfl) (by simp [Value.oneCell']) (Nat.le_of_ble_eq_true rfl) rfl ?_); intro w4 hh4 hg4 hz4; have HH4 := Aside0.mk hh4; have HB4 := Aside0.mk (below_grown HB.out hg4 GH.out HB.out.size); have HG4 := Aside0.mk (blk_grown HG.out hg4 (fun h => HNE.out (Option.some.inj h))); have HR4 := Aside0.mk (Kd.R_grown HR.out hg4 (fun k hk h => by injection h with h; omega)); clear hh4 hg4 hz4))
      go_roundg (5 - 2)
      case measure => exact NJ.out
      case rel => exact ⟨3, by simp, ⟨by decide⟩, HH4, HG4, HR4, HB4⟩
     ·
      have NJ : Aside0 (5 - 3 < gk) := ⟨by simp at hkq; omega⟩
      clear hkq
      go_wp2_with (first
       | ((with_reducible refine gate_ (.store 29 (.tmp 38) (.tmp 36)) rfl ?_); (refine box_store rfl rfl 29 (.tmp 38) (.tmp 36) rfl (g := gh) (off := 7) (new := hexC (i : Int) true 4) _ [.int .i64 ((i : Int) + 3), .bool true] HH.out rfl rfl rfl (by kernel_rfl) (by simp [Value.oneCell']) (Nat.le_of_ble_eq_true rfl) rfl ?_); intro w4 hh4 hg4 hz4; have HH4 := Aside0.mk hh4; have HB4 := Aside0.mk (below_grown HB.out hg4 GH.out HB.out.size); have HG4 := Aside0.mk (blk_grown HG.out hg4 (fun h => HNE.out (Option.some.inj h))); have HR4 := Aside0.mk (Kd.R_grown HR.out hg4 (fun k hk h => by injection h with h; omega)); clear hh4 hg4 hz4))
      go_roundg (5 - 3)
      case measure => exact NJ.out
      case rel => exact ⟨4, by simp, ⟨by decide⟩, HH4, HG4, HR4, HB4⟩
     ·
      have NJ : Aside0 (5 - 4 < gk) := ⟨by simp at hkq; omega⟩
      clear hkq
      go_wp2_with (first
       | ((with_reducible refine gate_ (.store 29 (.tmp 38) (.tmp 36)) rfl ?_); (refine box_store rfl rfl 29 (.tmp 38) (.tmp 36) rfl (g := gh) (off := 9) (new := hexC (i : Int) true 5) _ [.int .i64 ((i : Int) + 4), .bool false] HH.out rfl rfl rfl (by kernel_rfl) (by simp [Value.oneCell']) (Nat.le_of_ble_eq_true rfl) rfl ?_); intro w4 hh4 hg4 hz4; have HH4 := Aside0.mk hh4; have HB4 := Aside0.mk (below_grown HB.out hg4 GH.out HB.out.size); have HG4 := Aside0.mk (blk_grown HG.out hg4 (fun h => HNE.out (Option.some.inj h))); have HR4 := Aside0.mk (Kd.R_grown HR.out hg4 (fun k hk h => by injection h with h; omega)); clear hh4 hg4 hz4))
      go_roundg (5 - 4)
      case measure => exact NJ.out
      case rel => exact ⟨5, by simp, ⟨by decide⟩, HH4, HG4, HR4, HB4⟩
     ·
      have NJ : Aside0 (5 - 5 < gk) := ⟨by simp at hkq; omega⟩
      clear hkq
      go_wp2_with (first
       | ((with_reducible refine gate_ (.store 29 (.tmp 38) (.tmp 36)) rfl ?_); (refine box_store rfl rfl 29 (.tmp 38) (.tmp 36) rfl (g := gh) (off := 11) (new := hexC (i : Int) true 6) _ [.int .i64 ((i : Int) + 5), .bool false] HH.out rfl rfl rfl (by kernel_rfl) (by simp [Value.oneCell']) (Nat.le_of_ble_eq_true rfl) rfl ?_); intro w4 hh4 hg4 hz4; have HH4 := Aside0.mk hh4; have HB4 := Aside0.mk (below_grown HB.out hg4 GH.out HB.out.size); have HG4 := Aside0.mk (blk_grown HG.out hg4 (fun h => HNE.out (Option.some.inj h))); have HR4 := Aside0.mk (Kd.R_grown HR.out hg4 (fun k hk h => by injection h with h; omega)); clear hh4 hg4 hz4))
      go_roundg (5 - 5)
      case measure => exact NJ.out
      case rel => exact ⟨6, by simp, ⟨by decide⟩, HH4, HG4, HR4, HB4⟩
    subst hj
    have hhx : wr.heap[gh]? = some (.cells (#[.int .i64 (i : Int), .int .i64 (i : Int), .bool false, .int .i64 ((i : Int) + 1), .bool false, .int .i64 ((i : Int) + 2), .bool false, .int .i64 ((i : Int) + 3), .bool true, .int .i64 ((i : Int) + 4), .bool false, .int .i64 ((i : Int) + 5), .bool false]) 52 (0, 0)) := HH.out
    clear HH
    have HH := Aside0.mk hhx
    clear hhx
    go_upto_region 14 with fail
    have HX0 : Aside0 (wr.cell? ⟨g, 0, none⟩ = some v ∧ wr.cell? ⟨gh, 0, none⟩ = some (.int .i64 (i : Int)) ∧ wr.cell? ⟨gh, 1, none⟩ = some (.int .i64 (i : Int)) ∧ wr.cell? ⟨gh, 2, none⟩ = some (.bool false) ∧ wr.cell? ⟨gh, 3, none⟩ = some (.int .i64 ((i : Int) + 1)) ∧ wr.cell? ⟨gh, 4, none⟩ = some (.bool false) ∧ wr.cell? ⟨gh, 5, none⟩ = some (.int .i64 ((i : Int) + 2)) ∧ wr.cell? ⟨gh, 6, none⟩ = some (.bool false) ∧ wr.cell? ⟨gh, 7, none⟩ = some (.int .i64 ((i : Int) + 3)) ∧ wr.cell? ⟨gh, 8, none⟩ = some (.bool true) ∧ wr.cell? ⟨gh, 9, none⟩ = some (.int .i64 ((i : Int) + 4)) ∧ wr.cell? ⟨gh, 10, none⟩ = some (.bool false) ∧ wr.cell? ⟨gh, 11, none⟩ = some (.int .i64 ((i : Int) + 5)) ∧ wr.cell? ⟨gh, 12, none⟩ = some (.bool false)) := ⟨⟨blk_cell HG.out 0, (blk_cell HH.out 0).trans rfl, (blk_cell HH.out 1).trans rfl, (blk_cell HH.out 2).trans rfl, (blk_cell HH.out 3).trans rfl, (blk_cell HH.out 4).trans rfl, (blk_cell HH.out 5).trans rfl, (blk_cell HH.out 6).trans rfl, (blk_cell HH.out 7).trans rfl, (blk_cell HH.out 8).trans rfl, (blk_cell HH.out 9).trans rfl, (blk_cell HH.out 10).trans rfl, (blk_cell HH.out 11).trans rfl, (blk_cell HH.out 12).trans rfl⟩⟩
    obtain ⟨wd, hwd⟩ : ∃ wd, wd = wr.drew := ⟨_, rfl⟩
    refine start_ (n := 11) (S := (fun w' => w'.cell? ⟨g, 0, none⟩ = some v ∧ w'.cell? ⟨gh, 0, none⟩ = some (.int .i64 (i : Int)) ∧ w'.cell? ⟨gh, 1, none⟩ = some (.int .i64 (i : Int)) ∧ w'.cell? ⟨gh, 2, none⟩ = some (.bool false) ∧ w'.cell? ⟨gh, 3, none⟩ = some (.int .i64 ((i : Int) + 1)) ∧ w'.cell? ⟨gh, 4, none⟩ = some (.bool false) ∧ w'.cell? ⟨gh, 5, none⟩ = some (.int .i64 ((i : Int) + 2)) ∧ w'.cell? ⟨gh, 6, none⟩ = some (.bool false) ∧ w'.cell? ⟨gh, 7, none⟩ = some (.int .i64 ((i : Int) + 3)) ∧ w'.cell? ⟨gh, 8, none⟩ = some (.bool true) ∧ w'.cell? ⟨gh, 9, none⟩ = some (.int .i64 ((i : Int) + 4)) ∧ w'.cell? ⟨gh, 10, none⟩ = some (.bool false) ∧ w'.cell? ⟨gh, 11, none⟩ = some (.int .i64 ((i : Int) + 5)) ∧ w'.cell? ⟨gh, 12, none⟩ = some (.bool false))) (ds := [7, 10]) (rowB 11 0) (by kernel_rfl) rfl rfl ⟨blk_cell (blk_drew HG.out) 0, (blk_cell (blk_drew HH.out) 0).trans rfl, (blk_cell (blk_drew HH.out) 1).trans rfl, (blk_cell (blk_drew HH.out) 2).trans rfl, (blk_cell (blk_drew HH.out) 3).trans rfl, (blk_cell (blk_drew HH.out) 4).trans rfl, (blk_cell (blk_drew HH.out) 5).trans rfl, (blk_cell (blk_drew HH.out) 6).trans rfl, (blk_cell (blk_drew HH.out) 7).trans rfl, (blk_cell (blk_drew HH.out) 8).trans rfl, (blk_cell (blk_drew HH.out) 9).trans rfl, (blk_cell (blk_drew HH.out) 10).trans rfl, (blk_cell (blk_drew HH.out) 11).trans rfl, (blk_cell (blk_drew HH.out) 12).trans rfl⟩ (fun hHeld => ?_)
    refine pure_ (i := 0) (N := some 40) (v := ?_) (a' := ?_) (rowB 11 1) rfl rfl (by kernel_rfl) (fun _ _ _ h => h) (Or.inl ⟨by rfl, ?_⟩) ?_ ?_
    rotate_left
    ·
     intro w'
     go_simp
     with_reducible rfl
    rotate_left
    ·
     simp only [Act.put, List.setIfInBounds_toArray, List.set_cons_zero, List.set_cons_succ, i64_w, i32_w]
     rfl
    refine pure_ (i := 1) (N := some 41) (v := ?_) (a' := ?_) (rowB 11 3) rfl rfl (by kernel_rfl) (fun _ _ _ h => h) (Or.inl ⟨by rfl, ?_⟩) ?_ ?_
    rotate_left
    ·
     intro w'
     go_simp
     with_reducible rfl
    rotate_left
    ·
     simp only [Act.put, List.setIfInBounds_toArray, List.set_cons_zero, List.set_cons_succ, i64_w, i32_w]
     rfl
    refine pure_ (i := 2) (N := some 42) (v := ?_) (a' := ?_) (rowB 11 7) rfl rfl (by kernel_rfl) (fun _ _ _ h => h) (Or.inl ⟨by rfl, ?_⟩) ?_ ?_
    rotate_left
    ·
     intro w'
     go_simp
     with_reducible rfl
    rotate_left
    ·
     simp only [Act.put, List.setIfInBounds_toArray, List.set_cons_zero, List.set_cons_succ, i64_w, i32_w]
     rfl
    refine pure_ (i := 3) (N := some 43) (v := ?_) (a' := ?_) (rowB 11 15) rfl rfl (by kernel_rfl) (fun _ _ _ h => h) (Or.inl ⟨by rfl, ?_⟩) ?_ ?_
    rotate_left
    ·
     intro w'
     go_simp
     with_reducible rfl
    rotate_left
    ·
     simp only [Act.put, List.setIfInBounds_toArray, List.set_cons_zero, List.set_cons_succ, i64_w, i32_w]
     rfl
    refine take_ (i := 4) (N := some 44) (v := ?_) (a' := ?_) (rowB 11 31) rfl rfl (by kernel_rfl) (fun _ _ _ h => h) (Or.inl ⟨by rfl, ?_⟩) hHeld ?_ ?_
    rotate_left
    ·
     rintro w' ⟨s0, s1, s2, s3, s4, s5, s6, s7, s8, s9, s10, s11, s12, s13⟩
     go_simp
     with_reducible rfl
    rotate_left
    ·
     simp only [Act.put, List.setIfInBounds_toArray, List.set_cons_zero, List.set_cons_succ, i64_w, i32_w]
     rfl
    refine take_ (i := 5) (N := some 45) (v := ?_) (a' := ?_) (rowB 11 63) rfl rfl (by kernel_rfl) (fun _ _ _ h => h) (Or.inl ⟨by rfl, ?_⟩) hHeld ?_ ?_
    rotate_left
    ·
     rintro w' ⟨s0, s1, s2, s3, s4, s5, s6, s7, s8, s9, s10, s11, s12, s13⟩
     go_simp
     with_reducible rfl
    rotate_left
    ·
     simp only [Act.put, List.setIfInBounds_toArray, List.set_cons_zero, List.set_cons_succ, i64_w, i32_w]
     rfl
    refine one_ (i := 6) (N := some 46) (rowB 11 127) rfl rfl (by kernel_rfl) (by decide) (fun K hK => ?_)
    refine event_step (w1 := ?_) (v := ?_) (by rfl) ?_ ?_
    rotate_left 2
    ·
     go_simp
     constructor
     ·
      rfl
     ·
      rfl
    refine hK.out _ _ (by have hb := below_alloc (Below.refl wr.drew.heap.size wr.drew) (.cells (#[.int .i64 (i : Int), .int .i64 (i : Int), .bool false, .int .i64 ((i : Int) + 1), .bool false, .int .i64 ((i : Int) + 2), .bool false, .int .i64 ((i : Int) + 3), .bool true, .int .i64 ((i : Int) + 4), .bool false, .int .i64 ((i : Int) + 5), .bool false]) 52 (0, 0)); exact ⟨blk_cell (blk_below (blk_drew HG.out) hb) 0, (blk_cell (blk_below (blk_drew HH.out) hb) 0).trans rfl, (blk_cell (blk_below (blk_drew HH.out) hb) 1).trans rfl, (blk_cell (blk_below (blk_drew HH.out) hb) 2).trans rfl, (blk_cell (blk_below (blk_drew HH.out) hb) 3).trans rfl, (blk_cell (blk_below (blk_drew HH.out) hb) 4).trans rfl, (blk_cell (blk_below (blk_drew HH.out) hb) 5).trans rfl, (blk_cell (blk_below (blk_drew HH.out) hb) 6).trans rfl, (blk_cell (blk_below (blk_drew HH.out) hb) 7).trans rfl, (blk_cell (blk_below (blk_drew HH.out) hb) 8).trans rfl, (blk_cell (blk_below (blk_drew HH.out) hb) 9).trans rfl, (blk_cell (blk_below (blk_drew HH.out) hb) 10).trans rfl, (blk_cell (blk_below (blk_drew HH.out) hb) 11).trans rfl, (blk_cell (blk_below (blk_drew HH.out) hb) 12).trans rfl⟩) (fun hHeld => ?_)
    clear hK K
    refine norm_ (a' := ?_) ?_ ?_
    rotate_left
    ·
     show Act.put _ (some 46) _ = _
     simp only [Act.put, List.setIfInBounds_toArray, List.set_cons_zero, List.set_cons_succ, i64_w, i32_w]
     rfl
    refine last_ (i := 7) (N := some 47) (rowB 11 255) rfl rfl (by kernel_rfl) (by decide) (fun K hK => ?_)
    refine Kd.R_append_rows_step (Kd.raw 13) (w0 := w) w.heap.size (by rfl) (.tmp 44) (.tmp 46) 47 52 _ 104 rfl Tryd.underlying47 infoHex rfl (by decide) (by omega) v (hexTo i) [(#[.int .i64 (i : Int), .int .i64 (i : Int), .bool false, .int .i64 ((i : Int) + 1), .bool false, .int .i64 ((i : Int) + 2), .bool false, .int .i64 ((i : Int) + 3), .bool true, .int .i64 ((i : Int) + 4), .bool false, .int .i64 ((i : Int) + 5), .bool false] : Array Value).toList] (some ⟨wr.drew.heap.size, 0, none⟩) 1 1 (fun _ => True) (fun _ => False) rfl rfl ?aO ?aR (fun _ _ h => h) (fun _ h => h.elim) (fun _ _ => trivial) ?aB ?aS ?aL ?_
    (case aO => exact Kd.R_alloc (Kd.R_drew (Kd.R_mono HR.out (fun _ _ => trivial))) _)
    (case aR => exact hex_one (blk_new _ _) rfl (hexC_one (i : Int) true 6))
    (case aB => exact below_alloc (below_drew HB.out) _)
    (case aS => exact (below_alloc (below_drew HB.out) _).size)
    (case aL => have := hexTo_len i; show ((hexTo i).length + 1) * 104 ≤ 140737488355328; omega)
    intro v47 w8 ho hb hg hat
    have HO8 := Aside0.mk ho
    have HB8 := Aside0.mk hb
    have HG8 := Aside0.mk (blk_grown (blk_alloc (blk_drew HG.out) _) hg (Kd.R_ne HR.out HG.out (by decide)))
    clear ho hb hg hat
    refine hK.out _ _ ?_
    clear hK K
    refine norm_ (a' := ?_) ?_ ?_
    rotate_left
    ·
     show Act.put _ (some 47) _ = _
     simp only [Act.put, List.setIfInBounds_toArray, List.set_cons_zero, List.set_cons_succ, i64_w, i32_w]
     rfl
    refine pure_ (i := 8) (N := some 48) (v := ?_) (a' := ?_) (rowB 11 511) rfl rfl (by kernel_rfl) (fun _ _ _ h => h) (Or.inl ⟨by rfl, ?_⟩) ?_ ?_
    rotate_left
    ·
     intro w'
     go_simp
     with_reducible rfl
    rotate_left
    ·
     simp only [Act.put, List.setIfInBounds_toArray, List.set_cons_zero, List.set_cons_succ, i64_w, i32_w]
     rfl
    refine pure_ (i := 9) (N := some 49) (v := ?_) (a' := ?_) (rowB 11 1023) rfl rfl (by kernel_rfl) (fun _ _ _ h => h) (Or.inl ⟨by rfl, ?_⟩) ?_ ?_
    rotate_left
    ·
     intro w'
     go_simp
     with_reducible rfl
    rotate_left
    ·
     simp only [Act.put, List.setIfInBounds_toArray, List.set_cons_zero, List.set_cons_succ, i64_w, i32_w]
     rfl
    refine last_ (i := 10) (N := none) (rowB 11 2047) rfl rfl (by kernel_rfl) (by decide) (fun K hK => ?_)
    refine box_store_step (by rfl) rfl 47 (.tmp 49) (.tmp 47) rfl (g := g) (off := 0) (new := #[v47]) v47 [v47] HG8.out rfl rfl (by obtain ⟨_, _, rfl⟩ := Kd.R_slice HO8.out; rfl) (by kernel_rfl) (by obtain ⟨_, _, rfl⟩ := Kd.R_slice HO8.out; simp [Value.oneCell']) (Nat.le_of_ble_eq_true rfl) rfl ?_
    intro w9 hh9 hg9 hz9
    have HG9 := Aside0.mk hh9
    have HB9 := Aside0.mk (below_grown HB8.out hg9 GE.out HB8.out.size)
    have HO9 := Aside0.mk (Kd.R_mono (Kd.R_grown (Kd.R_types HO8.out HG8.out (by intro q hq; have hq2 : q = 52 := List.mem_singleton.1 hq; rw [hq2]; decide)) hg9 (fun k hk h => hk.2 (Option.some.inj h))) (fun _ hk => hk.1))
    clear hh9 hg9 hz9
    refine hK.out _ _ ?_
    clear hK K
    refine done_ (by kernel_rfl) ?_
    go_wp2
    go_roundg (16 - (i + 1))
    case measure => exact NX.out.1
    case rel => exact ⟨i + 1, v47, by simp, ⟨rfl, NX.out.2⟩, HG9, ⟨by rw [HTO.out, HF.out]; exact HO9.out⟩, HB9⟩

end Go.Proofs.YtiagfjbngpbejaaDoor.Pure
namespace Go.Proofs.YtiagfjbngpbejaaDoor.PFnSingMany
open Go.RowKit Go.Proofs.YtiagfjbngpbejaaDoorW.PrintWords Go.Proofs.YtiagfjbngpbejaaDoorW.PrintLast Go.Proofs.YtiagfjbngpbejaaDoorW.PrintMore
attribute [local go_sem] max2_int min2_int max_two min_two max_three min_three max_four min_four   -- for this text's walks alone
set_option linter.unusedVariables false
set_option linter.unusedSimpArgs false

theorem eqA29 (d : Nat) (w : World) (x0 y0 : Int) (x1 y1 : Bool) :
 (Op.equalIn (d + 2) 29 (.agg #[.int .i64 x0, .bool x1]) (.agg #[.int .i64 y0, .bool y1])).run Tryd.prog w = .ok (x0 == y0 && (x1 == y1)) w := by
 refine eqA_of Tryd.underlying29 (by kernel_rfl) ?_; refine eqf_cons (by rfl) (by go_simp; rfl) (by go_simp; rfl) (by go_simp) ?_; exact eqf_last (by rfl) (by go_simp; rfl) (by go_simp; rfl) (by go_simp)
end Go.Proofs.YtiagfjbngpbejaaDoor.PFnSingMany
namespace Go.Proofs.YtiagfjbngpbejaaDoor.Pure
set_option linter.unusedVariables false
set_option linter.unusedSimpArgs false
open Go Go.RowKit Go.Proofs.YtiagfjbngpbejaaDoor.PFnSingMany Go.Proofs.YtiagfjbngpbejaaDoorW.PrintWords Go.Proofs.YtiagfjbngpbejaaDoorW.PrintLast Go.Proofs.YtiagfjbngpbejaaDoorW.PrintMore

def sylJ (s : Int) (t : S29) (j : Int) : Bool := ((s + j) == t.f0) && ((decide (j = 3) && decide (s % 7 = 6)) == t.f1)
def hexSyl (s : Int) (t : S29) : Int := if sylJ s t 0 = true then 0 else if sylJ s t 1 = true then 1 else if sylJ s t 2 = true then 2 else if sylJ s t 3 = true then 3 else if sylJ s t 4 = true then 4 else if sylJ s t 5 = true then 5 else -1
set_option maxHeartbeats 40000000 in
set_option maxRecDepth 100000 in
theorem impl_syllable_calls (s : Int) (t : S29) (b off : Nat) (w : World) (hs : 0 ≤ s ∧ s ≤ 20) (hc : ∀ k u, (hexL s)[k]? = some u → w.cell? ⟨b, off + k, none⟩ = some u) :
 Calls Tryd.prog 24 #[.pointer (some ⟨b, off, none⟩), .agg #[.int .i64 t.f0, .bool t.f1]] w fun e w' => e = .returned (.int .i64 (hexSyl s t)) ∧ Below w.heap.size w w' := by
 obtain ⟨f, hf⟩ : ∃ f, f = decide (s % 7 = 6) := ⟨_, rfl⟩
 have hL : hexL s = [.int .i64 s, .int .i64 s, .bool false, .int .i64 (s + 1), .bool false, .int .i64 (s + 2), .bool false, .int .i64 (s + 3), .bool f, .int .i64 (s + 4), .bool false, .int .i64 (s + 5), .bool false] := by unfold hexL; rw [← hf]; cases f <;> rfl
 rw [hL] at hc
 have c1 : w.cell? ⟨b, off + 1, none⟩ = some (.int .i64 s) := hc 1 _ rfl
 have c2 : w.cell? ⟨b, off + 2, none⟩ = some (.bool false) := hc 2 _ rfl
 have c3 : w.cell? ⟨b, off + 3, none⟩ = some (.int .i64 (s + 1)) := hc 3 _ rfl
 have c4 : w.cell? ⟨b, off + 4, none⟩ = some (.bool false) := hc 4 _ rfl
 have c5 : w.cell? ⟨b, off + 5, none⟩ = some (.int .i64 (s + 2)) := hc 5 _ rfl
 have c6 : w.cell? ⟨b, off + 6, none⟩ = some (.bool false) := hc 6 _ rfl
 have c7 : w.cell? ⟨b, off + 7, none⟩ = some (.int .i64 (s + 3)) := hc 7 _ rfl
 have c8 : w.cell? ⟨b, off + 8, none⟩ = some (.bool f) := hc 8 _ rfl
 have c9 : w.cell? ⟨b, off + 9, none⟩ = some (.int .i64 (s + 4)) := hc 9 _ rfl
 have c10 : w.cell? ⟨b, off + 10, none⟩ = some (.bool false) := hc 10 _ rfl
 have c11 : w.cell? ⟨b, off + 11, none⟩ = some (.int .i64 (s + 5)) := hc 11 _ rfl
 have c12 : w.cell? ⟨b, off + 12, none⟩ = some (.bool false) := hc 12 _ rfl
 have hsyl : ∀ j, sylJ s t j = ((s + j == t.f0) && ((decide (j = 3) && f) == t.f1)) := fun j => by unfold sylJ; rw [hf]
 obtain ⟨b0, hb0⟩ : ∃ x, x = (s == t.f0 && (false == t.f1)) := ⟨_, rfl⟩
 have hs0 : sylJ s t 0 = b0 := by rw [hsyl, hb0]; simp
 obtain ⟨b1, hb1⟩ : ∃ x, x = (s + 1 == t.f0 && (false == t.f1)) := ⟨_, rfl⟩
 have hs1 : sylJ s t 1 = b1 := by rw [hsyl, hb1]; simp
 obtain ⟨b2, hb2⟩ : ∃ x, x = (s + 2 == t.f0 && (false == t.f1)) := ⟨_, rfl⟩
 have hs2 : sylJ s t 2 = b2 := by rw [hsyl, hb2]; simp
 obtain ⟨b3, hb3⟩ : ∃ x, x = (s + 3 == t.f0 && (f == t.f1)) := ⟨_, rfl⟩
 have hs3 : sylJ s t 3 = b3 := by rw [hsyl, hb3]; simp
 obtain ⟨b4, hb4⟩ : ∃ x, x = (s + 4 == t.f0 && (false == t.f1)) := ⟨_, rfl⟩
 have hs4 : sylJ s t 4 = b4 := by rw [hsyl, hb4]; simp
 obtain ⟨b5, hb5⟩ : ∃ x, x = (s + 5 == t.f0 && (false == t.f1)) := ⟨_, rfl⟩
 have hs5 : sylJ s t 5 = b5 := by rw [hsyl, hb5]; simp
 have hres : hexSyl s t = if b0 = true then 0 else if b1 = true then 1 else if b2 = true then 2 else if b3 = true then 3 else if b4 = true then 4 else if b5 = true then 5 else -1 := by unfold hexSyl; rw [hs0, hs1, hs2, hs3, hs4, hs5]
 rw [hres]
 obtain ⟨r, hr⟩ : ∃ r : Int, r = (if b0 = true then 0 else if b1 = true then 1 else if b2 = true then 2 else if b3 = true then 3 else if b4 = true then 4 else if b5 = true then 5 else -1) := ⟨_, rfl⟩
 rw [← hr]
 have hE0 : ∀ d W, (Op.equalIn (d + 2) 29 (.agg #[.int .i64 s, .bool false]) (.agg #[.int .i64 t.f0, .bool t.f1])).run Tryd.prog W = .ok b0 W := fun d W => by rw [hb0]; exact eqA29 d W _ _ _ _
 have hE1 : ∀ d W, (Op.equalIn (d + 2) 29 (.agg #[.int .i64 (s + 1), .bool false]) (.agg #[.int .i64 t.f0, .bool t.f1])).run Tryd.prog W = .ok b1 W := fun d W => by rw [hb1]; exact eqA29 d W _ _ _ _
 have hE2 : ∀ d W, (Op.equalIn (d + 2) 29 (.agg #[.int .i64 (s + 2), .bool false]) (.agg #[.int .i64 t.f0, .bool t.f1])).run Tryd.prog W = .ok b2 W := fun d W => by rw [hb2]; exact eqA29 d W _ _ _ _
 have hE3 : ∀ d W, (Op.equalIn (d + 2) 29 (.agg #[.int .i64 (s + 3), .bool f]) (.agg #[.int .i64 t.f0, .bool t.f1])).run Tryd.prog W = .ok b3 W := fun d W => by rw [hb3]; exact eqA29 d W _ _ _ _
 have hE4 : ∀ d W, (Op.equalIn (d + 2) 29 (.agg #[.int .i64 (s + 4), .bool false]) (.agg #[.int .i64 t.f0, .bool t.f1])).run Tryd.prog W = .ok b4 W := fun d W => by rw [hb4]; exact eqA29 d W _ _ _ _
 have hE5 : ∀ d W, (Op.equalIn (d + 2) 29 (.agg #[.int .i64 (s + 5), .bool false]) (.agg #[.int .i64 t.f0, .bool t.f1])).run Tryd.prog W = .ok b5 W := fun d W => by rw [hb5]; exact eqA29 d W _ _ _ _
 have HS := Aside0.mk (And.intro hs0 (And.intro hs1 (And.intro hs2 (And.intro hs3 (And.intro hs4 hs5)))))
 have HBB := Aside0.mk (And.intro hb0 (And.intro hb1 (And.intro hb2 (And.intro hb3 (And.intro hb4 hb5)))))
 clear hc hL hsyl hres hf hs hs0 hs1 hs2 hs3 hs4 hs5 hb0 hb1 hb2 hb3 hb4 hb5
 obtain ⟨ag, hag⟩ : ∃ ag : Value, ag = .agg #[.int .i64 s, .bool false, .int .i64 (s + 1), .bool false, .int .i64 (s + 2), .bool false, .int .i64 (s + 3), .bool f, .int .i64 (s + 4), .bool false, .int .i64 (s + 5), .bool false] := ⟨_, rfl⟩
 have ix0 : ∀ W, (Instr.index 50 ag (.int .i64 0)).run Tryd.prog W = .ok (.agg #[.int .i64 s, .bool false]) W := fun W => by rw [hag]; rfl
 have ix1 : ∀ W, (Instr.index 50 ag (.int .i64 1)).run Tryd.prog W = .ok (.agg #[.int .i64 (s + 1), .bool false]) W := fun W => by rw [hag]; rfl
 have ix2 : ∀ W, (Instr.index 50 ag (.int .i64 2)).run Tryd.prog W = .ok (.agg #[.int .i64 (s + 2), .bool false]) W := fun W => by rw [hag]; rfl
 have ix3 : ∀ W, (Instr.index 50 ag (.int .i64 3)).run Tryd.prog W = .ok (.agg #[.int .i64 (s + 3), .bool f]) W := fun W => by rw [hag]; rfl
 have ix4 : ∀ W, (Instr.index 50 ag (.int .i64 4)).run Tryd.prog W = .ok (.agg #[.int .i64 (s + 4), .bool false]) W := fun W => by rw [hag]; rfl
 have ix5 : ∀ W, (Instr.index 50 ag (.int .i64 5)).run Tryd.prog W = .ok (.agg #[.int .i64 (s + 5), .bool false]) W := fun W => by rw [hag]; rfl
 go_enter Tryd.func24, Tryd.ntmps24
 go_wp2_with (first
  | ((with_reducible refine gate_dst (N := 3) rfl ?_); refine box_event ?hg (N := 3) ?hd (cs := #[.int .i64 t.f0, .bool t.f1]) (t := 29) ?hr ?_; (case hd => rfl); (case hg => rfl); (case hr => first | (go_simp; done) | (go_simp; rfl)); intro g3 hg w1 hbox hb; have HB := Aside0.mk hb; have BK := Aside0.mk hbox; have GE : Aside0 (w.heap.size ≤ g3) := ⟨Nat.le_of_eq hg.symm⟩; replace c1 := pw_cell_below hb c1; replace c2 := pw_cell_below hb c2; replace c3 := pw_cell_below hb c3; replace c4 := pw_cell_below hb c4; replace c5 := pw_cell_below hb c5; replace c6 := pw_cell_below hb c6; replace c7 := pw_cell_below hb c7; replace c8 := pw_cell_below hb c8; replace c9 := pw_cell_below hb c9; replace c10 := pw_cell_below hb c10; replace c11 := pw_cell_below hb c11; replace c12 := pw_cell_below hb c12; clear hb hbox hg))
 rw [← hag]
 clear hag
 go_loopg [5, 6, 11] 6 (fun kq v5 v6 v11 w' => ∃ j : Int, v11 = .int .i64 j ∧ Aside0 (kq = 6 - j.toNat ∧ 0 ≤ j ∧ j ≤ 6) ∧ Aside0 ((j = 0 → r = (if b0 = true then 0 else if b1 = true then 1 else if b2 = true then 2 else if b3 = true then 3 else if b4 = true then 4 else if b5 = true then 5 else -1)) ∧ (j = 1 → r = (if b1 = true then 1 else if b2 = true then 2 else if b3 = true then 3 else if b4 = true then 4 else if b5 = true then 5 else -1)) ∧ (j = 2 → r = (if b2 = true then 2 else if b3 = true then 3 else if b4 = true then 4 else if b5 = true then 5 else -1)) ∧ (j = 3 → r = (if b3 = true then 3 else if b4 = true then 4 else if b5 = true then 5 else -1)) ∧ (j = 4 → r = (if b4 = true then 4 else if b5 = true then 5 else -1)) ∧ (j = 5 → r = (if b5 = true then 5 else -1)) ∧ (j = 6 → r = (-1))) ∧ Aside0 (w'.heap[g3]? = some (.cells #[.int .i64 t.f0, .bool t.f1] 29 (0, 0))) ∧ Aside0 (Below w.heap.size w w'))
 case atStart => exact ⟨0, rfl, ⟨by decide⟩, ⟨fun _ => hr, fun h => absurd h (by decide), fun h => absurd h (by decide), fun h => absurd h (by decide), fun h => absurd h (by decide), fun h => absurd h (by decide), fun h => absurd h (by decide)⟩, BK, HB⟩
 case round =>
  clear BK HB hr
  obtain ⟨j, rfl, HX, HR, BK, HB⟩ := hrel
  obtain ⟨hkq, hj0, hj6⟩ := HX.out
  clear HX
  have hjj : j = 0 ∨ j = 1 ∨ j = 2 ∨ j = 3 ∨ j = 4 ∨ j = 5 ∨ j = 6 := by omega
  clear hj0 hj6
  have hp0 : wr.cell? ⟨g3, 0, none⟩ = some (.int .i64 t.f0) := (blk_cell BK.out 0).trans rfl
  have hp1 : wr.cell? ⟨g3, 1, none⟩ = some (.bool t.f1) := (blk_cell BK.out 1).trans rfl
  rcases hjj with rfl | rfl | rfl | rfl | rfl | rfl | rfl
  ·
   have hR := HR.out.1 rfl
   clear HR
   have NJ : Aside0 (5 - 0 < gk) := ⟨by simp at hkq; omega⟩
   clear hkq
   cases b0
   ·
    go_wp2_with (first
     | ((with_reducible refine gate_dst (N := 6) rfl ?_); refine box_event ?hg (N := 6) ?hd (cs := #[.int .i64 0, .bool false]) (t := 29) ?hr ?_; (case hd => rfl); (case hg => rfl); (case hr => first | (go_simp; done) | (go_simp; rfl)); intro g6 hg w4 hbox hb; have HB4 := Aside0.mk (below_step HB.out hb); have BK4 := Aside0.mk hbox; have BT4 := Aside0.mk (blk_below BK.out hb); have G6 : Aside0 (w.heap.size ≤ g6) := ⟨by rw [hg]; exact HB.out.size⟩; have NE : Aside0 (g3 ≠ g6) := ⟨by have := blk_lt BK.out; omega⟩; clear hb hbox hg hp0 hp1)
     | ((with_reducible refine gate_ (.store 29 (.tmp 6) (.tmp 14)) rfl ?_); refine box_store rfl rfl 29 (.tmp 6) (.tmp 14) rfl (g := g6) (off := 0) (new := #[.int .i64 s, .bool false]) _ [.int .i64 s, .bool false] BK4.out rfl rfl rfl (by kernel_rfl) (by simp [Value.oneCell']) (Nat.le_of_ble_eq_true rfl) rfl ?_; intro w5 hh5 hg5 hz5; have BK5 := Aside0.mk hh5; have HB5 := Aside0.mk (below_grown HB4.out hg5 G6.out HB4.out.size); have BT5 := Aside0.mk (blk_grown BT4.out hg5 (fun h => NE.out (Option.some.inj h))); have hq0 : w5.cell? ⟨g6, 0, none⟩ = some (.int .i64 s) := (blk_cell BK5.out 0).trans rfl; have hq1 : w5.cell? ⟨g6, 1, none⟩ = some (.bool false) := (blk_cell BK5.out 1).trans rfl; have hp0 : w5.cell? ⟨g3, 0, none⟩ = some (.int .i64 t.f0) := (blk_cell BT5.out 0).trans rfl; have hp1 : w5.cell? ⟨g3, 1, none⟩ = some (.bool t.f1) := (blk_cell BT5.out 1).trans rfl; clear hh5 hg5 hz5))
    go_roundg (5 - 0)
    case measure => exact NJ.out
    case rel => exact ⟨1, by simp, ⟨by decide⟩, ⟨fun h => absurd h (by decide), fun _ => by rw [hR]; rfl, fun h => absurd h (by decide), fun h => absurd h (by decide), fun h => absurd h (by decide), fun h => absurd h (by decide), fun h => absurd h (by decide)⟩, BT5, HB5⟩
   ·
    go_wp2_with (first
     | ((with_reducible refine gate_dst (N := 6) rfl ?_); refine box_event ?hg (N := 6) ?hd (cs := #[.int .i64 0, .bool false]) (t := 29) ?hr ?_; (case hd => rfl); (case hg => rfl); (case hr => first | (go_simp; done) | (go_simp; rfl)); intro g6 hg w4 hbox hb; have HB4 := Aside0.mk (below_step HB.out hb); have BK4 := Aside0.mk hbox; have BT4 := Aside0.mk (blk_below BK.out hb); have G6 : Aside0 (w.heap.size ≤ g6) := ⟨by rw [hg]; exact HB.out.size⟩; have NE : Aside0 (g3 ≠ g6) := ⟨by have := blk_lt BK.out; omega⟩; clear hb hbox hg hp0 hp1)
     | ((with_reducible refine gate_ (.store 29 (.tmp 6) (.tmp 14)) rfl ?_); refine box_store rfl rfl 29 (.tmp 6) (.tmp 14) rfl (g := g6) (off := 0) (new := #[.int .i64 s, .bool false]) _ [.int .i64 s, .bool false] BK4.out rfl rfl rfl (by kernel_rfl) (by simp [Value.oneCell']) (Nat.le_of_ble_eq_true rfl) rfl ?_; intro w5 hh5 hg5 hz5; have BK5 := Aside0.mk hh5; have HB5 := Aside0.mk (below_grown HB4.out hg5 G6.out HB4.out.size); have BT5 := Aside0.mk (blk_grown BT4.out hg5 (fun h => NE.out (Option.some.inj h))); have hq0 : w5.cell? ⟨g6, 0, none⟩ = some (.int .i64 s) := (blk_cell BK5.out 0).trans rfl; have hq1 : w5.cell? ⟨g6, 1, none⟩ = some (.bool false) := (blk_cell BK5.out 1).trans rfl; have hp0 : w5.cell? ⟨g3, 0, none⟩ = some (.int .i64 t.f0) := (blk_cell BT5.out 0).trans rfl; have hp1 : w5.cell? ⟨g3, 1, none⟩ = some (.bool t.f1) := (blk_cell BT5.out 1).trans rfl; clear hh5 hg5 hz5))
    go_ret
    exact ⟨by first | rfl | (rw [hR]; rfl), HB5.out⟩
  ·
   have hR := HR.out.2.1 rfl
   clear HR
   have NJ : Aside0 (5 - 1 < gk) := ⟨by simp at hkq; omega⟩
   clear hkq
   cases b1
   ·
    go_wp2_with (first
     | ((with_reducible refine gate_dst (N := 6) rfl ?_); refine box_event ?hg (N := 6) ?hd (cs := #[.int .i64 0, .bool false]) (t := 29) ?hr ?_; (case hd => rfl); (case hg => rfl); (case hr => first | (go_simp; done) | (go_simp; rfl)); intro g6 hg w4 hbox hb; have HB4 := Aside0.mk (below_step HB.out hb); have BK4 := Aside0.mk hbox; have BT4 := Aside0.mk (blk_below BK.out hb); have G6 : Aside0 (w.heap.size ≤ g6) := ⟨by rw [hg]; exact HB.out.size⟩; have NE : Aside0 (g3 ≠ g6) := ⟨by have := blk_lt BK.out; omega⟩; clear hb hbox hg hp0 hp1)
     | ((with_reducible refine gate_ (.store 29 (.tmp 6) (.tmp 14)) rfl ?_); refine box_store rfl rfl 29 (.tmp 6) (.tmp 14) rfl (g := g6) (off := 0) (new := #[.int .i64 (s + 1), .bool false]) _ [.int .i64 (s + 1), .bool false] BK4.out rfl rfl rfl (by kernel_rfl) (by simp [Value.oneCell']) (Nat.le_of_ble_eq_true rfl) rfl ?_; intro w5 hh5 hg5 hz5; have BK5 := Aside0.mk hh5; have HB5 := Aside0.mk (below_grown HB4.out hg5 G6.out HB4.out.size); have BT5 := Aside0.mk (blk_grown BT4.out hg5 (fun h => NE.out (Option.some.inj h))); have hq0 : w5.cell? ⟨g6, 0, none⟩ = some (.int .i64 (s + 1)) := (blk_cell BK5.out 0).trans rfl; have hq1 : w5.cell? ⟨g6, 1, none⟩ = some (.bool false) := (blk_cell BK5.out 1).trans rfl; have hp0 : w5.cell? ⟨g3, 0, none⟩ = some (.int .i64 t.f0) := (blk_cell BT5.out 0).trans rfl; have hp1 : w5.cell? ⟨g3, 1, none⟩ = some (.bool t.f1) := (blk_cell BT5.out 1).trans rfl; clear hh5 hg5 hz5))
    go_roundg (5 - 1)
    case measure => exact NJ.out
    case rel => exact ⟨2, by simp, ⟨by decide⟩, ⟨fun h => absurd h (by decide), fun h => absurd h (by decide), fun _ => by rw [hR]; rfl, fun h => absurd h (by decide), fun h => absurd h (by decide), fun h => absurd h (by decide), fun h => absurd h (by decide)⟩, BT5, HB5⟩
   ·
    go_wp2_with (first
     | ((with_reducible refine gate_dst (N := 6) rfl ?_); refine box_event ?hg (N := 6) ?hd (cs := #[.int .i64 0, .bool false]) (t := 29) ?hr ?_; (case hd => rfl); (case hg => rfl); (case hr => first | (go_simp; done) | (go_simp; rfl)); intro g6 hg w4 hbox hb; have HB4 := Aside0.mk (below_step HB.out hb); have BK4 := Aside0.mk hbox; have BT4 := Aside0.mk (blk_below BK.out hb); have G6 : Aside0 (w.heap.size ≤ g6) := ⟨by rw [hg]; exact HB.out.size⟩; have NE : Aside0 (g3 ≠ g6) := ⟨by have := blk_lt BK.out; omega⟩; clear hb hbox hg hp0 hp1)
     | ((with_reducible refine gate_ (.store 29 (.tmp 6) (.tmp 14)) rfl ?_); refine box_store rfl rfl 29 (.tmp 6) (.tmp 14) rfl (g := g6) (off := 0) (new := #[.int .i64 (s + 1), .bool false]) _ [.int .i64 (s + 1), .bool false] BK4.out rfl rfl rfl (by kernel_rfl) (by simp [Value.oneCell']) (Nat.le_of_ble_eq_true rfl) rfl ?_; intro w5 hh5 hg5 hz5; have BK5 := Aside0.mk hh5; have HB5 := Aside0.mk (below_grown HB4.out hg5 G6.out HB4.out.size); have BT5 := Aside0.mk (blk_grown BT4.out hg5 (fun h => NE.out (Option.some.inj h))); have hq0 : w5.cell? ⟨g6, 0, none⟩ = some (.int .i64 (s + 1)) := (blk_cell BK5.out 0).trans rfl; have hq1 : w5.cell? ⟨g6, 1, none⟩ = some (.bool false) := (blk_cell BK5.out 1).trans rfl; have hp0 : w5.cell? ⟨g3, 0, none⟩ = some (.int .i64 t.f0) := (blk_cell BT5.out 0).trans rfl; have hp1 : w5.cell? ⟨g3, 1, none⟩ = some (.bool t.f1) := (blk_cell BT5.out 1).trans rfl; clear hh5 hg5 hz5))
    go_ret
    exact ⟨by first | rfl | (rw [hR]; rfl), HB5.out⟩
  ·
   have hR := HR.out.2.2.1 rfl
   clear HR
   have NJ : Aside0 (5 - 2 < gk) := ⟨by simp at hkq; omega⟩
   clear hkq
   cases b2
   ·
    go_wp2_with (first
     | ((with_reducible refine gate_dst (N := 6) rfl ?_); refine box_event ?hg (N := 6) ?hd (cs := #[.int .i64 0, .bool false]) (t := 29) ?hr ?_; (case hd => rfl); (case hg => rfl); (case hr => first | (go_simp; done) | (go_simp; rfl)); intro g6 hg w4 hbox hb; have HB4 := Aside0.mk (below_step HB.out hb); have BK4 := Aside0.mk hbox; have BT4 := Aside0.mk (blk_below BK.out hb); have G6 : Aside0 (w.heap.size ≤ g6) := ⟨by rw [hg]; exact HB.out.size⟩; have NE : Aside0 (g3 ≠ g6) := ⟨by have := blk_lt BK.out; omega⟩; clear hb hbox hg hp0 hp1)
     | ((with_reducible refine gate_ (.store 29 (.tmp 6) (.tmp 14)) rfl ?_); refine box_store rfl rfl 29 (.tmp 6) (.tmp 14) rfl (g := g6) (off := 0) (new := #[.int .i64 (s + 2), .bool false]) _ [.int .i64 (s + 2), .bool false] BK4.out rfl rfl rfl (by kernel_rfl) (by simp [Value.oneCell']) (Nat.le_of_ble_eq_true rfl) rfl ?_; intro w5 hh5 hg5 hz5; have BK5 := Aside0.mk hh5; have HB5 := Aside0.mk (below_grown HB4.out hg5 G6.out HB4.out.size); have BT5 := Aside0.mk (blk_grown BT4.out hg5 (fun h => NE.out (Option.some.inj h))); have hq0 : w5.cell? ⟨g6, 0, none⟩ = some (.int .i64 (s + 2)) := (blk_cell BK5.out 0).trans rfl; have hq1 : w5.cell? ⟨g6, 1, none⟩ = some (.bool false) := (blk_cell BK5.out 1).trans rfl; have hp0 : w5.cell? ⟨g3, 0, none⟩ = some (.int .i64 t.f0) := (blk_cell BT5.out 0).trans rfl; have hp1 : w5.cell? ⟨g3, 1, none⟩ = some (.bool t.f1) := (blk_cell BT5.out 1).trans rfl; clear hh5 hg5 hz5))
    go_roundg (5 - 2)
    case measure => exact NJ.out
    case rel => exact ⟨3, by simp, ⟨by decide⟩, ⟨fun h => absurd h (by decide), fun h => absurd h (by decide), fun h => absurd h (by decide), fun _ => by rw [hR]; rfl, fun h => absurd h (by decide), fun h => absurd h (by decide), fun h => absurd h (by decide)⟩, BT5, HB5⟩
   ·
    go_wp2_with (first
     | ((with_reducible refine gate_dst (N := 6) rfl ?_); refine box_event ?hg (N := 6) ?hd (cs := #[.int .i64 0, .bool false]) (t := 29) ?hr ?_; (case hd => rfl); (case hg => rfl); (case hr => first | (go_simp; done) | (go_simp; rfl)); intro g6 hg w4 hbox hb; have HB4 := Aside0.mk (below_step HB.out hb); have BK4 := Aside0.mk hbox; have BT4 := Aside0.mk (blk_below BK.out hb); have G6 : Aside0 (w.heap.size ≤ g6) := ⟨by rw [hg]; exact HB.out.size⟩; have NE : Aside0 (g3 ≠ g6) := ⟨by have := blk_lt BK.out; omega⟩; clear hb hbox hg hp0 hp1)
     | ((with_reducible refine gate_ (.store 29 (.tmp 6) (.tmp 14)) rfl ?_); refine box_store rfl rfl 29 (.tmp 6) (.tmp 14) rfl (g := g6) (off := 0) (new := #[.int .i64 (s + 2), .bool false]) _ [.int .i64 (s + 2), .bool false] BK4.out rfl rfl rfl (by kernel_rfl) (by simp [Value.oneCell']) (Nat.le_of_ble_eq_true rfl) rfl ?_; intro w5 hh5 hg5 hz5; have BK5 := Aside0.mk hh5; have HB5 := Aside0.mk (below_grown HB4.out hg5 G6.out HB4.out.size); have BT5 := Aside0.mk (blk_grown BT4.out hg5 (fun h => NE.out (Option.some.inj h))); have hq0 : w5.cell? ⟨g6, 0, none⟩ = some (.int .i64 (s + 2)) := (blk_cell BK5.out 0).trans rfl; have hq1 : w5.cell? ⟨g6, 1, none⟩ = some (.bool false) := (blk_cell BK5.out 1).trans rfl; have hp0 : w5.cell? ⟨g3, 0, none⟩ = some (.int .i64 t.f0) := (blk_cell BT5.out 0).trans rfl; have hp1 : w5.cell? ⟨g3, 1, none⟩ = some (.bool t.f1) := (blk_cell BT5.out 1).trans rfl; clear hh5 hg5 hz5))
    go_ret
    exact ⟨by first | rfl | (rw [hR]; rfl), HB5.out⟩
  ·
   have hR := HR.out.2.2.2.1 rfl
   clear HR
   have NJ : Aside0 (5 - 3 < gk) := ⟨by simp at hkq; omega⟩
   clear hkq
   cases b3
   ·
    go_wp2_with (first
     | ((with_reducible refine gate_dst (N := 6) rfl ?_); refine box_event ?hg (N := 6) ?hd (cs := #[.int .i64 0, .bool false]) (t := 29) ?hr ?_; (case hd => rfl); (case hg => rfl); (case hr => first | (go_simp; done) | (go_simp; rfl)); intro g6 hg w4 hbox hb; have HB4 := Aside0.mk (below_step HB.out hb); have BK4 := Aside0.mk hbox; have BT4 := Aside0.mk (blk_below BK.out hb); have G6 : Aside0 (w.heap.size ≤ g6) := ⟨by rw [hg]; exact HB.out.size⟩; have NE : Aside0 (g3 ≠ g6) := ⟨by have := blk_lt BK.out; omega⟩; clear hb hbox hg hp0 hp1)
     | ((with_reducible refine gate_ (.store 29 (.tmp 6) (.tmp 14)) rfl ?_); refine box_store rfl rfl 29 (.tmp 6) (.tmp 14) rfl (g := g6) (off := 0) (new := #[.int .i64 (s + 3), .bool f]) _ [.int .i64 (s + 3), .bool f] BK4.out rfl rfl rfl (by kernel_rfl) (by simp [Value.oneCell']) (Nat.le_of_ble_eq_true rfl) rfl ?_; intro w5 hh5 hg5 hz5; have BK5 := Aside0.mk hh5; have HB5 := Aside0.mk (below_grown HB4.out hg5 G6.out HB4.out.size); have BT5 := Aside0.mk (blk_grown BT4.out hg5 (fun h => NE.out (Option.some.inj h))); have hq0 : w5.cell? ⟨g6, 0, none⟩ = some (.int .i64 (s + 3)) := (blk_cell BK5.out 0).trans rfl; have hq1 : w5.cell? ⟨g6, 1, none⟩ = some (.bool f) := (blk_cell BK5.out 1).trans rfl; have hp0 : w5.cell? ⟨g3, 0, none⟩ = some (.int .i64 t.f0) := (blk_cell BT5.out 0).trans rfl; have hp1 : w5.cell? ⟨g3, 1, none⟩ = some (.bool t.f1) := (blk_cell BT5.out 1).trans rfl; clear hh5 hg5 hz5))
    go_roundg (5 - 3)
    case measure => exact NJ.out
    case rel => exact ⟨4, by simp, ⟨by decide⟩, ⟨fun h => absurd h (by decide), fun h => absurd h (by decide), fun h => absurd h (by decide), fun h => absurd h (by decide), fun _ => by rw [hR]; rfl, fun h => absurd h (by decide), fun h => absurd h (by decide)⟩, BT5, HB5⟩
   ·
    go_wp2_with (first
     | ((with_reducible refine gate_dst (N := 6) rfl ?_); refine box_event ?hg (N := 6) ?hd (cs := #[.int .i64 0, .bool false]) (t := 29) ?hr ?_; (case hd => rfl); (case hg => rfl); (case hr => first | (go_simp; done) | (go_simp; rfl)); intro g6 hg w4 hbox hb; have HB4 := Aside0.mk (below_step HB.out hb); have BK4 := Aside0.mk hbox; have BT4 := Aside0.mk (blk_below BK.out hb); have G6 : Aside0 (w.heap.size ≤ g6) := ⟨by rw [hg]; exact HB.out.size⟩; have NE : Aside0 (g3 ≠ g6) := ⟨by have := blk_lt BK.out; omega⟩; clear hb hbox hg hp0 hp1)
     | ((with_reducible refine gate_ (.store 29 (.tmp 6) (.tmp 14)) rfl ?_); refine box_store rfl rfl 29 (.tmp 6) (.tmp 14) rfl (g := g6) (off := 0) (new := #[.int .i64 (s + 3), .bool f]) _ [.int .i64 (s + 3), .bool f] BK4.out rfl rfl rfl (by kernel_rfl) (by simp [Value.oneCell']) (Nat.le_of_ble_eq_true rfl) rfl ?_; intro w5 hh5 hg5 hz5; have BK5 := Aside0.mk hh5; have HB5 := Aside0.mk (below_grown HB4.out hg5 G6.out HB4.out.size); have BT5 := Aside0.mk (blk_grown BT4.out hg5 (fun h => NE.out (Option.some.inj h))); have hq0 : w5.cell? ⟨g6, 0, none⟩ = some (.int .i64 (s + 3)) := (blk_cell BK5.out 0).trans rfl; have hq1 : w5.cell? ⟨g6, 1, none⟩ = some (.bool f) := (blk_cell BK5.out 1).trans rfl; have hp0 : w5.cell? ⟨g3, 0, none⟩ = some (.int .i64 t.f0) := (blk_cell BT5.out 0).trans rfl; have hp1 : w5.cell? ⟨g3, 1, none⟩ = some (.bool t.f1) := (blk_cell BT5.out 1).trans rfl; clear hh5 hg5 hz5))
    go_ret
    exact ⟨by first | rfl | (rw [hR]; rfl), HB5.out⟩
  ·
   have hR := HR.out.2.2.2.2.1 rfl
   clear HR
   have NJ : Aside0 (5 - 4 < gk) := ⟨by simp at hkq; omega⟩
   clear hkq
   cases b4
   ·
    go_wp2_with (first
     | ((with_reducible refine gate_dst (N := 6) rfl ?_); refine box_event ?hg (N := 6) ?hd (cs := #[.int .i64 0, .bool false]) (t := 29) ?hr ?_; (case hd => rfl); (case hg => rfl); (case hr => first | (go_simp; done) | (go_simp; rfl)); intro g6 hg w4 hbox hb; have HB4 := Aside0.mk (below_step HB.out hb); have BK4 := Aside0.mk hbox; have BT4 := Aside0.mk (blk_below BK.out hb); have G6 : Aside0 (w.heap.size ≤ g6) := ⟨by rw [hg]; exact HB.out.size⟩; have NE : Aside0 (g3 ≠ g6) := ⟨by have := blk_lt BK.out; omega⟩; clear hb hbox hg hp0 hp1)
     | ((with_reducible refine gate_ (.store 29 (.tmp 6) (.tmp 14)) rfl ?_); refine box_store rfl rfl 29 (.tmp 6) (.tmp 14) rfl (g := g6) (off := 0) (new := #[.int .i64 (s + 4), .bool false]) _ [.int .i64 (s + 4), .bool false] BK4.out rfl rfl rfl (by kernel_rfl) (by simp [Value.oneCell']) (Nat.le_of_ble_eq_true rfl) rfl ?_; intro w5 hh5 hg5 hz5; have BK5 := Aside0.mk hh5; have HB5 := Aside0.mk (below_grown HB4.out hg5 G6.out HB4.out.size); have BT5 := Aside0.mk (blk_grown BT4.out hg5 (fun h => NE.out (Option.some.inj h))); have hq0 : w5.cell? ⟨g6, 0, none⟩ = some (.int .i64 (s + 4)) := (blk_cell BK5.out 0).trans rfl; have hq1 : w5.cell? ⟨g6, 1, none⟩ = some (.bool false) := (blk_cell BK5.out 1).trans rfl; have hp0 : w5.cell? ⟨g3, 0, none⟩ = some (.int .i64 t.f0) := (blk_cell BT5.out 0).trans rfl; have hp1 : w5.cell? ⟨g3, 1, none⟩ = some (.bool t.f1) := (blk_cell BT5.out 1).trans rfl; clear hh5 hg5 hz5))
    go_roundg (5 - 4)
    case measure => exact NJ.out
    case rel => exact ⟨5, by simp, ⟨by decide⟩, ⟨fun h => absurd h (by decide), fun h => absurd h (by decide), fun h => absurd h (by decide), fun h => absurd h (by decide), fun h => absurd h (by decide), fun _ => by rw [hR]; rfl, fun h => absurd h (by decide)⟩, BT5, HB5⟩
   ·
    go_wp2_with (first
     | ((with_reducible refine gate_dst (N := 6) rfl ?_); refine box_event ?hg (N := 6) ?hd (cs := #[.int .i64 0, .bool false]) (t := 29) ?hr ?_; (case hd => rfl); (case hg => rfl); (case hr => first | (go_simp; done) | (go_simp; rfl)); intro g6 hg w4 hbox hb; have HB4 := Aside0.mk (below_step HB.out hb); have BK4 := Aside0.mk hbox; have BT4 := Aside0.mk (blk_below BK.out hb); have G6 : Aside0 (w.heap.size ≤ g6) := ⟨by rw [hg]; exact HB.out.size⟩; have NE : Aside0 (g3 ≠ g6) := ⟨by have := blk_lt BK.out; omega⟩; clear hb hbox hg hp0 hp1)
     | ((with_reducible refine gate_ (.store 29 (.tmp 6) (.tmp 14)) rfl ?_); refine box_store rfl rfl 29 (.tmp 6) (.tmp 14) rfl (g := g6) (off := 0) (new := #[.int .i64 (s + 4), .bool false]) _ [.int .i64 (s + 4), .bool false] BK4.out rfl rfl rfl (by kernel_rfl) (by simp [Value.oneCell']) (Nat.le_of_ble_eq_true rfl) rfl ?_; intro w5 hh5 hg5 hz5; have BK5 := Aside0.mk hh5; have HB5 := Aside0.mk (below_grown HB4.out hg5 G6.out HB4.out.size); have BT5 := Aside0.mk (blk_grown BT4.out hg5 (fun h => NE.out (Option.some.inj h))); have hq0 : w5.cell? ⟨g6, 0, none⟩ = some (.int .i64 (s + 4)) := (blk_cell BK5.out 0).trans rfl; have hq1 : w5.cell? ⟨g6, 1, none⟩ = some (.bool false) := (blk_cell BK5.out 1).trans rfl; have hp0 : w5.cell? ⟨g3, 0, none⟩ = some (.int .i64 t.f0) := (blk_cell BT5.out 0).trans rfl; have hp1 : w5.cell? ⟨g3, 1, none⟩ = some (.bool t.f1) := (blk_cell BT5.out 1).trans rfl; clear hh5 hg5 hz5))
    go_ret
    exact ⟨by first | rfl | (rw [hR]; rfl), HB5.out⟩
  ·
   have hR := HR.out.2.2.2.2.2.1 rfl
   clear HR
   have NJ : Aside0 (5 - 5 < gk) := ⟨by simp at hkq; omega⟩
   clear hkq
   cases b5
   ·
    go_wp2_with (first
     | ((with_reducible refine gate_dst (N := 6) rfl ?_); refine box_event ?hg (N := 6) ?hd (cs := #[.int .i64 0, .bool false]) (t := 29) ?hr ?_; (case hd => rfl); (case hg => rfl); (case hr => first | (go_simp; done) | (go_simp; rfl)); intro g6 hg w4 hbox hb; have HB4 := Aside0.mk (below_step HB.out hb); have BK4 := Aside0.mk hbox; have BT4 := Aside0.mk (blk_below BK.out hb); have G6 : Aside0 (w.heap.size ≤ g6) := ⟨by rw [hg]; exact HB.out.size⟩; have NE : Aside0 (g3 ≠ g6) := ⟨by have := blk_lt BK.out; omega⟩; clear hb hbox hg hp0 hp1)
     | ((with_reducible refine gate_ (.store 29 (.tmp 6) (.tmp 14)) rfl ?_); refine box_store rfl rfl 29 (.tmp 6) (.tmp 14) rfl (g := g6) (off := 0) (new := #[.int .i64 (s + 5), .bool false]) _ [.int .i64 (s + 5), .bool false] BK4.out rfl rfl rfl (by kernel_rfl) (by simp [Value.oneCell']) (Nat.le_of_ble_eq_true rfl) rfl ?_; intro w5 hh5 hg5 hz5; have BK5 := Aside0.mk hh5; have HB5 := Aside0.mk (below_grown HB4.out hg5 G6.out HB4.out.size); have BT5 := Aside0.mk (blk_grown BT4.out hg5 (fun h => NE.out (Option.some.inj h))); have hq0 : w5.cell? ⟨g6, 0, none⟩ = some (.int .i64 (s + 5)) := (blk_cell BK5.out 0).trans rfl; have hq1 : w5.cell? ⟨g6, 1, none⟩ = some (.bool false) := (blk_cell BK5.out 1).trans rfl; have hp0 : w5.cell? ⟨g3, 0, none⟩ = some (.int .i64 t.f0) := (blk_cell BT5.out 0).trans rfl; have hp1 : w5.cell? ⟨g3, 1, none⟩ = some (.bool t.f1) := (blk_cell BT5.out 1).trans rfl; clear hh5 hg5 hz5))
    go_roundg (5 - 5)
    case measure => exact NJ.out
    case rel => exact ⟨6, by simp, ⟨by decide⟩, ⟨fun h => absurd h (by decide), fun h => absurd h (by decide), fun h => absurd h (by decide), fun h => absurd h (by decide), fun h => absurd h (by decide), fun h => absurd h (by decide), fun _ => by rw [hR]; rfl⟩, BT5, HB5⟩
   ·
    go_wp2_with (first
     | ((with_reducible refine gate_dst (N := 6) rfl ?_); refine box_event ?hg (N := 6) ?hd (cs := #[.int .i64 0, .bool false]) (t := 29) ?hr ?_; (case hd => rfl); (case hg => rfl); (case hr => first | (go_simp; done) | (go_simp; rfl)); intro g6 hg w4 hbox hb; have HB4 := Aside0.mk (below_step HB.out hb); have BK4 := Aside0.mk hbox; have BT4 := Aside0.mk (blk_below BK.out hb); have G6 : Aside0 (w.heap.size ≤ g6) := ⟨by rw [hg]; exact HB.out.size⟩; have NE : Aside0 (g3 ≠ g6) := ⟨by have := blk_lt BK.out; omega⟩; clear hb hbox hg hp0 hp1)
     | ((with_reducible refine gate_ (.store 29 (.tmp 6) (.tmp 14)) rfl ?_); refine box_store rfl rfl 29 (.tmp 6) (.tmp 14) rfl (g := g6) (off := 0) (new := #[.int .i64 (s + 5), .bool false]) _ [.int .i64 (s + 5), .bool false] BK4.out rfl rfl rfl (by kernel_rfl) (by simp [Value.oneCell']) (Nat.le_of_ble_eq_true rfl) rfl ?_; intro w5 hh5 hg5 hz5; have BK5 := Aside0.mk hh5; have HB5 := Aside0.mk (below_grown HB4.out hg5 G6.out HB4.out.size); have BT5 := Aside0.mk (blk_grown BT4.out hg5 (fun h => NE.out (Option.some.inj h))); have hq0 : w5.cell? ⟨g6, 0, none⟩ = some (.int .i64 (s + 5)) := (blk_cell BK5.out 0).trans rfl; have hq1 : w5.cell? ⟨g6, 1, none⟩ = some (.bool false) := (blk_cell BK5.out 1).trans rfl; have hp0 : w5.cell? ⟨g3, 0, none⟩ = some (.int .i64 t.f0) := (blk_cell BT5.out 0).trans rfl; have hp1 : w5.cell? ⟨g3, 1, none⟩ = some (.bool t.f1) := (blk_cell BT5.out 1).trans rfl; clear hh5 hg5 hz5))
    go_ret
    exact ⟨by first | rfl | (rw [hR]; rfl), HB5.out⟩
  ·
   have hR := HR.out.2.2.2.2.2.2 rfl
   go_wp2
   go_ret
   exact ⟨by first | rfl | rw [hR], HB.out⟩

end Go.Proofs.YtiagfjbngpbejaaDoor.Pure
namespace Go.Proofs.YtiagfjbngpbejaaDoor.Pure
set_option linter.unusedVariables false
set_option linter.unusedSimpArgs false
open Go Go.RowKit Go.Proofs.YtiagfjbngpbejaaDoor.PFnSingMany Go.Proofs.YtiagfjbngpbejaaDoorW.PrintWords Go.Proofs.YtiagfjbngpbejaaDoorW.PrintLast Go.Proofs.YtiagfjbngpbejaaDoorW.PrintMore

def hexAll (t : S29) : List Int := hexSt.filter (fun s => decide (0 ≤ hexSyl s t))
def hexUpto (t : S29) (i : Nat) : List Int := (hexSt.take i).filter (fun s => decide (0 ≤ hexSyl s t))
theorem hexUpto_succ (t : S29) (i : Nat) (s : Int) (h : hexSt[i]? = some s) : hexUpto t (i + 1) = if 0 ≤ hexSyl s t then hexUpto t i ++ [s] else hexUpto t i := by
 unfold hexUpto
 obtain ⟨hl, he⟩ := List.getElem?_eq_some_iff.1 h
 rw [List.take_succ_eq_append_getElem hl, List.filter_append, he]
 by_cases hy : 0 ≤ hexSyl s t
 ·
  rw [if_pos hy, List.filter_cons_of_pos (by simpa using hy)]; rfl
 ·
  rw [if_neg hy, List.filter_cons_of_neg (by simpa using hy)]; simp
theorem hexUpto_len (t : S29) (i : Nat) : (hexUpto t i).length ≤ 7 := by
 unfold hexUpto
 refine Nat.le_trans (List.length_filter_le _ _) ?_
 rw [List.length_take]
 exact Nat.min_le_right _ _
set_option maxHeartbeats 40000000 in
set_option maxRecDepth 100000 in
theorem impl_HexAll_calls (t : S29) (w : World) (ht : NTab w) :
 Calls Tryd.prog 8 #[.agg #[.int .i64 t.f0, .bool t.f1]] w fun e w' => ∃ v, e = .returned v ∧ (Kd.int .i64).R 3 w' w.heap.size (fun _ => True) v (hexAll t) ∧ Below w.heap.size w w' := by
 have HT := Aside0.mk ht
 clear ht
 go_enter Tryd.func8, Tryd.ntmps8
 go_wp2_with (first
  | ((with_reducible refine gate_dst (N := 1) rfl ?_); refine box_event ?hg (N := 1) ?hd (cs := #[.int .i64 t.f0, .bool t.f1]) (t := 29) ?hr ?_; (case hd => rfl); (case hg => rfl); (case hr => first | (go_simp; done) | (go_simp; rfl)); intro g1 hg w1 hbox hb; have HB1 := Aside0.mk hb; have BK1 := Aside0.mk hbox; clear hb hbox hg)
  | ((with_reducible refine gate_dst (N := 6) rfl ?_); refine Kd.R_lit (Kd.int .i64) _ 3 ?hg (N := 6) ?hd (xs := ([] : List Int)) (inner := []) (ok := fun _ => True) (okp := fun _ => True) ?hr (Reps.none _ _) (fun _ hk => hk) trivial (Below.refl _ _) (Nat.le_refl _) (by simp) ?_; (case hd => rfl); (case hg => rfl); (case hr => first | (go_simp; done) | (go_simp; rfl)); intro v3 w2 ho hb _ _; have HO2 := Aside0.mk (Kd.R_lower ho HB1.out.size); have BK2 := Aside0.mk (blk_below BK1.out hb); have HB2 := Aside0.mk (below_step HB1.out hb); clear ho hb)
  | (go_at_call 23; refine (impl_hexachords_calls _ (HT.out.below HB2.out)).mono ?_; rintro e w3 ⟨g, v, rfl, hgg, hg, hr, hb⟩; obtain ⟨bA, cap, rfl, hA0, hA1, cells, hA⟩ := Kd.R_form hr (by decide); rw [show (hexSt.map hexL).length = 7 from rfl] at hg hr; have hcC := (Kd.R_reads' hr).2.2; have HC := Aside0.mk hcC; have HA := Aside0.mk hA; have HG := Aside0.mk hg; have HO3 := Aside0.mk (Kd.R_below HO2.out hb); have BK3 := Aside0.mk (blk_below BK2.out hb); have HB3 := Aside0.mk (below_step HB2.out hb); have hv : w3.cell? ⟨g, 0, none⟩ = some (.slice (some ⟨bA, 0, none⟩) 7 cap) := blk_cell HG.out 0; clear hb hr hgg hg hA0 hA1 hA hcC))
 have hcells : ∀ (j k : Nat) (s : Int) (u : Value), hexSt[j]? = some s → (hexL s)[k]? = some u → cells[j * 13 + k]? = some u := by
  intro j k s u hj hk
  obtain ⟨ad, ea, hc⟩ := HC.out.2.2 (by decide)
  obtain rfl := Option.some.inj ea
  obtain ⟨c, hcl, hK, hcc⟩ := hc j (hexL s) (by rw [List.getElem?_map, hj]; rfl)
  have e : c = hexL s := hK.1
  rw [e] at hcc
  have := hcc k u hk
  rw [Addr.add_lit, Nat.zero_add, blk_cell HA.out] at this
  exact this
 have HCE := Aside0.mk hcells
 clear hcells HC
 skip
 go_loopg [3, 5, 13] 7 (fun kq v3 v5 v13 w' => ∃ (i : Nat), v13 = .int .i64 (i : Int) ∧ Aside0 (kq = 7 - i ∧ i ≤ 7) ∧ Aside0 ((Kd.int .i64).R 3 w' w.heap.size (fun _ => True) v3 (hexUpto t i)) ∧ Aside0 (w'.heap[bA]? = some (.cells cells 52 (0, 0))) ∧ Aside0 (w'.heap[g]? = some (.cells #[.slice (some ⟨bA, 0, none⟩) (hexSt.map hexL).length cap] 49 (0, 0))) ∧ Aside0 (w'.heap[g1]? = some (.cells #[.int .i64 t.f0, .bool t.f1] 29 (0, 0))) ∧ Aside0 (Below w.heap.size w w'))
 case atStart => exact ⟨0, rfl, ⟨rfl, by omega⟩, HO3, HA, HG, BK3, HB3⟩
 case round =>
  clear HO2 BK2 HB2 HB1 BK1 HO3 BK3 HB3 HA HG hv
  obtain ⟨i, rfl, HX, HO, HA, HG, BK, HB⟩ := hrel
  obtain ⟨hkq, hi7⟩ := HX.out
  clear HX
  by_cases hi : (i : Int) < 7
  rotate_left
  ·
   obtain rfl : i = 7 := by omega
   have d1 : decide (((7 : Nat) : Int) < (7 : Int)) = false := by decide
   go_wp2
   go_ret
   exact ⟨_, rfl, HO.out, HB.out⟩
  obtain ⟨s, hs⟩ : ∃ s, hexSt[i]? = some s := ⟨_, List.getElem?_eq_getElem (show i < hexSt.length by show i < 7; omega)⟩
  have hs20 : 0 ≤ s ∧ s ≤ 20 := by
   have hm := List.mem_of_getElem? hs
   unfold hexSt at hm
   simp at hm
   omega
  have hcc : ∀ k u, (hexL s)[k]? = some u → wr.cell? ⟨bA, i * 13 + k, none⟩ = some u := fun k u hk => by rw [blk_cell HA.out]; exact HCE.out i k s u hs hk
  have HCC := Aside0.mk hcc
  have HS := Aside0.mk (And.intro hs20 hs)
  have NX : Aside0 (7 - (i + 1) < gk ∧ i + 1 ≤ 7) := ⟨by omega, by omega⟩
  have d1 : decide ((i : Int) < (7 : Int)) = true := decide_eq_true hi
  have q0 := eq_true (show (0 : Int) ≤ (i : Int) by omega)
  have q1 := eq_true (show (i : Int) < (7 : Int) from hi)
  have p3 : IntKind.i64.wrap ((i : Int) + 1) = (i : Int) + 1 := by rw [Go.IntKind.wrap_i64]; omega
  obtain ⟨y, hy⟩ : ∃ y, y = hexSyl s t := ⟨_, rfl⟩
  have hcon : ∀ W, (∀ k u, (hexL s)[k]? = some u → W.cell? ⟨bA, i * 13 + k, none⟩ = some u) → Calls Tryd.prog 24 #[.pointer (some ⟨bA, i * 13, none⟩), .agg #[.int .i64 t.f0, .bool t.f1]] W fun e w' => e = .returned (.int .i64 y) ∧ Below W.heap.size W w' := fun W hW => by rw [hy]; exact impl_syllable_calls s t bA (i * 13) W hs20 hW
  have HCON := Aside0.mk hcon
  have HUP := Aside0.mk (show hexUpto t (i + 1) = if 0 ≤ y then hexUpto t i ++ [s] else hexUpto t i by rw [hy]; exact hexUpto_succ t i s hs)
  clear hcc hs20 hs hcon hy hkq hi7 hi
  go_upto_region 6 with fail
  refine start_ (n := 9) (S := (fun w' => w'.cell? ⟨g, 0, none⟩ = some (.slice (some ⟨bA, 0, none⟩) 7 cap) ∧ w'.cell? ⟨g1, 0, none⟩ = some (.int .i64 t.f0) ∧ w'.cell? ⟨g1, 1, none⟩ = some (.bool t.f1))) (ds := [7]) (rowB 9 0) (by kernel_rfl) rfl rfl ⟨blk_cell (blk_drew HG.out) 0, (blk_cell (blk_drew BK.out) 0).trans rfl, (blk_cell (blk_drew BK.out) 1).trans rfl⟩ (fun hHeld => ?_)
  refine pure_ (i := 0) (N := some 16) (v := ?_) (a' := ?_) (rowB 9 1) rfl rfl (by kernel_rfl) (fun _ _ _ h => h) (Or.inl ⟨by rfl, ?_⟩) ?_ ?_
  rotate_left
  ·
   intro w'
   go_simp
   with_reducible rfl
  rotate_left
  ·
   simp only [Act.put, List.setIfInBounds_toArray, List.set_cons_zero, List.set_cons_succ, i64_w, i32_w]
   rfl
  refine pure_ (i := 1) (N := some 17) (v := ?_) (a' := ?_) (rowB 9 3) rfl rfl (by kernel_rfl) (fun _ _ _ h => h) (Or.inl ⟨by rfl, ?_⟩) ?_ ?_
  rotate_left
  ·
   intro w'
   go_simp
   with_reducible rfl
  rotate_left
  ·
   simp only [Act.put, List.setIfInBounds_toArray, List.set_cons_zero, List.set_cons_succ, i64_w, i32_w]
   rfl
  refine pure_ (i := 2) (N := some 18) (v := ?_) (a' := ?_) (rowB 9 7) rfl rfl (by kernel_rfl) (fun _ _ _ h => h) (Or.inl ⟨by rfl, ?_⟩) ?_ ?_
  rotate_left
  ·
   intro w'
   go_simp
   with_reducible rfl
  rotate_left
  ·
   simp only [Act.put, List.setIfInBounds_toArray, List.set_cons_zero, List.set_cons_succ, i64_w, i32_w]
   rfl
  refine take_ (i := 3) (N := some 19) (v := ?_) (a' := ?_) (rowB 9 15) rfl rfl (by kernel_rfl) (fun _ _ _ h => h) (Or.inl ⟨by rfl, ?_⟩) hHeld ?_ ?_
  rotate_left
  ·
   rintro w' ⟨s0, s1, s2⟩
   go_simp
   with_reducible rfl
  rotate_left
  ·
   simp only [Act.put, List.setIfInBounds_toArray, List.set_cons_zero, List.set_cons_succ, i64_w, i32_w]
   rfl
  refine pure_ (i := 4) (N := some 20) (v := ?_) (a' := ?_) (rowB 9 31) rfl rfl (by kernel_rfl) (fun _ _ _ h => h) (Or.inl ⟨by rfl, ?_⟩) ?_ ?_
  rotate_left
  ·
   intro w'
   go_simp
   with_reducible rfl
  rotate_left
  ·
   simp only [Act.put, List.setIfInBounds_toArray, List.set_cons_zero, List.set_cons_succ, i64_w, i32_w]
   rfl
  refine pure_ (i := 5) (N := some 21) (v := ?_) (a' := ?_) (rowB 9 63) rfl rfl (by kernel_rfl) (fun _ _ _ h => h) (Or.inl ⟨by rfl, ?_⟩) ?_ ?_
  rotate_left
  ·
   intro w'
   go_simp
   with_reducible rfl
  rotate_left
  ·
   simp only [Act.put, List.setIfInBounds_toArray, List.set_cons_zero, List.set_cons_succ, i64_w, i32_w]
   rfl
  refine take_ (i := 6) (N := some 22) (v := ?_) (a' := ?_) (rowB 9 127) rfl rfl (by kernel_rfl) (fun _ _ _ h => h) (Or.inl ⟨by rfl, ?_⟩) hHeld ?_ ?_
  rotate_left
  ·
   rintro w' ⟨s0, s1, s2⟩
   go_simp
   with_reducible rfl
  rotate_left
  ·
   simp only [Act.put, List.setIfInBounds_toArray, List.set_cons_zero, List.set_cons_succ, i64_w, i32_w]
   rfl
  refine last_ (i := 7) (N := some 23) (rowB 9 255) rfl rfl (by kernel_rfl) (by decide) (fun K hK => ?_)
  refine call_ 24 #[.pointer (some ⟨bA, i * 13, none⟩), .agg #[.int .i64 t.f0, .bool t.f1]] (by rfl) rfl (by go_simp) ?_
  refine (HCON.out _ (fun k u hk => pw_cell_below (below_drew (Below.refl _ _)) (HCC.out k u hk))).mono ?_
  rintro e w5 ⟨rfl, hb⟩
  refine ⟨_, rfl, ?_⟩
  have hbd := below_step (below_drew (Below.refl wr.heap.size wr)) hb
  have HO5 := Aside0.mk (Kd.R_below HO.out hbd)
  have HA5 := Aside0.mk (blk_below HA.out hbd)
  have HG5 := Aside0.mk (blk_below HG.out hbd)
  have BK5 := Aside0.mk (blk_below BK.out hbd)
  have HB5 := Aside0.mk (below_step HB.out hbd)
  clear hb hbd
  refine hK.out _ _ ?_
  clear hK K
  refine norm_ (a' := ?_) ?_ ?_
  rotate_left
  ·
   show Act.put _ (some 23) _ = _
   simp only [Act.put, List.setIfInBounds_toArray, List.set_cons_zero, List.set_cons_succ, i64_w, i32_w]
   rfl
  refine pure_ (i := 8) (N := some 24) (v := ?_) (a' := ?_) (rowB 9 511) rfl rfl (by kernel_rfl) (fun _ _ _ h => h) (Or.inl ⟨by rfl, ?_⟩) ?_ ?_
  rotate_left
  ·
   intro w'
   go_simp
   with_reducible rfl
  rotate_left
  ·
   simp only [Act.put, List.setIfInBounds_toArray, List.set_cons_zero, List.set_cons_succ, i64_w, i32_w]
   rfl
  refine done_ (by kernel_rfl) ?_
  obtain ⟨c, hcb⟩ : ∃ c, c = decide (0 ≤ y) := ⟨_, rfl⟩
  rw [← hcb]
  cases c
  rotate_left
  ·
   have hy : 0 ≤ y := of_decide_eq_true hcb.symm
   clear hcb
   have hU := HUP.out
   rw [if_pos hy] at hU
   have HU := Aside0.mk hU
   clear hy hU
   have hv : w5.cell? ⟨g, 0, none⟩ = some (.slice (some ⟨bA, 0, none⟩) 7 cap) := blk_cell HG5.out 0
   have hv0 : w5.cell? ⟨bA, i * 13, none⟩ = some (.int .i64 s) := by rw [blk_cell HA5.out]; exact HCE.out i 0 s _ HS.out.2 rfl
   go_wp2_with (first
    | ((with_reducible refine gate_builtin (b := .append) (xs := #[.tmp 25, .tmp 34]) rfl ?_); at_builtin; refine Kd.R_append (Kd.int .i64) (w0 := w) w.heap.size rfl (.tmp 25) (.tmp 34) 26 3 (.int .i64 0) 8 rfl Tryd.underlying26 info3 rfl (by decide) (by omega) _ (hexUpto t i) s [.int .i64 s] (fun _ => True) (fun _ => False) rfl rfl rfl (fun _ hk => hk.elim) (fun _ _ => trivial) HO5.out HB5.out HB5.out.size (by have := hexUpto_len t i; omega) ?_; intro v35 w6 ho hb hg _; have HO6 := Aside0.mk ho; have HB6 := Aside0.mk hb; have HA6 := Aside0.mk (blk_grown HA5.out hg (Kd.R_ne HO5.out HA5.out (by decide))); have HG6 := Aside0.mk (blk_grown HG5.out hg (Kd.R_ne HO5.out HG5.out (by decide))); have BK6 := Aside0.mk (blk_grown BK5.out hg (Kd.R_ne HO5.out BK5.out (by decide))); clear ho hb hg))
   go_roundg (7 - (i + 1))
   case measure => exact NX.out.1
   case rel => exact ⟨i + 1, by simp, ⟨rfl, NX.out.2⟩, ⟨by rw [HU.out]; exact HO6.out⟩, HA6, HG6, BK6, HB6⟩
  ·
   have hy : ¬ 0 ≤ y := of_decide_eq_false hcb.symm
   clear hcb
   have hU := HUP.out
   rw [if_neg hy] at hU
   have HU := Aside0.mk hU
   clear hy hU
   go_wp2
   go_roundg (7 - (i + 1))
   case measure => exact NX.out.1
   case rel => exact ⟨i + 1, by simp, ⟨rfl, NX.out.2⟩, ⟨by rw [HU.out]; exact HO5.out⟩, HA5, HG5, BK5, HB5⟩

end Go.Proofs.YtiagfjbngpbejaaDoor.Pure
namespace Go.Proofs.YtiagfjbngpbejaaDoor.PFnSingMany
set_option linter.unusedVariables false
set_option linter.unusedSimpArgs false
open Go Go.RowKit Go.Proofs.YtiagfjbngpbejaaDoor.Pure Go.Proofs.YtiagfjbngpbejaaDoorW.PrintWords Go.Proofs.YtiagfjbngpbejaaDoorW.PrintLast Go.Proofs.YtiagfjbngpbejaaDoorW.PrintMore
def impl_HexAll.f (a0_0 : Int) (a0_1 : Bool) : Option (List Int) := some (hexAll ⟨a0_0, a0_1⟩)
theorem impl_HexAll.calls (a0_0 : Int) (a0_1 : Bool) (r : List Int) (w : World) (ht : NTab w) (h : impl_HexAll.f a0_0 a0_1 = some r) :
 Calls Tryd.prog 8 #[.agg #[.int .i64 a0_0, .bool a0_1]] w fun e w' => ∃ v0_ : Value, e = .returned (v0_) ∧ Kd.R (Kd.int .i64) 3 w' w.heap.size (fun _ => True) v0_ r ∧ Below w.heap.size w w' := by
 unfold impl_HexAll.f at h; injection h with h
 subst h; exact impl_HexAll_calls ⟨a0_0, a0_1⟩ w ht

end Go.Proofs.YtiagfjbngpbejaaDoor.PFnSingMany
namespace Go.Proofs.YtiagfjbngpbejaaDoor.PFnSingMany
open Go.RowKit Go.Proofs.YtiagfjbngpbejaaDoorW.PrintWords Go.Proofs.YtiagfjbngpbejaaDoorW.PrintLast Go.Proofs.YtiagfjbngpbejaaDoorW.PrintMore Go.Proofs.YtiagfjbngpbejaaDoor.Pure
attribute [local go_sem] max2_int min2_int max_two min_two max_three min_three max_four min_four   -- for this text's walks alone
set_option linter.unusedVariables false
set_option linter.unusedSimpArgs false

def impl_SingMany.l0 : Nat → Int → List (S29) → Int → Int → Option (Int)
 | 0, _, _, _, _ => none
 | k + 1, x3, x9, x10, x11 => if x11 < x10 then (if 0 ≤ x11 then (if x11 < (x9.length : Int) then ((impl_HexAll.f ((rd_T29 x9 x11).f0) ((rd_T29 x9 x11).f1)).bind fun t157 => (impl_SingMany.l0 k (wrap64 (x3 * (t157.length : Int))) x9 x10 (wrap64 (x11 + 1)))) else (none)) else (none)) else (some x3)
def impl_SingMany.f (k : Nat) (l0 : List (S29)) : Option (Int) := (impl_MelodyValid.f k l0).bind fun t154 => (if t154 = true then (impl_SingMany.l0 k 1 l0 (l0.length : Int) 0) else (some (-1)))
set_option maxHeartbeats 8000000 in
set_option maxRecDepth 100000 in
theorem impl_SingMany.calls (k : Nat) (A0 : Option Addr) (c0 : Nat) (l0 : List (S29)) (r : Int) (w : World) (ht : NTab w) (hr0 : Kd.C k29 w A0 l0.length l0) (hc0 : l0.length ≤ c0) (h : impl_SingMany.f k l0 = some r) :
 Calls Tryd.prog 6 #[.slice A0 l0.length c0] w fun e w' => e = .returned (.int .i64 r) ∧ Below w.heap.size w w' := by
 have HT := Aside0.mk ht; clear ht; have hu29 := Tryd.underlying29; have HR0 := Aside0.mk hr0; have HC0 := Aside0.mk hc0; clear hr0 hc0; have HB := Aside0.mk (Below.refl w.heap.size w); have H : ((impl_MelodyValid.f k l0).bind fun t154 => (if t154 = true then (impl_SingMany.l0 k 1 l0 (l0.length : Int) 0) else (some (-1)))) = some r := h; clear h; replace H := Option.bind_eq_some_iff.mp H; obtain ⟨t154, A20, H⟩ := H; replace H : (if t154 = true then (impl_SingMany.l0 k 1 l0 (l0.length : Int) 0) else (some (-1))) = some r := H; have A2 := Aside0.mk A20; clear A20; by_cases c3 : t154 = true
 ·
  subst c3; have H1 : (impl_SingMany.l0 k 1 l0 (l0.length : Int) 0) = some r := by rw [if_pos rfl] at H; exact H
  clear H; have H := H1; clear H1; have H' := Aside0.mk H; clear H; go_enter Tryd.func6, Tryd.ntmps6
  go_wp2_with (first | ((with_reducible refine gate_callee (f := 20) rfl ?_); refine goesL_ (some 7) rfl rfl Tryd.func20 (by kernel_rfl) rfl #[.slice A0 l0.length c0] rfl (by (try simp only [List.map_toArray, List.map_cons, List.map_nil]); first | done | rfl | (simp only [List.length_drop, List.length_take]; rfl)) ?_; (with_reducible refine (impl_MelodyValid.calls k _ _ l0 true _ ?side1 ?side2 A2.out).mono ?_); (case side1 => repeat (first | exact HR0.out | (with_reducible refine Kd.C_alloc ?_ _) | (with_reducible refine Kd.C_drewN ?_ _) | (with_reducible refine Kd.C_drew ?_))); (case side2 => exact HC0.out); rintro e w4 ⟨rfl, hb⟩; refine ⟨_, rfl, ?_⟩; have n0_ := Aside0.mk (below_step (by repeat (first | (with_reducible first | exact HB.out | apply below_alloc | apply pw_below_drewN | apply below_drew1) | exact HB.out)) hb); clear HB; have HB := n0_; clear n0_; (try clear hb); (try clear hb2); (try clear hk); (try clear hi)))
  go_loopg [3, 11] k (fun kq v3 v11 w' => ∃ (x3_1 : Int) (x11_1 : Int), v3 = .int .i64 x3_1 ∧ v11 = .int .i64 x11_1 ∧ Aside0 (impl_SingMany.l0 kq x3_1 l0 (l0.length : Int) x11_1 = some r) ∧ Aside0 (kq ≤ k) ∧ Aside0 (Below w.heap.size w w'))
  case atStart => exact ⟨(1), (0), (by first | rfl | (simp; done) | (simp [*]; done)), (by first | rfl | (simp; done) | (simp [*]; done)), H', ⟨Nat.le_refl _⟩, ⟨by repeat (first | (with_reducible first | exact HB.out | apply below_alloc | apply pw_below_drewN | apply below_drew1) | exact HB.out)⟩⟩
  case round =>
   clear H'; try clear c2
   try clear p2
   try clear c3
   obtain ⟨x3_1, x11_1, rfl, rfl, HA, HK1, HB⟩ := hrel; cases gk with
   | zero => exact absurd HA.out (by simp [impl_SingMany.l0])
   | succ k1 =>
    have H := HA.out; clear HA; simp only [impl_SingMany.l0] at H; by_cases c5 : x11_1 < (l0.length : Int)
    ·
     rw [if_pos c5] at H; have c5b0 : decide (x11_1 < (l0.length : Int)) = true := decide_eq_true c5; clear c5; by_cases c6 : 0 ≤ x11_1
     ·
      rw [if_pos c6] at H; have c6b0 : decide (0 ≤ x11_1) = true := decide_eq_true c6; clear c6; by_cases c7 : x11_1 < (l0.length : Int)
      ·
       rw [if_pos c7] at H; have c7b0 : decide (x11_1 < (l0.length : Int)) = true := decide_eq_true c7; clear c7; replace H := Option.bind_eq_some_iff.mp H; obtain ⟨t157, A80, H⟩ := H; replace H : (impl_SingMany.l0 k1 (wrap64 (x3_1 * (t157.length : Int))) l0 (l0.length : Int) (wrap64 (x11_1 + 1))) = some r := H; have A8 := Aside0.mk A80; clear A80; have H' := Aside0.mk H; clear H; have p155 : 0 ≤ (x11_1 : Int) := of_decide_eq_true (by first | (with_reducible assumption) | assumption); have q155 : x11_1 < (l0.length : Int) := of_decide_eq_true (by first | (with_reducible assumption) | assumption); obtain ⟨ad155, e155, hx155_0, hx155_1⟩ := at_T29 HR0.out x11_1 p155 q155; cases e155; replace hx155_0 := (HB.out.cell (World.block_lt_of_cell? w _ hx155_0)).trans hx155_0; replace hx155_1 := (HB.out.cell (World.block_lt_of_cell? w _ hx155_1)).trans hx155_1; replace p155 := eq_true p155; replace q155 := eq_true q155; go_wp2_with (first | ((with_reducible refine gate_dst (N := 5) rfl ?_); refine box_event ?hg (N := 5) ?hd (cs := #[.int .i64 0, .bool false]) (t := 29) ?hr ?_; (case hd => rfl); (case hg => rfl); (case hr => first | (go_simp; done) | (go_simp; rfl)); intro gb156 hg w9 hbox hb; have n0_ := Aside0.mk (below_step (by repeat (first | (with_reducible first | exact HB.out | apply below_alloc | apply pw_below_drewN | apply below_drew1) | exact HB.out)) hb); have n1_ := Aside0.mk (hbox); have n2_ := Aside0.mk ((by rw [hg]; exact (below_size (by repeat (first | (with_reducible first | exact HB.out | apply below_alloc | apply pw_below_drewN | apply below_drew1) | exact HB.out))) : w.heap.size ≤ gb156)); have n3_ := Aside0.mk ((by rw [hg]; exact (below_size (by repeat (first | (with_reducible first | exact HB.out | apply below_alloc | apply pw_below_drewN | apply below_drew1) | exact HB.out))) : w.heap.size ≤ gb156)); clear HB; have HB := n0_; have BK156 := n1_; have GW156 := n2_; have GE156 := n3_; clear n0_ n1_ n2_ n3_; clear hb hbox hg; have hcz10_0 : w9.cell? ⟨gb156, 0, none⟩ = some (.int .i64 0) := (blk_cell BK156.out 0).trans rfl; have hcz10_1 : w9.cell? ⟨gb156, 1, none⟩ = some (.bool false) := (blk_cell BK156.out 1).trans rfl; have hfz10_0 := blk_frozen BK156.out 0; have hfz10_1 := blk_frozen BK156.out 1) | ((with_reducible refine gate_callee (f := 8) rfl ?_); refine goesL_ (some 17) rfl rfl Tryd.func8 (by kernel_rfl) rfl #[.agg #[.int .i64 ((rd_T29 l0 x11_1).f0), .bool ((rd_T29 l0 x11_1).f1)]] rfl (by (try simp only [List.map_toArray, List.map_cons, List.map_nil]); first | done | rfl | (simp only [List.length_drop, List.length_take]; rfl)) ?_; (with_reducible refine (impl_HexAll.calls ((rd_T29 l0 x11_1).f0) ((rd_T29 l0 x11_1).f1) t157 _ A8.out (ht := HT.out.below (by repeat (first | (with_reducible first | exact HB.out | apply below_alloc | apply pw_below_drewN | apply below_drew1 | refine below_set ?_ GE156.out) | exact HB.out)))).mono ?_); rintro e w11 ⟨v158, rfl, ho0, hb⟩; refine ⟨_, rfl, ?_⟩; have n0_ := Aside0.mk (Kd.R_lower ho0 (below_size (by repeat (first | (with_reducible first | exact HB.out | apply below_alloc | apply pw_below_drewN | apply below_drew1 | refine below_set ?_ GE156.out) | exact HB.out)))); have n1_ := Aside0.mk (blk_below (g := gb156) (o := .cells #[.int .i64 ((rd_T29 l0 x11_1).f0), .bool ((rd_T29 l0 x11_1).f1)] 29 (0, 0)) (by (with_reducible repeat (first | refine blk_drewN ?_ _ | refine blk_drew ?_ | refine blk_alloc ?_ _)); refine blk_put (cs := #[.int .i64 ((rd_T29 l0 x11_1).f0), .bool false]) ?_ 1 _ rfl; (with_reducible repeat (first | refine blk_drewN ?_ _ | refine blk_drew ?_ | refine blk_alloc ?_ _)); refine blk_put (cs := #[.int .i64 0, .bool false]) ?_ 0 _ rfl; (with_reducible repeat (first | refine blk_drewN ?_ _ | refine blk_drew ?_ | refine blk_alloc ?_ _)); exact BK156.out) hb); have n2_ := Aside0.mk (below_step (by repeat (first | (with_reducible first | exact HB.out | apply below_alloc | apply pw_below_drewN | apply below_drew1 | refine below_set ?_ GE156.out) | exact HB.out)) hb); clear BK156; clear HB; have HO159 := n0_; have BK156 := n1_; have HB := n2_; clear n0_ n1_ n2_; (try clear hb); (try clear hb2); (try clear hk); (try clear hi); (try clear ho0); obtain ⟨Ao12, co12, eo12⟩ := Kd.R_slice HO159.out; subst eo12))
       go_roundg k1
       case measure => have := HK1.out; omega
       case rel => exact ⟨(wrap64 (x3_1 * (t157.length : Int))), (wrap64 (x11_1 + 1)), (by first | rfl | (simp; done) | (simp [*]; done)), (by first | rfl | (simp; done) | (simp [*]; done)), H', ⟨by have := HK1.out; omega⟩, ⟨by repeat (first | (with_reducible first | exact HB.out | apply below_alloc | apply pw_below_drewN | apply below_drew1 | refine below_set ?_ GE156.out) | exact HB.out)⟩⟩
      ·
       rw [if_neg c7] at H; exact absurd H (by simp)
     ·
      rw [if_neg c6] at H; exact absurd H (by simp)
    ·
     rw [if_neg c5] at H; have c5b0 : decide (x11_1 < (l0.length : Int)) = false := decide_eq_false c5; clear c5; obtain rfl := Option.some.inj H; go_wp2; go_ret
     exact ⟨by first | rfl | (simp [errW_none, errW_some] <;> rfl) | (simp [*, errW_none, errW_some] <;> rfl), by repeat (first | (with_reducible first | exact HB.out | apply below_alloc | apply pw_below_drewN | apply below_drew1) | exact HB.out)⟩
 ·
  replace c3 := Bool.eq_false_iff.mpr c3; subst c3; have H1 : (some (-1)) = some r := by rw [if_neg (show ¬ (false = true) by decide)] at H; exact H
  clear H; have H := H1; clear H1; obtain rfl := Option.some.inj H; go_enter Tryd.func6, Tryd.ntmps6
  go_wp2_with (first | ((with_reducible refine gate_callee (f := 20) rfl ?_); refine goesL_ (some 7) rfl rfl Tryd.func20 (by kernel_rfl) rfl #[.slice A0 l0.length c0] rfl (by (try simp only [List.map_toArray, List.map_cons, List.map_nil]); first | done | rfl | (simp only [List.length_drop, List.length_take]; rfl)) ?_; (with_reducible refine (impl_MelodyValid.calls k _ _ l0 false _ ?side1 ?side2 A2.out).mono ?_); (case side1 => repeat (first | exact HR0.out | (with_reducible refine Kd.C_alloc ?_ _) | (with_reducible refine Kd.C_drewN ?_ _) | (with_reducible refine Kd.C_drew ?_))); (case side2 => exact HC0.out); rintro e w13 ⟨rfl, hb⟩; refine ⟨_, rfl, ?_⟩; have n0_ := Aside0.mk (below_step (by repeat (first | (with_reducible first | exact HB.out | apply below_alloc | apply pw_below_drewN | apply below_drew1) | exact HB.out)) hb); clear HB; have HB := n0_; clear n0_; (try clear hb); (try clear hb2); (try clear hk); (try clear hi)))
  go_ret
  exact ⟨by first | rfl | (simp [errW_none, errW_some] <;> rfl) | (simp [*, errW_none, errW_some] <;> rfl), by repeat (first | (with_reducible first | exact HB.out | apply below_alloc | apply pw_below_drewN | apply below_drew1) | exact HB.out)⟩

end Go.Proofs.YtiagfjbngpbejaaDoor.PFnSingMany
namespace Go.Proofs.YtiagfjbngpbejaaDoor.PFnSingMany
open Go.RowKit Go.Proofs.YtiagfjbngpbejaaDoorW.PrintWords Go.Proofs.YtiagfjbngpbejaaDoorW.PrintLast Go.Proofs.YtiagfjbngpbejaaDoorW.PrintMore
attribute [local go_sem] max2_int min2_int max_two min_two max_three min_three max_four min_four   -- for this text's walks alone
set_option linter.unusedVariables false
set_option linter.unusedSimpArgs false

def spec_l6In.f (a0 : Int) (a1 : Int) (a2 : Int) : Option (Bool) := if a0 ≥ a1 then (some (decide (a0 ≤ a2))) else (some false)
set_option maxHeartbeats 8000000 in
set_option maxRecDepth 100000 in
theorem spec_l6In.calls (a0 : Int) (a1 : Int) (a2 : Int) (r : Bool) (w : World) (h : spec_l6In.f a0 a1 a2 = some r) :
 Calls Tryd.prog 39 #[.int .i64 a0, .int .i64 a1, .int .i64 a2] w fun e w' => e = .returned (.bool r) ∧ Drawn0 w w' := by
 have H : (if a0 ≥ a1 then (some (decide (a0 ≤ a2))) else (some false)) = some r := h; clear h; by_cases c4 : a0 ≥ a1
 ·
  rw [if_pos c4] at H; have c4b0 : decide (a1 ≤ a0) = true := decide_eq_true c4; clear c4; obtain rfl := Option.some.inj H; go_enter Tryd.func39, Tryd.ntmps39
  go_wp2; go_ret
  exact ⟨by first | rfl | (simp; done) | (simp [*]; done), by repeat (first | exact Drawn0.refl _ | apply Drawn0.step)⟩
 ·
  rw [if_neg c4] at H; have c4b0 : decide (a1 ≤ a0) = false := decide_eq_false c4; clear c4; obtain rfl := Option.some.inj H; go_enter Tryd.func39, Tryd.ntmps39
  go_wp2; go_ret
  exact ⟨by first | rfl | (simp; done) | (simp [*]; done), by repeat (first | exact Drawn0.refl _ | apply Drawn0.step)⟩

end Go.Proofs.YtiagfjbngpbejaaDoor.PFnSingMany
namespace Go.Proofs.YtiagfjbngpbejaaDoor.PFnSingMany
open Go.RowKit Go.Proofs.YtiagfjbngpbejaaDoorW.PrintWords Go.Proofs.YtiagfjbngpbejaaDoorW.PrintLast Go.Proofs.YtiagfjbngpbejaaDoorW.PrintMore
attribute [local go_sem] max2_int min2_int max_two min_two max_three min_three max_four min_four   -- for this text's walks alone
set_option linter.unusedVariables false
set_option linter.unusedSimpArgs false

def spec_ToneValid.f (a0_0 : Int) (a0_1 : Bool) : Option (Bool) := (spec_l6In.f a0_0 0 20).bind fun t161 => (if t161 = true then (if a0_1 = true then ((spec_l1Letter.f a0_0).bind fun t162 => (some (t162 == 2))) else (some true)) else (some false))
set_option maxHeartbeats 8000000 in
set_option maxRecDepth 100000 in
theorem spec_ToneValid.calls (a0_0 : Int) (a0_1 : Bool) (r : Bool) (w : World) (h : spec_ToneValid.f a0_0 a0_1 = some r) :
 Calls Tryd.prog 33 #[.agg #[.int .i64 a0_0, .bool a0_1]] w fun e w' => e = .returned (.bool r) ∧ Below w.heap.size w w' := by
 have hu29 := Tryd.underlying29; have HB := Aside0.mk (Below.refl w.heap.size w); have H : ((spec_l6In.f a0_0 0 20).bind fun t161 => (if t161 = true then (if a0_1 = true then ((spec_l1Letter.f a0_0).bind fun t162 => (some (t162 == 2))) else (some true)) else (some false))) = some r := h; clear h; replace H := Option.bind_eq_some_iff.mp H; obtain ⟨t161, A20, H⟩ := H; replace H : (if t161 = true then (if a0_1 = true then ((spec_l1Letter.f a0_0).bind fun t162 => (some (t162 == 2))) else (some true)) else (some false)) = some r := H; have A2 := Aside0.mk A20; clear A20; by_cases c3 : t161 = true
 ·
  subst c3; have H1 : (if a0_1 = true then ((spec_l1Letter.f a0_0).bind fun t162 => (some (t162 == 2))) else (some true)) = some r := by rw [if_pos rfl] at H; exact H
  clear H; have H := H1; clear H1; by_cases c4 : a0_1 = true
  ·
   subst c4; have H1 : ((spec_l1Letter.f a0_0).bind fun t162 => (some (t162 == 2))) = some r := by rw [if_pos rfl] at H; exact H
   clear H; have H := H1; clear H1; replace H := Option.bind_eq_some_iff.mp H; obtain ⟨t162, A50, H⟩ := H; replace H : (some (t162 == 2)) = some r := H; have A5 := Aside0.mk A50; clear A50; obtain rfl := Option.some.inj H; go_enter Tryd.func33, Tryd.ntmps33
   go_wp2_with (first | ((with_reducible refine gate_dst (N := 1) rfl ?_); refine box_event ?hg (N := 1) ?hd (cs := #[.int .i64 a0_0, .bool true]) (t := 29) ?hr ?_; (case hd => rfl); (case hg => rfl); (case hr => first | (go_simp; done) | (go_simp; rfl)); intro gb160 hg w6 hbox hb; have n0_ := Aside0.mk (below_step (by repeat (first | (with_reducible first | exact HB.out | apply below_alloc | apply pw_below_drewN | apply below_drew1) | exact HB.out)) hb); have n1_ := Aside0.mk (hbox); have n2_ := Aside0.mk ((by rw [hg]; exact (below_size (by repeat (first | (with_reducible first | exact HB.out | apply below_alloc | apply pw_below_drewN | apply below_drew1) | exact HB.out))) : w.heap.size ≤ gb160)); have n3_ := Aside0.mk ((by rw [hg]; exact (below_size (by repeat (first | (with_reducible first | exact HB.out | apply below_alloc | apply pw_below_drewN | apply below_drew1) | exact HB.out))) : w.heap.size ≤ gb160)); clear HB; have HB := n0_; have BK160 := n1_; have GW160 := n2_; have GE160 := n3_; clear n0_ n1_ n2_ n3_; clear hb hbox hg; have hcz7_0 : w6.cell? ⟨gb160, 0, none⟩ = some (.int .i64 a0_0) := (blk_cell BK160.out 0).trans rfl; have hcz7_1 : w6.cell? ⟨gb160, 1, none⟩ = some (.bool true) := (blk_cell BK160.out 1).trans rfl; have hfz7_0 := blk_frozen BK160.out 0; have hfz7_1 := blk_frozen BK160.out 1) | ((with_reducible refine gate_callee (f := 39) rfl ?_); refine goesL_ (some 5) rfl rfl Tryd.func39 (by kernel_rfl) rfl #[.int .i64 a0_0, .int .i64 0, .int .i64 20] rfl (by (try simp only [List.map_toArray, List.map_cons, List.map_nil]); first | done | rfl | (simp only [List.length_drop, List.length_take]; rfl)) ?_; (with_reducible refine (spec_l6In.calls a0_0 0 20 true _ A2.out).mono ?_); rintro e w' ⟨rfl, ⟨nd, rfl⟩⟩; refine ⟨_, rfl, ?_⟩) | (go_at_call 31; (with_reducible refine (spec_l1Letter.calls a0_0 t162 _ A5.out).mono ?_); rintro e w' ⟨rfl, ⟨nd, rfl⟩⟩))
   go_ret
   exact ⟨by first | rfl | (simp [errW_none, errW_some] <;> rfl) | (simp [*, errW_none, errW_some] <;> rfl), by repeat (first | (with_reducible first | exact HB.out | apply below_alloc | apply pw_below_drewN | apply below_drew1 | refine below_set ?_ GE160.out) | exact HB.out)⟩
  ·
   replace c4 := Bool.eq_false_iff.mpr c4; subst c4; have H1 : (some true) = some r := by rw [if_neg (show ¬ (false = true) by decide)] at H; exact H
   clear H; have H := H1; clear H1; obtain rfl := Option.some.inj H; go_enter Tryd.func33, Tryd.ntmps33
   go_wp2_with (first | ((with_reducible refine gate_dst (N := 1) rfl ?_); refine box_event ?hg (N := 1) ?hd (cs := #[.int .i64 a0_0, .bool false]) (t := 29) ?hr ?_; (case hd => rfl); (case hg => rfl); (case hr => first | (go_simp; done) | (go_simp; rfl)); intro gb160 hg w8 hbox hb; have n0_ := Aside0.mk (below_step (by repeat (first | (with_reducible first | exact HB.out | apply below_alloc | apply pw_below_drewN | apply below_drew1) | exact HB.out)) hb); have n1_ := Aside0.mk (hbox); have n2_ := Aside0.mk ((by rw [hg]; exact (below_size (by repeat (first | (with_reducible first | exact HB.out | apply below_alloc | apply pw_below_drewN | apply below_drew1) | exact HB.out))) : w.heap.size ≤ gb160)); have n3_ := Aside0.mk ((by rw [hg]; exact (below_size (by repeat (first | (with_reducible first | exact HB.out | apply below_alloc | apply pw_below_drewN | apply below_drew1) | exact HB.out))) : w.heap.size ≤ gb160)); clear HB; have HB := n0_; have BK160 := n1_; have GW160 := n2_; have GE160 := n3_; clear n0_ n1_ n2_ n3_; clear hb hbox hg; have hcz9_0 : w8.cell? ⟨gb160, 0, none⟩ = some (.int .i64 a0_0) := (blk_cell BK160.out 0).trans rfl; have hcz9_1 : w8.cell? ⟨gb160, 1, none⟩ = some (.bool false) := (blk_cell BK160.out 1).trans rfl; have hfz9_0 := blk_frozen BK160.out 0; have hfz9_1 := blk_frozen BK160.out 1) | ((with_reducible refine gate_callee (f := 39) rfl ?_); refine goesL_ (some 5) rfl rfl Tryd.func39 (by kernel_rfl) rfl #[.int .i64 a0_0, .int .i64 0, .int .i64 20] rfl (by (try simp only [List.map_toArray, List.map_cons, List.map_nil]); first | done | rfl | (simp only [List.length_drop, List.length_take]; rfl)) ?_; (with_reducible refine (spec_l6In.calls a0_0 0 20 true _ A2.out).mono ?_); rintro e w' ⟨rfl, ⟨nd, rfl⟩⟩; refine ⟨_, rfl, ?_⟩))
   go_ret
   exact ⟨by first | rfl | (simp [errW_none, errW_some] <;> rfl) | (simp [*, errW_none, errW_some] <;> rfl), by repeat (first | (with_reducible first | exact HB.out | apply below_alloc | apply pw_below_drewN | apply below_drew1 | refine below_set ?_ GE160.out) | exact HB.out)⟩
 ·
  replace c3 := Bool.eq_false_iff.mpr c3; subst c3; have H1 : (some false) = some r := by rw [if_neg (show ¬ (false = true) by decide)] at H; exact H
  clear H; have H := H1; clear H1; obtain rfl := Option.some.inj H; go_enter Tryd.func33, Tryd.ntmps33
  go_wp2_with (first | ((with_reducible refine gate_dst (N := 1) rfl ?_); refine box_event ?hg (N := 1) ?hd (cs := #[.int .i64 a0_0, .bool a0_1]) (t := 29) ?hr ?_; (case hd => rfl); (case hg => rfl); (case hr => first | (go_simp; done) | (go_simp; rfl)); intro gb160 hg w10 hbox hb; have n0_ := Aside0.mk (below_step (by repeat (first | (with_reducible first | exact HB.out | apply below_alloc | apply pw_below_drewN | apply below_drew1) | exact HB.out)) hb); have n1_ := Aside0.mk (hbox); have n2_ := Aside0.mk ((by rw [hg]; exact (below_size (by repeat (first | (with_reducible first | exact HB.out | apply below_alloc | apply pw_below_drewN | apply below_drew1) | exact HB.out))) : w.heap.size ≤ gb160)); have n3_ := Aside0.mk ((by rw [hg]; exact (below_size (by repeat (first | (with_reducible first | exact HB.out | apply below_alloc | apply pw_below_drewN | apply below_drew1) | exact HB.out))) : w.heap.size ≤ gb160)); clear HB; have HB := n0_; have BK160 := n1_; have GW160 := n2_; have GE160 := n3_; clear n0_ n1_ n2_ n3_; clear hb hbox hg; have hcz11_0 : w10.cell? ⟨gb160, 0, none⟩ = some (.int .i64 a0_0) := (blk_cell BK160.out 0).trans rfl; have hcz11_1 : w10.cell? ⟨gb160, 1, none⟩ = some (.bool a0_1) := (blk_cell BK160.out 1).trans rfl; have hfz11_0 := blk_frozen BK160.out 0; have hfz11_1 := blk_frozen BK160.out 1) | ((with_reducible refine gate_callee (f := 39) rfl ?_); refine goesL_ (some 5) rfl rfl Tryd.func39 (by kernel_rfl) rfl #[.int .i64 a0_0, .int .i64 0, .int .i64 20] rfl (by (try simp only [List.map_toArray, List.map_cons, List.map_nil]); first | done | rfl | (simp only [List.length_drop, List.length_take]; rfl)) ?_; (with_reducible refine (spec_l6In.calls a0_0 0 20 false _ A2.out).mono ?_); rintro e w' ⟨rfl, ⟨nd, rfl⟩⟩; refine ⟨_, rfl, ?_⟩))
  go_ret
  exact ⟨by first | rfl | (simp [errW_none, errW_some] <;> rfl) | (simp [*, errW_none, errW_some] <;> rfl), by repeat (first | (with_reducible first | exact HB.out | apply below_alloc | apply pw_below_drewN | apply below_drew1 | refine below_set ?_ GE160.out) | exact HB.out)⟩

end Go.Proofs.YtiagfjbngpbejaaDoor.PFnSingMany
namespace Go.Proofs.YtiagfjbngpbejaaDoor.PFnSingMany
open Go.RowKit Go.Proofs.YtiagfjbngpbejaaDoorW.PrintWords Go.Proofs.YtiagfjbngpbejaaDoorW.PrintLast Go.Proofs.YtiagfjbngpbejaaDoorW.PrintMore
attribute [local go_sem] max2_int min2_int max_two min_two max_three min_three max_four min_four   -- for this text's walks alone
set_option linter.unusedVariables false
set_option linter.unusedSimpArgs false

def spec_MelodyValid.l0 : Nat → List (S29) → Int → Option (Bool)
 | 0, _, _ => none
 | k + 1, x0, x3 => if x3 < (x0.length : Int) then (if 0 ≤ x3 then ((spec_ToneValid.f ((rd_T29 x0 x3).f0) ((rd_T29 x0 x3).f1)).bind fun t164 => (if t164 = true then (spec_MelodyValid.l0 k x0 (wrap64 (x3 + 1))) else (some false))) else (none)) else (some (decide ((x0.length : Int) ≤ 24)))
def spec_MelodyValid.f (k : Nat) (l0 : List (S29)) : Option (Bool) := spec_MelodyValid.l0 k l0 0
set_option maxHeartbeats 8000000 in
set_option maxRecDepth 100000 in
theorem spec_MelodyValid.calls (k : Nat) (A0 : Option Addr) (c0 : Nat) (l0 : List (S29)) (r : Bool) (w : World) (hr0 : Kd.C k29 w A0 l0.length l0) (hc0 : l0.length ≤ c0) (h : spec_MelodyValid.f k l0 = some r) :
 Calls Tryd.prog 21 #[.slice A0 l0.length c0] w fun e w' => e = .returned (.bool r) ∧ Below w.heap.size w w' := by
 have hu29 := Tryd.underlying29; have HR0 := Aside0.mk hr0; have HC0 := Aside0.mk hc0; clear hr0 hc0; have HB := Aside0.mk (Below.refl w.heap.size w); have H : (spec_MelodyValid.l0 k l0 0) = some r := h; clear h; have H' := Aside0.mk H; clear H; go_enter Tryd.func21, Tryd.ntmps21
 go_wp2; go_loopg [3] k (fun kq v3 w' => ∃ (x3_1 : Int), v3 = .int .i64 x3_1 ∧ Aside0 (spec_MelodyValid.l0 kq l0 x3_1 = some r) ∧ Aside0 (kq ≤ k) ∧ Aside0 (Below w.heap.size w w'))
 case atStart => exact ⟨(0), (by first | rfl | (simp; done) | (simp [*]; done)), H', ⟨Nat.le_refl _⟩, ⟨by repeat (first | (with_reducible first | exact HB.out | apply below_alloc | apply pw_below_drewN | apply below_drew1) | exact HB.out)⟩⟩
 case round =>
  clear H'; obtain ⟨x3_1, rfl, HA, HK1, HB⟩ := hrel; cases gk with
  | zero => exact absurd HA.out (by simp [spec_MelodyValid.l0])
  | succ k1 =>
   have H := HA.out; clear HA; simp only [spec_MelodyValid.l0] at H; by_cases c2 : x3_1 < (l0.length : Int)
   ·
    rw [if_pos c2] at H; have c2b0 : decide (x3_1 < (l0.length : Int)) = true := decide_eq_true c2; clear c2; by_cases c3 : 0 ≤ x3_1
    ·
     rw [if_pos c3] at H; have c3b0 : decide (0 ≤ x3_1) = true := decide_eq_true c3; clear c3; replace H := Option.bind_eq_some_iff.mp H; obtain ⟨t164, A40, H⟩ := H; replace H : (if t164 = true then (spec_MelodyValid.l0 k1 l0 (wrap64 (x3_1 + 1))) else (some false)) = some r := H; have A4 := Aside0.mk A40; clear A40; by_cases c5 : t164 = true
     ·
      subst c5; have H1 : (spec_MelodyValid.l0 k1 l0 (wrap64 (x3_1 + 1))) = some r := by rw [if_pos rfl] at H; exact H
      clear H; have H := H1; clear H1; have H' := Aside0.mk H; clear H; have p163 : 0 ≤ (x3_1 : Int) := of_decide_eq_true (by first | (with_reducible assumption) | assumption); have q163 : x3_1 < (l0.length : Int) := of_decide_eq_true (by first | (with_reducible assumption) | assumption); obtain ⟨ad163, e163, hx163_0, hx163_1⟩ := at_T29 HR0.out x3_1 p163 q163; cases e163; replace hx163_0 := (HB.out.cell (World.block_lt_of_cell? w _ hx163_0)).trans hx163_0; replace hx163_1 := (HB.out.cell (World.block_lt_of_cell? w _ hx163_1)).trans hx163_1; replace p163 := eq_true p163; replace q163 := eq_true q163; go_wp2_with (first | ((with_reducible refine gate_callee (f := 33) rfl ?_); refine goesL_ (some 14) rfl rfl Tryd.func33 (by kernel_rfl) rfl #[.agg #[.int .i64 ((rd_T29 l0 x3_1).f0), .bool ((rd_T29 l0 x3_1).f1)]] rfl (by (try simp only [List.map_toArray, List.map_cons, List.map_nil]); first | done | rfl | (simp only [List.length_drop, List.length_take]; rfl)) ?_; (with_reducible refine (spec_ToneValid.calls ((rd_T29 l0 x3_1).f0) ((rd_T29 l0 x3_1).f1) true _ A4.out).mono ?_); rintro e w6 ⟨rfl, hb⟩; refine ⟨_, rfl, ?_⟩; have n0_ := Aside0.mk (below_step (by repeat (first | (with_reducible first | exact HB.out | apply below_alloc | apply pw_below_drewN | apply below_drew1) | exact HB.out)) hb); clear HB; have HB := n0_; clear n0_; (try clear hb); (try clear hb2); (try clear hk); (try clear hi)))
      go_roundg k1
      case measure => have := HK1.out; omega
      case rel => exact ⟨(wrap64 (x3_1 + 1)), (by first | rfl | (simp; done) | (simp [*]; done)), H', ⟨by have := HK1.out; omega⟩, ⟨by repeat (first | (with_reducible first | exact HB.out | apply below_alloc | apply pw_below_drewN | apply below_drew1) | exact HB.out)⟩⟩
     ·
      replace c5 := Bool.eq_false_iff.mpr c5; subst c5; have H1 : (some false) = some r := by rw [if_neg (show ¬ (false = true) by decide)] at H; exact H
      clear H; have H := H1; clear H1; obtain rfl := Option.some.inj H; have p163 : 0 ≤ (x3_1 : Int) := of_decide_eq_true (by first | (with_reducible assumption) | assumption); have q163 : x3_1 < (l0.length : Int) := of_decide_eq_true (by first | (with_reducible assumption) | assumption); obtain ⟨ad163, e163, hx163_0, hx163_1⟩ := at_T29 HR0.out x3_1 p163 q163; cases e163; replace hx163_0 := (HB.out.cell (World.block_lt_of_cell? w _ hx163_0)).trans hx163_0; replace hx163_1 := (HB.out.cell (World.block_lt_of_cell? w _ hx163_1)).trans hx163_1; replace p163 := eq_true p163; replace q163 := eq_true q163; go_wp2_with (first | ((with_reducible refine gate_callee (f := 33) rfl ?_); refine goesL_ (some 14) rfl rfl Tryd.func33 (by kernel_rfl) rfl #[.agg #[.int .i64 ((rd_T29 l0 x3_1).f0), .bool ((rd_T29 l0 x3_1).f1)]] rfl (by (try simp only [List.map_toArray, List.map_cons, List.map_nil]); first | done | rfl | (simp only [List.length_drop, List.length_take]; rfl)) ?_; (with_reducible refine (spec_ToneValid.calls ((rd_T29 l0 x3_1).f0) ((rd_T29 l0 x3_1).f1) false _ A4.out).mono ?_); rintro e w7 ⟨rfl, hb⟩; refine ⟨_, rfl, ?_⟩; have n0_ := Aside0.mk (below_step (by repeat (first | (with_reducible first | exact HB.out | apply below_alloc | apply pw_below_drewN | apply below_drew1) | exact HB.out)) hb); clear HB; have HB := n0_; clear n0_; (try clear hb); (try clear hb2); (try clear hk); (try clear hi)))
      go_ret
      exact ⟨by first | rfl | (simp [errW_none, errW_some] <;> rfl) | (simp [*, errW_none, errW_some] <;> rfl), by repeat (first | (with_reducible first | exact HB.out | apply below_alloc | apply pw_below_drewN | apply below_drew1) | exact HB.out)⟩
    ·
     rw [if_neg c3] at H; exact absurd H (by simp)
   ·
    rw [if_neg c2] at H; have c2b0 : decide (x3_1 < (l0.length : Int)) = false := decide_eq_false c2; clear c2; obtain rfl := Option.some.inj H; go_wp2; go_ret
    exact ⟨by first | rfl | (simp [errW_none, errW_some] <;> rfl) | (simp [*, errW_none, errW_some] <;> rfl), by repeat (first | (with_reducible first | exact HB.out | apply below_alloc | apply pw_below_drewN | apply below_drew1) | exact HB.out)⟩

end Go.Proofs.YtiagfjbngpbejaaDoor.PFnSingMany
namespace Go.Proofs.YtiagfjbngpbejaaDoor.PFnSingMany
open Go.RowKit Go.Proofs.YtiagfjbngpbejaaDoorW.PrintWords Go.Proofs.YtiagfjbngpbejaaDoorW.PrintLast Go.Proofs.YtiagfjbngpbejaaDoorW.PrintMore
attribute [local go_sem] max2_int min2_int max_two min_two max_three min_three max_four min_four   -- for this text's walks alone
set_option linter.unusedVariables false
set_option linter.unusedSimpArgs false

def spec_HexValid.f (a0 : Int) : Option (Bool) := (spec_l6In.f a0 0 15).bind fun t165 => (if t165 = true then ((spec_l1Letter.f a0).bind fun t166 => (if t166 = 0 then (some true) else (if t166 = 3 then (some true) else (some (t166 == 6))))) else (some false))
set_option maxHeartbeats 8000000 in
set_option maxRecDepth 100000 in
theorem spec_HexValid.calls (a0 : Int) (r : Bool) (w : World) (h : spec_HexValid.f a0 = some r) :
 Calls Tryd.prog 41 #[.int .i64 a0] w fun e w' => e = .returned (.bool r) ∧ Drawn0 w w' := by
 have H : ((spec_l6In.f a0 0 15).bind fun t165 => (if t165 = true then ((spec_l1Letter.f a0).bind fun t166 => (if t166 = 0 then (some true) else (if t166 = 3 then (some true) else (some (t166 == 6))))) else (some false))) = some r := h; clear h; replace H := Option.bind_eq_some_iff.mp H; obtain ⟨t165, A20, H⟩ := H; replace H : (if t165 = true then ((spec_l1Letter.f a0).bind fun t166 => (if t166 = 0 then (some true) else (if t166 = 3 then (some true) else (some (t166 == 6))))) else (some false)) = some r := H; have A2 := Aside0.mk A20; clear A20; by_cases c3 : t165 = true
 ·
  subst c3; have H1 : ((spec_l1Letter.f a0).bind fun t166 => (if t166 = 0 then (some true) else (if t166 = 3 then (some true) else (some (t166 == 6))))) = some r := by rw [if_pos rfl] at H; exact H
  clear H; have H := H1; clear H1; replace H := Option.bind_eq_some_iff.mp H; obtain ⟨t166, A40, H⟩ := H; replace H : (if t166 = 0 then (some true) else (if t166 = 3 then (some true) else (some (t166 == 6)))) = some r := H; have A4 := Aside0.mk A40; clear A40; by_cases c5 : t166 = 0
  ·
   rw [if_pos c5] at H; have c5b0 : (t166 == 0) = true := beq_iff_eq.mpr c5; have c5b1 : (t166 != 0) = false := bne_eq_false_iff_eq.mpr c5; clear c5; obtain rfl := Option.some.inj H; go_enter Tryd.func41, Tryd.ntmps41
   go_wp2_with (first | ((with_reducible refine gate_callee (f := 39) rfl ?_); refine goesL_ (some 5) rfl rfl Tryd.func39 (by kernel_rfl) rfl #[.int .i64 a0, .int .i64 0, .int .i64 15] rfl (by (try simp only [List.map_toArray, List.map_cons, List.map_nil]); first | done | rfl | (simp only [List.length_drop, List.length_take]; rfl)) ?_; (with_reducible refine (spec_l6In.calls a0 0 15 true _ A2.out).mono ?_); rintro e w' ⟨rfl, ⟨nd, rfl⟩⟩; refine ⟨_, rfl, ?_⟩) | ((with_reducible refine gate_callee (f := 31) rfl ?_); refine goesL_ (some 8) rfl rfl Tryd.func31 (by kernel_rfl) rfl #[.int .i64 a0] rfl (by (try simp only [List.map_toArray, List.map_cons, List.map_nil]); first | done | rfl | (simp only [List.length_drop, List.length_take]; rfl)) ?_; (with_reducible refine (spec_l1Letter.calls a0 t166 _ A4.out).mono ?_); rintro e w' ⟨rfl, ⟨nd, rfl⟩⟩; refine ⟨_, rfl, ?_⟩))
   go_ret
   exact ⟨by first | rfl | (simp; done) | (simp [*]; done), by repeat (first | exact Drawn0.refl _ | apply Drawn0.step)⟩
  ·
   rw [if_neg c5] at H; have c5b0 : (t166 == 0) = false := beq_eq_false_iff_ne.mpr c5; have c5b1 : (t166 != 0) = true := bne_iff_ne.mpr c5; by_cases c6 : t166 = 3
   ·
    rw [if_pos c6] at H; have c6b0 : (t166 == 3) = true := beq_iff_eq.mpr c6; have c6b1 : (t166 != 3) = false := bne_eq_false_iff_eq.mpr c6; clear c6; obtain rfl := Option.some.inj H; go_enter Tryd.func41, Tryd.ntmps41
    go_wp2_with (first | ((with_reducible refine gate_callee (f := 39) rfl ?_); refine goesL_ (some 5) rfl rfl Tryd.func39 (by kernel_rfl) rfl #[.int .i64 a0, .int .i64 0, .int .i64 15] rfl (by (try simp only [List.map_toArray, List.map_cons, List.map_nil]); first | done | rfl | (simp only [List.length_drop, List.length_take]; rfl)) ?_; (with_reducible refine (spec_l6In.calls a0 0 15 true _ A2.out).mono ?_); rintro e w' ⟨rfl, ⟨nd, rfl⟩⟩; refine ⟨_, rfl, ?_⟩) | ((with_reducible refine gate_callee (f := 31) rfl ?_); refine goesL_ (some 8) rfl rfl Tryd.func31 (by kernel_rfl) rfl #[.int .i64 a0] rfl (by (try simp only [List.map_toArray, List.map_cons, List.map_nil]); first | done | rfl | (simp only [List.length_drop, List.length_take]; rfl)) ?_; (with_reducible refine (spec_l1Letter.calls a0 t166 _ A4.out).mono ?_); rintro e w' ⟨rfl, ⟨nd, rfl⟩⟩; refine ⟨_, rfl, ?_⟩))
    go_ret
    exact ⟨by first | rfl | (simp; done) | (simp [*]; done), by repeat (first | exact Drawn0.refl _ | apply Drawn0.step)⟩
   ·
    rw [if_neg c6] at H; have c6b0 : (t166 == 3) = false := beq_eq_false_iff_ne.mpr c6; have c6b1 : (t166 != 3) = true := bne_iff_ne.mpr c6; obtain rfl := Option.some.inj H; go_enter Tryd.func41, Tryd.ntmps41
    go_wp2_with (first | ((with_reducible refine gate_callee (f := 39) rfl ?_); refine goesL_ (some 5) rfl rfl Tryd.func39 (by kernel_rfl) rfl #[.int .i64 a0, .int .i64 0, .int .i64 15] rfl (by (try simp only [List.map_toArray, List.map_cons, List.map_nil]); first | done | rfl | (simp only [List.length_drop, List.length_take]; rfl)) ?_; (with_reducible refine (spec_l6In.calls a0 0 15 true _ A2.out).mono ?_); rintro e w' ⟨rfl, ⟨nd, rfl⟩⟩; refine ⟨_, rfl, ?_⟩) | ((with_reducible refine gate_callee (f := 31) rfl ?_); refine goesL_ (some 8) rfl rfl Tryd.func31 (by kernel_rfl) rfl #[.int .i64 a0] rfl (by (try simp only [List.map_toArray, List.map_cons, List.map_nil]); first | done | rfl | (simp only [List.length_drop, List.length_take]; rfl)) ?_; (with_reducible refine (spec_l1Letter.calls a0 t166 _ A4.out).mono ?_); rintro e w' ⟨rfl, ⟨nd, rfl⟩⟩; refine ⟨_, rfl, ?_⟩))
    go_ret
    exact ⟨by first | rfl | (simp; done) | (simp [*]; done), by repeat (first | exact Drawn0.refl _ | apply Drawn0.step)⟩
 ·
  replace c3 := Bool.eq_false_iff.mpr c3; subst c3; have H1 : (some false) = some r := by rw [if_neg (show ¬ (false = true) by decide)] at H; exact H
  clear H; have H := H1; clear H1; obtain rfl := Option.some.inj H; go_enter Tryd.func41, Tryd.ntmps41
  go_wp2_with (first | ((with_reducible refine gate_callee (f := 39) rfl ?_); refine goesL_ (some 5) rfl rfl Tryd.func39 (by kernel_rfl) rfl #[.int .i64 a0, .int .i64 0, .int .i64 15] rfl (by (try simp only [List.map_toArray, List.map_cons, List.map_nil]); first | done | rfl | (simp only [List.length_drop, List.length_take]; rfl)) ?_; (with_reducible refine (spec_l6In.calls a0 0 15 false _ A2.out).mono ?_); rintro e w' ⟨rfl, ⟨nd, rfl⟩⟩; refine ⟨_, rfl, ?_⟩))
  go_ret
  exact ⟨by first | rfl | (simp; done) | (simp [*]; done), by repeat (first | exact Drawn0.refl _ | apply Drawn0.step)⟩

end Go.Proofs.YtiagfjbngpbejaaDoor.PFnSingMany
