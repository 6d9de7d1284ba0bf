/- Lemmas on the printed functions for the law FnExactModeAll. -/
import Derived.Test.YtkahgjejebhgnaaDoorQFnExactModeAllq0
import Derived.Test.YtkahgjejebhgnaaDoorQFnExactModeAllq1
import Derived.Deep.RegionHeld3
import Derived.BigRegion
import Derived.Deep.Slices
import Derived.Laws.CopyOwn
namespace Go.Proofs.YtkahgjejebhgnaaDoor.Pure
set_option linter.unusedVariables false
set_option linter.unusedSimpArgs false
open Go Go.RowKit Go.Proofs.YtkahgjejebhgnaaDoor.PFnExactModeAll Go.Proofs.YtkahgjejebhgnaaDoorW.PrintWords Go.Proofs.YtkahgjejebhgnaaDoorW.PrintLast Go.Proofs.YtkahgjejebhgnaaDoorW.PrintMore

/-! a linked melody -/
def Lk (w : World) (B : Nat) : Value → List S55 → Prop
  | v, [] => v = .pointer none
  | v, x :: xs => ∃ b nx, v = .pointer (some ⟨b, 0, none⟩) ∧ B ≤ b ∧ w.heap[b]? = some (.cells #[.int .i64 x.f0, .bool x.f1, nx] 101 (0, 0)) ∧ Lk w B nx xs
theorem Lk.below {w w' : World} {B : Nat} (hb : Below w.heap.size w w') : ∀ {xs : List S55} {v : Value}, Lk w B v xs → Lk w' B v xs
  | [], _, h => h
  | x :: xs, _, ⟨b, nx, h1, h2, h3, h4⟩ => ⟨b, nx, h1, h2, (hb.block _ (blk_lt h3)).trans h3, Lk.below hb h4⟩
theorem Lk.ptr {w : World} {B : Nat} : ∀ {xs : List S55} {v : Value}, Lk w B v xs → ∃ p, v = .pointer p
  | [], _, h => ⟨_, h⟩
  | x :: xs, _, ⟨b, nx, h1, _⟩ => ⟨_, h1⟩
set_option maxHeartbeats 4000000 in
set_option maxRecDepth 100000 in
theorem impl_linked_calls (m : List S55) (A0 : Option Addr) (c0 : Nat) (w : World) (hr0 : Kd.C k55 w A0 m.length m) (hc0 : m.length ≤ c0) (hm : m.length ≤ 1000000000000) :
    Calls Tryd.prog 80 #[.slice A0 m.length c0] w fun e w' => ∃ v, e = .returned v ∧ Lk w' w.heap.size v m ∧ Below w.heap.size w w' := by
  have HR0 := Aside0.mk hr0
  have HC0 := Aside0.mk hc0
  clear hr0 hc0
  have hu := Tryd.underlying101
  have hu1 := Tryd.underlying55
  go_enter Tryd.func80, Tryd.ntmps80
  go_wp2
  go_loopg [3, 4] m.length (fun kq v3 v4 w' => ∃ (i : Int), v4 = .int .i64 i ∧ Aside0 (kq = (i + 1).toNat ∧ -1 ≤ i ∧ i < (m.length : Int)) ∧ Aside0 (Lk w' w.heap.size v3 (m.drop (i + 1).toNat)) ∧ Aside0 (Below w.heap.size w w'))
  case atStart =>
    have e : ((m.length : Int) - 1 + 1).toNat = m.length := by omega
    have hL : Lk w w.heap.size (.pointer none) (m.drop ((m.length : Int) - 1 + 1).toNat) := by rw [e, List.drop_length]; rfl
    exact ⟨(m.length : Int) - 1, rfl, ⟨by omega, by omega, by omega⟩, ⟨hL⟩, ⟨by repeat (first | exact Below.refl _ _ | apply below_alloc | apply pw_below_drewN | apply below_drew1)⟩⟩
  case round =>
    obtain ⟨i, rfl, HX, HL, HB⟩ := hrel
    obtain ⟨hk, hi0, hi1⟩ := HX.out
    obtain ⟨p, rfl⟩ := HL.out.ptr
    by_cases h : 0 ≤ i
    · have d1 : decide (0 ≤ i) = true := decide_eq_true h
      obtain ⟨ad, e1, ux0, ux1⟩ := at_T55 HR0.out i h hi1
      subst e1
      have hx0 := (HB.out.cell (World.block_lt_of_cell? w _ ux0)).trans ux0
      have hx1 := (HB.out.cell (World.block_lt_of_cell? w _ ux1)).trans ux1
      obtain ⟨X, hX⟩ : ∃ X, X = rd_T55 m i := ⟨_, rfl⟩
      rw [← hX] at hx0 hx1
      have hdr : Aside0 (m.drop (i - 1 + 1).toNat = X :: m.drop (i + 1).toNat) := by
        have e0 : (i - 1 + 1).toNat = i.toNat := by omega
        have e1 : (i + 1).toNat = i.toNat + 1 := by omega
        refine ⟨?_⟩
        rw [e0, e1, List.drop_eq_getElem_cons (by omega), hX]
        unfold rd_T55
        rw [List.getD_eq_getElem?_getD, List.getElem?_eq_getElem (by omega)]; rfl
      have NX : Aside0 ((i - 1 + 1).toNat < gk ∧ -1 ≤ i - 1 ∧ i - 1 < (m.length : Int)) := ⟨by omega, by omega, by omega⟩
      have j0 := eq_true h
      have j1 := eq_true hi1
      clear hX ux0 ux1 hk
      go_wp2_with ((with_reducible refine gate_dst (N := 18) rfl ?_); refine box_event ?hg (N := 18) ?hd (cs := #[.int .i64 X.f0, .bool X.f1, .pointer p]) (t := 101) ?hr ?_; (case hd => rfl); (case hg => rfl); (case hr => first | (go_simp; done) | (go_simp; rfl)); intro gb hg w3 hbox hb3; have HBX := Aside0.mk hbox; have HL3 := Aside0.mk (HL.out.below hb3); have HB3 := Aside0.mk (below_step HB.out hb3); have GW := Aside0.mk (show w.heap.size ≤ gb from (by rw [hg]; exact HB.out.size)); clear hg hbox hb3)
      go_roundg ((i - 1 + 1).toNat)
      case measure => exact NX.out.1
      case rel => exact ⟨i - 1, rfl, ⟨rfl, NX.out.2⟩, ⟨by rw [hdr.out]; exact ⟨gb, _, rfl, GW.out, HBX.out, HL3.out⟩⟩, HB3⟩
    · have d1 : decide (0 ≤ i) = false := decide_eq_false h
      obtain rfl : i = -1 := by omega
      have HL' := HL.out
      go_wp2
      go_ret
      exact ⟨_, rfl, HL', HB.out⟩

end Go.Proofs.YtkahgjejebhgnaaDoor.Pure
