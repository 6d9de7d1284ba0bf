/- Lemmas on the printed functions for the law FnExactFormulasUsed. -/
import Derived.Test.YtnemcppllfmioaaQFnExactFormulasUsedq0
import Derived.Test.YtnemcppllfmioaaQFnExactFormulasUsedq1
import Derived.Test.YtnemcppllfmioaaQFnExactFormulasUsedq2
import Derived.Test.YtnemcppllfmioaaQFnExactFormulasUsedq3
import Derived.Deep.RegionHeld3
import Derived.BigRegion
import Derived.Deep.Slices
import Derived.Laws.CopyOwn
namespace Go.Proofs.Ytnemcppllfmioaa.Pure
set_option linter.unusedVariables false
set_option linter.unusedSimpArgs false
open Go Go.RowKit Go.Proofs.Ytnemcppllfmioaa.PFnExactFormulasUsed Go.Proofs.YtnemcppllfmioaaW.PrintWords Go.Proofs.YtnemcppllfmioaaW.PrintLast Go.Proofs.YtnemcppllfmioaaW.PrintMore

/-- What holds between two places. -/
structure UJ (L : List S55) (A0 : Option Addr) (c0 : Nat) (B M F1 F2 F4 : Nat) (v0 v1 v2 : Value) (s : List Bool × List Bool) (w : World) : Prop where
  bw : B ≤ w.heap.size
  k1 : w.heap[F1]? = some (.cells #[v1] 116 (0, 0))
  k2 : w.heap[F2]? = some (.cells #[v2] 116 (0, 0))
  k4 : w.heap[F4]? = some (.cells #[.slice A0 L.length c0] 38 (0, 0))
  r1 : Kd.R Kd.bool 4 w B (fun k => k < M) v1 s.1
  r2 : Kd.R Kd.bool 4 w B (fun k => M ≤ k) v2 s.2
  r0 : Kd.R (Kd.int .i64) 3 w B (fun _ => True) v0 ([] : List Int)
theorem UJ.below {L : List S55} {A0 : Option Addr} {c0 B M F1 F2 F4 : Nat} {v0 v1 v2 : Value} {s : List Bool × List Bool} {w w' : World} (h : UJ L A0 c0 B M F1 F2 F4 v0 v1 v2 s w) (hb : Below w.heap.size w w') : UJ L A0 c0 B M F1 F2 F4 v0 v1 v2 s w' :=
  ⟨Nat.le_trans h.bw hb.size, blk_below h.k1 hb, blk_below h.k2 hb, blk_below h.k4 hb, Kd.R_below h.r1 hb, Kd.R_below h.r2 hb, Kd.R_below h.r0 hb⟩
theorem usedFrom_step {L : List S55} {S : List Int} {p : Nat} : usedFrom L S (p + 1) = if (usedFrom L S p).2.getD p false = true then mkU L p (rdCalls L (S.drop p)) (usedFrom L S p) else usedFrom L S p := rfl
theorem used_in {L : List S55} {S : List Int} {p : Nat} (hp : p < S.length) {h : List (Int × OutC)} {i : Int} {o : OutC} (he : ∃ r, h ++ (i, o) :: r = [] ++ rdCalls L (S.drop p)) : p + (rd_T55 L i).f0.length ≤ S.length := by
  obtain ⟨r, hr⟩ := he
  rw [List.nil_append] at hr
  have hm : (i, o) ∈ rdCalls L (S.drop p) := by rw [← hr]; simp
  have hne : S.drop p ≠ [] := by
    intro h
    have := congrArg List.length h
    rw [List.length_drop, List.length_nil] at this; omega
  have hcl : rdCalls L (S.drop p) = rdC (rdO L) (S.drop p) ((0 : Nat) : Int) L := if_neg hne
  rw [hcl] at hm
  have := isPre_len (rdC_mem L 0 rfl hm).2.2.1
  rw [List.length_drop] at this
  omega
theorem idxT_at {U : List Bool} {q : Nat} (hq : q < U.length) : idxT (q : Int) (U.drop q) = if U.getD q false = true then (q : Int) :: idxT ((q + 1 : Nat) : Int) (U.drop (q + 1)) else idxT ((q + 1 : Nat) : Int) (U.drop (q + 1)) := by
  rw [List.drop_eq_getElem_cons hq]
  have e : U.getD q false = U[q] := by rw [List.getD_eq_getElem?_getD, List.getElem?_eq_getElem hq]; rfl
  rw [e]
  rfl
set_option maxHeartbeats 4000000 in
set_option maxRecDepth 100000 in
theorem impl_FormulasUsed_calls (L : List S55) (S : List Int) (A0 : Option Addr) (c0 : Nat) (A1 : Option Addr) (c1 : Nat) (w : World) (hr0 : Kd.C k55 w A0 L.length L) (hc0 : L.length ≤ c0) (hr1 : Kd.C (Kd.int .i64) w A1 S.length S) (hc1 : S.length ≤ c1) (hL : ∀ x ∈ L, x.f0.length ≤ 1000000000000) (hS : S.length ≤ 1000000000000) :
    Calls Try.prog 35 #[.slice A0 L.length c0, .slice A1 S.length c1] w fun e w' => ∃ v, e = .returned v ∧ Kd.R (Kd.int .i64) 3 w' w.heap.size (fun _ => True) v (fUsed L S) ∧ Below w.heap.size w w' := by
  have hu1 := Try.underlying109
  have hmf : ∀ (fn : Fn) (first cap : Array Value) (w : World), (Instr.makeFunc fn first cap).run Try.prog w = .ok (.func fn first cap) w := fun _ _ _ _ => rfl
  have HI := Aside0.mk info3
  have HR0 := Aside0.mk hr0
  have HR1 := Aside0.mk hr1
  have HCC := Aside0.mk (And.intro hc0 (And.intro hc1 (And.intro hL hS)))
  clear hr0 hr1 hc0 hc1 hL hS
  cases hok : okR L S
  · have e : fUsed L S = [] := by unfold fUsed; rw [hok]; rfl
    rw [e]
    have HOK := Aside0.mk hok
    clear hok e
    go_enter Try.func35, Try.ntmps35
    go_wp2_with (first
      | ((with_reducible refine gate_dst (N := 2) rfl ?_); refine box_event ?hg (N := 2) ?hd (cs := #[.slice A0 L.length c0]) (t := 38) ?hr ?_; (case hd => rfl); (case hg => rfl); (case hr => first | (go_simp; done) | (go_simp; rfl)); intro F4 hg w2 hbox hb; have HB2 := Aside0.mk hb; have k0 : w2.cell? ⟨F4, 0, none⟩ = some (.slice A0 L.length c0) := (blk_cell hbox 0).trans rfl; have HK4 := Aside0.mk hbox; clear hg hbox hb)
      | ((with_reducible refine gate_dst (N := 13) rfl ?_); refine Kd.R_lit (Kd.int .i64) _ 3 ?hg (N := 13) ?hd (xs := ([] : List Int)) (inner := []) (ok := fun _ => True) (okp := fun _ => True) ?hr (Reps.none _ _) (fun _ hk => hk) trivial (Below.refl _ _) (Nat.le_refl _) (by simp) ?_; (case hd => rfl); (case hg => rfl); (case hr => first | (go_simp; done) | (go_simp; rfl)); intro v0 w3 ho3 hb3 _ _; obtain ⟨A3, c3, rfl⟩ := Kd.R_slice ho3; have HO3 := Aside0.mk (Kd.R_lower ho3 HB2.out.size); have HB3 := Aside0.mk (below_step HB2.out hb3); have k0 : w3.cell? ⟨F4, 0, none⟩ = some (.slice A0 L.length c0) := (blk_cell (blk_below HK4.out hb3) 0).trans rfl; clear ho3 hb3)
      | (go_at_call 77; refine (impl_newReader_no (Kd.C_below HR0.out HB3.out) HCC.out.1 (Kd.C_below HR1.out HB3.out) HCC.out.2.1 HCC.out.2.2.1 HCC.out.2.2.2 HOK.out).mono ?_; rintro e w4 ⟨rfl, hb4⟩; have HB4 := Aside0.mk (below_step HB3.out hb4); have HO4 := Aside0.mk (Kd.R_below HO3.out hb4); clear hb4))
    go_ret
    exact ⟨_, rfl, HO4.out, HB4.out⟩
  · obtain ⟨l1, l2, l3⟩ := okR_lens hok
    obtain ⟨D, hD⟩ : ∃ D, D = fUsed L S := ⟨_, rfl⟩
    have hD2 : D = idxT 0 (usedFrom L S S.length).1 := by rw [hD]; unfold fUsed; rw [hok, if_pos rfl]
    rw [← hD]
    have HD := Aside0.mk hD2
    have HOK := Aside0.mk hok
    have HLS := Aside0.mk (And.intro l1 (And.intro l2 l3))
    clear hok hD hD2 l1
    go_enter Try.func35, Try.ntmps35
    go_upto_region 5 with (first
      | ((with_reducible refine gate_dst (N := 2) rfl ?_); refine box_event ?hg (N := 2) ?hd (cs := #[.slice A0 L.length c0]) (t := 38) ?hr ?_; (case hd => rfl); (case hg => rfl); (case hr => first | (go_simp; done) | (go_simp; rfl)); intro F4 hg w2 hbox hb; have HB2 := Aside0.mk hb; have k0 : w2.cell? ⟨F4, 0, none⟩ = some (.slice A0 L.length c0) := (blk_cell hbox 0).trans rfl; have HK4 := Aside0.mk hbox; clear hg hbox hb)
      | ((with_reducible refine gate_dst (N := 13) rfl ?_); refine Kd.R_lit (Kd.int .i64) _ 3 ?hg (N := 13) ?hd (xs := ([] : List Int)) (inner := []) (ok := fun _ => True) (okp := fun _ => True) ?hr (Reps.none _ _) (fun _ hk => hk) trivial (Below.refl _ _) (Nat.le_refl _) (by simp) ?_; (case hd => rfl); (case hg => rfl); (case hr => first | (go_simp; done) | (go_simp; rfl)); intro v0 w3 ho3 hb3 _ _; have HO3 := Aside0.mk (Kd.R_lower ho3 HB2.out.size); have HB3 := Aside0.mk (below_step HB2.out hb3); have HK43 := Aside0.mk (blk_below HK4.out hb3); have k0 : w3.cell? ⟨F4, 0, none⟩ = some (.slice A0 L.length c0) := (blk_cell HK43.out 0).trans rfl; clear ho3 hb3)
      | (go_at_call 77; refine (impl_newReader_yes (Kd.C_below HR0.out HB3.out) HCC.out.1 (Kd.C_below HR1.out HB3.out) HCC.out.2.1 HCC.out.2.2.1 HCC.out.2.2.2 HOK.out).mono ?_; rintro e w4 ⟨R, Mm, rfl, hst, hM, hR, hRM⟩; have HMR := Aside0.mk (And.intro (Nat.le_trans HB3.out.size hM) (And.intro (Nat.le_trans HB3.out.size hR) hRM)); have HST4 := Aside0.mk (hst.lower HB3.out); have HO4 := Aside0.mk (Kd.R_below HO3.out hst.below); have HK44 := Aside0.mk (blk_below HK43.out hst.below); clear hst hM hR hRM))
    (try simp only [Act.put, List.setIfInBounds_toArray, List.set_cons_zero, List.set_cons_succ])
    have k4 : w4.cell? ⟨F4, 0, none⟩ = some (.slice A0 L.length c0) := (blk_cell HK44.out 0).trans rfl
    clear k0
    go_upto_region 6 with (first
      | ((with_reducible refine gate_dst (N := 25) rfl ?_); refine Kd.R_make Kd.bool _ 4 rfl (N := 25) rfl 116 _ _ rfl (L.length : Int) rfl rfl Try.underlying116 (.bool false) 1 infoB rfl (by decide) (by omega) false (ok := fun _ => True) (okp := fun _ => True) rfl (fun _ hk => hk) trivial (by omega) (by omega) (Below.refl _ _) (Nat.le_refl _) ?_; intro v1 w5 ho5 hb5 _ _; obtain ⟨U0, hU0⟩ : ∃ U0, U0 = List.replicate ((L.length : Int)).toNat false := ⟨_, rfl⟩; rw [← hU0] at ho5; have HU0 := Aside0.mk hU0; clear hU0; obtain ⟨A5, c5, rfl⟩ := Kd.R_slice ho5; have HO5 := Aside0.mk ho5; have HB5 := Aside0.mk hb5; clear ho5 hb5)
      | ((with_reducible refine gate_dst (N := 8) rfl ?_); refine box_event ?hg (N := 8) ?hd (cs := #[.slice none 0 0]) (t := 116) ?hr ?_; (case hd => rfl); (case hg => rfl); (case hr => first | (go_simp; done) | (go_simp; rfl)); intro F1 hg w6 hbox hb; have HBK6 := Aside0.mk hbox; have HO6 := Aside0.mk (Kd.R_below HO5.out hb); have HB6 := Aside0.mk (below_step HB5.out hb); have NF1 := Aside0.mk (show w4.heap.size ≤ F1 from (by rw [hg]; exact HB5.out.size)); have y1 : w6.cell? ⟨F1, 0, none⟩ = some (.slice none 0 0) := (blk_cell hbox 0).trans rfl; have z1 := blk_frozen hbox 0; clear hg hbox hb)
      | fail)
    (try simp only [Act.put, List.setIfInBounds_toArray, List.set_cons_zero, List.set_cons_succ])
    have HBK7 : Aside0 ((w6.setCell ⟨F1, 0, none⟩ (.slice A5 U0.length c5)).heap[F1]? = some (.cells #[.slice A5 U0.length c5] 116 (0, 0))) := ⟨blk_put (cs := #[.slice none 0 0]) HBK6.out 0 _ rfl⟩
    have HB7 : Aside0 (Below w4.heap.size w4 (w6.setCell ⟨F1, 0, none⟩ (.slice A5 U0.length c5))) := ⟨below_set HB6.out NF1.out⟩
    have HO7 : Aside0 (Kd.R Kd.bool 4 (w6.setCell ⟨F1, 0, none⟩ (.slice A5 U0.length c5)) w4.heap.size (fun _ => True) (.slice A5 U0.length c5) U0) := ⟨Kd.R_set HO6.out HBK6.out (by intro q hq; have e : q = 4 := (by simpa [Kd.bool, Kd.scalar] using hq); subst e; decide) 0 _⟩
    clear HBK6 HO6 HO5 HB6 HB5 y1 z1 k4
    generalize (w6.setCell ⟨F1, 0, none⟩ (.slice A5 U0.length c5)) = w7 at HBK7 HB7 HO7 ⊢
    have ewS : IntKind.i64.wrap ((S.length : Int) + 1) = (S.length : Int) + 1 := by rw [Go.IntKind.wrap_i64]; omega
    go_upto_region 7 with (first
      | ((with_reducible refine gate_dst (N := 29) rfl ?_); refine Kd.R_make Kd.bool _ 4 rfl (N := 29) rfl 116 _ _ rfl ((S.length : Int) + 1) rfl rfl Try.underlying116 (.bool false) 1 infoB rfl (by decide) (by omega) false (ok := fun _ => True) (okp := fun _ => True) rfl (fun _ hk => hk) trivial (by omega) (by omega) (Below.refl _ _) (Nat.le_refl _) ?_; intro v2 w8 ho8 hb8 _ _; obtain ⟨V0, hV0⟩ : ∃ V0, V0 = List.replicate ((S.length : Int) + 1).toNat false := ⟨_, rfl⟩; rw [← hV0] at ho8; have HV0 := Aside0.mk hV0; clear hV0; obtain ⟨A8, c8, rfl⟩ := Kd.R_slice ho8; have HO8 := Aside0.mk ho8; have HB8 := Aside0.mk hb8; clear ho8 hb8)
      | ((with_reducible refine gate_dst (N := 9) rfl ?_); refine box_event ?hg (N := 9) ?hd (cs := #[.slice none 0 0]) (t := 116) ?hr ?_; (case hd => rfl); (case hg => rfl); (case hr => first | (go_simp; done) | (go_simp; rfl)); intro F2 hg w9 hbox hb; have HBK9 := Aside0.mk hbox; have HO9 := Aside0.mk (Kd.R_below HO8.out hb); have HB9 := Aside0.mk (below_step HB8.out hb); have NF2 := Aside0.mk (show w7.heap.size ≤ F2 from (by rw [hg]; exact HB8.out.size)); have y1 : w9.cell? ⟨F2, 0, none⟩ = some (.slice none 0 0) := (blk_cell hbox 0).trans rfl; have z1 := blk_frozen hbox 0; clear hg hbox hb)
      | fail)
    (try simp only [Act.put, List.setIfInBounds_toArray, List.set_cons_zero, List.set_cons_succ])
    have HBKa : Aside0 ((w9.setCell ⟨F2, 0, none⟩ (.slice A8 V0.length c8)).heap[F2]? = some (.cells #[.slice A8 V0.length c8] 116 (0, 0))) := ⟨blk_put (cs := #[.slice none 0 0]) HBK9.out 0 _ rfl⟩
    have HBa : Aside0 (Below w7.heap.size w7 (w9.setCell ⟨F2, 0, none⟩ (.slice A8 V0.length c8))) := ⟨below_set HB9.out NF2.out⟩
    have HOa : Aside0 (Kd.R Kd.bool 4 (w9.setCell ⟨F2, 0, none⟩ (.slice A8 V0.length c8)) w7.heap.size (fun _ => True) (.slice A8 V0.length c8) V0) := ⟨Kd.R_set HO9.out HBK9.out (by intro q hq; have e : q = 4 := (by simpa [Kd.bool, Kd.scalar] using hq); subst e; decide) 0 _⟩
    clear HBK9 HO9 HO8 HB9 HB8 y1 z1
    generalize (w9.setCell ⟨F2, 0, none⟩ (.slice A8 V0.length c8)) = wa at HBKa HBa HOa ⊢
    have lenV : V0.length = S.length + 1 := by rw [HV0.out, List.length_replicate]; omega
    have lenU : U0.length = L.length := by rw [HU0.out, List.length_replicate]; omega
    obtain ⟨g2, cu2, e2, gb2, gl2, cs2, hg2⟩ := Kd.R_form HOa.out (by omega)
    injection e2 with e2 _ e3
    subst e2 e3
    have hca : wa.cell? ⟨F2, 0, none⟩ = some (.slice (some ⟨g2, 0, none⟩) V0.length c8) := (blk_cell HBKa.out 0).trans rfl
    obtain ⟨ya, za⟩ := Kd.R_celln false HOa.out 0 (by omega) (by omega)
    have q0 := eq_true (show (0 : Int) < (V0.length : Int) by omega)
    have q0' := eq_true (show 0 < V0.length by omega)
    have NG2 := Aside0.mk (blk_ne HBKa.out hg2 (by decide))
    have GB2 := Aside0.mk gb2
    have ya' : wa.cell? ⟨g2, 0, none⟩ = some (.bool (rdOf false V0 0)) := ya
    have za' : wa.frozen? ⟨g2, 0, none⟩ = false := za
    clear gb2 gl2 hg2 ya za
    go_upto_region 8 with (fail)
    have HS0 : usedFrom L S 0 = (U0, V0.set 0 true) := by rw [HU0.out, HV0.out]; unfold usedFrom; simp
    have HJ : Aside0 (UJ L A0 c0 w.heap.size w7.heap.size F1 F2 F4 v0 (.slice A5 U0.length c5) (.slice (some ⟨g2, 0, none⟩) V0.length c8) (usedFrom L S 0) (wa.setCell ⟨g2, 0, none⟩ (.bool true))) := ⟨by
      rw [HS0]
      have hb4 := HST4.out.below
      have hba := below_step HB7.out HBa.out
      have hbb : Below w4.heap.size w4 (wa.setCell ⟨g2, 0, none⟩ (.bool true)) := below_set hba (Nat.le_trans HB7.out.size GB2.out)
      have hb7 : Below w7.heap.size w7 (wa.setCell ⟨g2, 0, none⟩ (.bool true)) := below_set HBa.out GB2.out
      have hr2 := (Kd.R_putg HOa.out 0 true).1
      have hr2 : Kd.R Kd.bool 4 (wa.setCell ⟨g2, 0, none⟩ (.bool true)) w7.heap.size (fun _ => True) (.slice (some ⟨g2, 0, none⟩) V0.length c8) (V0.set 0 true) := hr2
      exact ⟨Nat.le_trans hb4.size hbb.size, blk_below HBK7.out hb7, blk_far HBKa.out NG2.out _, blk_below HK44.out hbb, Kd.R_below (Kd.R_mono (Kd.R_lower (Kd.R_bound HO7.out) hb4.size) (fun _ hk => hk.2.2.1)) hb7, Kd.R_lower (Kd.R_mono (Kd.R_bound hr2) (fun _ hk => hk.2.1)) (Nat.le_trans hb4.size HB7.out.size), Kd.R_below HO4.out hbb⟩⟩
    have HSTb := Aside0.mk (HST4.out.kept (show Below w4.heap.size w4 (wa.setCell ⟨g2, 0, none⟩ (.bool true)) from below_set (below_step HB7.out HBa.out) (Nat.le_trans HB7.out.size GB2.out)))
    have NX0 := Aside0.mk (And.intro lenU lenV)
    clear HBKa HBa HOa HST4 HK44 HO4 HBK7 HB7 HO7 hca q0 q0' NG2 GB2 ya' za' ewS lenU lenV HS0
    generalize (wa.setCell ⟨g2, 0, none⟩ (.bool true)) = wb at HJ HSTb ⊢
    generalize (Value.slice A5 U0.length c5) = v1 at HJ ⊢
    generalize (Value.slice (some ⟨g2, 0, none⟩) V0.length c8) = v2 at HJ ⊢
    obtain ⟨M, hM⟩ : ∃ M, M = w7.heap.size := ⟨_, rfl⟩
    rw [← hM] at HJ
    clear hM HU0 HV0
    go_upto_region 9 with (fail)
    go_loopg [34] S.length (fun kq v34 w' => ∃ (p : Nat), v34 = .int .i64 (p : Int) ∧ Aside0 (kq = S.length - p ∧ p ≤ S.length) ∧ Aside0 (UJ L A0 c0 w.heap.size M F1 F2 F4 v0 v1 v2 (usedFrom L S p) w') ∧ Aside0 (RdSt w w' L S A0 c0 A1 c1 R Mm))
    case atStart => exact ⟨0, rfl, ⟨by omega, Nat.zero_le _⟩, HJ, HSTb⟩
    case round =>
      clear HJ HSTb
      obtain ⟨p, rfl, HX, HJ, HST⟩ := hrel
      by_cases hp : (p : Int) < (S.length : Int)
      · have d1 : decide ((p : Int) < (S.length : Int)) = true := decide_eq_true hp
        have d2 : decide (p < S.length) = true := decide_eq_true (by omega)
        have hlen := usedFrom_len L S p
        obtain ⟨U, V, hUV⟩ : ∃ U V, usedFrom L S p = (U, V) := ⟨_, _, rfl⟩
        have hst := usedFrom_step (L := L) (S := S) (p := p)
        rw [hUV] at hlen hst HJ
        simp only [] at hlen hst
        have hr2 := HJ.out.r2
        simp only [] at hr2
        obtain ⟨g2, cu2, e2, gb2, gl2, cs2, hg2⟩ := Kd.R_form hr2 (by omega)
        subst e2
        obtain ⟨y2, z2⟩ := Kd.R_celln false hr2 (p : Int) (by omega) (by omega)
        have Y2 := Aside0.mk y2
        have HST3 := Aside0.mk hst
        have HLEN := Aside0.mk hlen
        have hre : rdOf false V (p : Int) = V.getD p false := rfl
        have q0 := eq_true (show 0 ≤ (p : Int) by omega)
        have q1 := eq_true (show (p : Int) < (V.length : Int) by omega)
        have q1' := eq_true (show p < V.length by omega)
        have NP : Aside0 (S.length - (p + 1) < gk ∧ p + 1 ≤ S.length) := ⟨by have := HX.out.1; omega, by omega⟩
        have HP := Aside0.mk (show p < S.length by omega)
        have bp : p ≤ 23 := by omega
        clear hlen hst hr2 gb2 gl2 hg2 z2 y2 hp
        go_upto_region 11 with (first
          | ((with_reducible refine gate_dst (N := 10) rfl ?_); refine box_event ?hg (N := 10) ?hd (cs := #[.int .i64 0]) (t := 3) ?hr ?_; (case hd => rfl); (case hg => rfl); (case hr => first | (go_simp; done) | (go_simp; rfl)); intro F3 hg w7' hbox hb; have HB7 := Aside0.mk hb; have KF3 := Aside0.mk hbox; have NF3 := Aside0.mk (show wr.heap.size ≤ F3 from (by rw [hg]; exact Nat.le_refl _)); have y3 : w7'.cell? ⟨F3, 0, none⟩ = some (.int .i64 0) := (blk_cell hbox 0).trans rfl; have z3 := blk_frozen hbox 0; clear hg hbox hb)
          | fail)
        have KF8 : Aside0 ((w7'.setCell ⟨F3, 0, none⟩ (.int .i64 (p : Int))).heap[F3]? = some (.cells #[.int .i64 (p : Int)] 3 (0, 0))) := ⟨blk_put (cs := #[.int .i64 0]) KF3.out 0 _ rfl⟩
        have HB8 : Aside0 (Below wr.heap.size wr (w7'.setCell ⟨F3, 0, none⟩ (.int .i64 (p : Int)))) := ⟨below_set HB7.out NF3.out⟩
        clear KF3 y3 z3 HB7
        generalize (w7'.setCell ⟨F3, 0, none⟩ (.int .i64 (p : Int))) = w8 at KF8 HB8 ⊢
        have HJ8 := Aside0.mk (HJ.out.below HB8.out)
        have HST8 := Aside0.mk (HST.out.kept HB8.out)
        have c9 : w8.cell? ⟨F2, 0, none⟩ = some (.slice (some ⟨g2, 0, none⟩) V.length cu2) := (blk_cell HJ8.out.k2 0).trans rfl
        have c10 : w8.cell? ⟨F3, 0, none⟩ = some (.int .i64 (p : Int)) := (blk_cell KF8.out 0).trans rfl
        have Y8 : w8.cell? ⟨g2, p, none⟩ = some (.bool (V.getD p false)) := pw_cell_below HB8.out Y2.out
        clear Y2
        cases hv : V.getD p false
        · rw [hv] at Y8
          have hn : usedFrom L S (p + 1) = (U, V) := by have := HST3.out; rwa [hv, if_neg (by simp)] at this
          have HN := Aside0.mk hn
          clear hv hn hre
          go_wp2
          go_roundg (S.length - (p + 1))
          case measure => exact NP.out.1
          case rel => exact ⟨p + 1, by simp, ⟨rfl, NP.out.2⟩, ⟨by rw [HN.out]; exact HJ8.out⟩, HST8⟩
        · rw [hv] at Y8
          have hn : usedFrom L S (p + 1) = mkU L p (rdCalls L (S.drop p)) (U, V) := by have := HST3.out; rwa [hv, if_pos rfl] at this
          have HN := Aside0.mk hn
          have HBI := Aside0.mk (show UI L S A0 c0 w.heap.size M F1 F2 F3 F4 p v0 v1 (.slice (some ⟨g2, 0, none⟩) V.length cu2) (U, V) w8 [] from ⟨HJ8.out.bw, HJ8.out.k1, HJ8.out.k2, KF8.out, HJ8.out.k4, HJ8.out.r1, HJ8.out.r2, HJ8.out.r0, HLEN.out.1, HLEN.out.2⟩)
          have HRE := Aside0.mk (impl_read_eachU HR0.out HCC.out.1 HR1.out HCC.out.2.1 HLS.out.1 HLS.out.2.1 HLS.out.2.2 HMR.out.1 HMR.out.2.1 HMR.out.2.2 (F1 := F1) (F2 := F2) (F3 := F3) (F4 := F4) [] (UI L S A0 c0 w.heap.size M F1 F2 F3 F4 p v0 v1 (.slice (some ⟨g2, 0, none⟩) V.length cu2) (U, V)) (fun _ _ _ hi hk => hi.move hk) p (fun w' h i o hs hi h0 h1 hex => impl_FormulasUsed1_calls HR0.out hs h i o hi h0 h1 (used_in HP.out hex) HLS.out.2.2) w8 (Nat.le_of_lt HP.out) HST8.out HBI.out)
          simp only [List.nil_append] at HRE
          clear hv hn hre HBI HJ8 HST8 KF8 HJ HST
          go_wp2_with (go_at_call 78; refine HRE.out.mono ?_; rintro e wB ⟨rfl, hst, hi⟩; have HSB := Aside0.mk hst; have HIB := Aside0.mk hi; clear hst hi)
          go_roundg (S.length - (p + 1))
          case measure => exact NP.out.1
          case rel => exact ⟨p + 1, by simp, ⟨rfl, NP.out.2⟩, ⟨by rw [HN.out]; exact ⟨HIB.out.bw, HIB.out.k1, HIB.out.k2, HIB.out.k4, HIB.out.r1, HIB.out.r2, HIB.out.r0⟩⟩, HSB⟩
      · have d1 : decide ((p : Int) < (S.length : Int)) = false := decide_eq_false hp
        have d2 : decide (p < S.length) = false := decide_eq_false (by omega)
        obtain rfl : p = S.length := by have := HX.out.2; omega
        have hlen := (usedFrom_len L S S.length).1
        obtain ⟨U, hU⟩ : ∃ U, U = (usedFrom L S S.length).1 := ⟨_, rfl⟩
        have hr1 := HJ.out.r1
        have hDD := HD.out
        rw [← hU] at hlen hr1 hDD
        obtain ⟨Au, cu, e1⟩ := Kd.R_slice hr1
        rw [hlen] at e1
        subst e1
        have HLU := Aside0.mk hlen
        have HR1' := Aside0.mk hr1
        have HR0' := Aside0.mk HJ.out.r0
        have HBW := Aside0.mk HST.out.below
        have c8_ : wr.cell? ⟨F1, 0, none⟩ = some (.slice Au L.length cu) := (blk_cell HJ.out.k1 0).trans rfl
        have HDD := Aside0.mk hDD
        clear hp hr1 hDD hU hlen
        go_wp2
        go_loopg [5, 11, 12, 49] L.length (fun kq v5 v11 v12 v49 w' => ∃ (q : Nat) (X : List Int), v49 = .int .i64 (q : Int) ∧ Aside0 (kq = L.length - q ∧ q ≤ L.length ∧ X ++ idxT (q : Int) (U.drop q) = D ∧ X.length ≤ q) ∧ Aside0 (Kd.R (Kd.int .i64) 3 w' w.heap.size (fun _ => True) v5 X) ∧ Aside0 (Kd.R Kd.bool 4 w' w.heap.size (fun k => k < M) (.slice Au L.length cu) U) ∧ Aside0 (Below w.heap.size w w'))
        case atStart => exact ⟨0, [], rfl, ⟨by omega, Nat.zero_le _, by rw [List.drop_zero]; exact HDD.out.symm, Nat.le_refl _⟩, HR0', HR1', HBW⟩
        case round =>
          clear HR0' HR1' HBW c8_ HJ HST HX
          obtain ⟨q, X, rfl, HY, HO, HU, HB⟩ := hrel
          have hlu := HLU.out
          by_cases hq : (q : Int) < (L.length : Int)
          · have d3 : decide ((q : Int) < (L.length : Int)) = true := decide_eq_true hq
            have d4 : decide (q < L.length) = true := decide_eq_true (by omega)
            obtain ⟨g1, cu1, e1, _, _, cs1, _⟩ := Kd.R_form HU.out (by omega)
            injection e1 with e1 en e3
            clear en
            subst e1 e3
            obtain ⟨y1, _⟩ := Kd.R_celln false HU.out (q : Int) (by omega) (by omega)
            have Y1 : wr.cell? ⟨g1, q, none⟩ = some (.bool (U.getD q false)) := y1
            have hidx := idxT_at (U := U) (q := q) (by omega)
            have q5 := eq_true (show 0 ≤ (q : Int) by omega)
            have q6 := eq_true hq
            have q7 := eq_true (show q < L.length by omega)
            have bx : X.length ≤ 8 := by have := HY.out.2.2.2; have := HLS.out.2.1; omega
            have bq : q < 8 := by have := HLS.out.2.1; omega
            clear hq y1 hlu
            cases hv : U.getD q false
            · rw [hv] at Y1 hidx
              rw [if_neg (by simp)] at hidx
              have NX : Aside0 (L.length - (q + 1) < gk ∧ q + 1 ≤ L.length ∧ X ++ idxT ((q + 1 : Nat) : Int) (U.drop (q + 1)) = D ∧ X.length ≤ q + 1) := ⟨by have := HY.out.1; have := of_eq_true q7; omega, by have := of_eq_true q7; omega, by have := HY.out.2.2.1; rw [hidx] at this; exact this, by have := HY.out.2.2.2; omega⟩
              clear hv hidx
              go_wp2
              go_roundg (L.length - (q + 1))
              case measure => exact NX.out.1
              case rel => exact ⟨q + 1, X, by simp, ⟨rfl, NX.out.2⟩, HO, HU, HB⟩
            · rw [hv] at Y1 hidx
              rw [if_pos rfl] at hidx
              have NX : Aside0 (L.length - (q + 1) < gk ∧ q + 1 ≤ L.length ∧ X ++ [(q : Int)] ++ idxT ((q + 1 : Nat) : Int) (U.drop (q + 1)) = D ∧ (X ++ [(q : Int)]).length ≤ q + 1) := ⟨by have := HY.out.1; have := of_eq_true q7; omega, by have := of_eq_true q7; omega, by have := HY.out.2.2.1; rw [hidx] at this; rw [List.append_assoc]; exact this, by have := HY.out.2.2.2; rw [List.length_append, List.length_singleton]; omega⟩
              clear hv hidx
              go_wp2_with ((with_reducible refine gate_builtin (b := .append) (xs := #[.tmp 55, .tmp 57]) rfl ?_); at_builtin; go_loud (refine Kd.R_append (Kd.int .i64) (w0 := w) w.heap.size rfl (.tmp 55) (.tmp 57) 46 3 (.int .i64 0) 8 rfl Try.underlying46 HI.out rfl (by decide) (by omega) _ X (q : Int) [.int .i64 (q : Int)] (fun _ => True) (fun _ => False) rfl rfl ?aP (fun _ hk => hk.elim) (fun _ _ => trivial) HO.out HB.out HB.out.size (by omega) ?_); (case aP => exact rfl); intro v9 wC ho9 hb9 hg9 _; have HO9 := Aside0.mk ho9; have HB9 := Aside0.mk hb9; have HU9 := Aside0.mk (Kd.R_over HU.out HO.out (by intro q hq; have e : q = 4 := (by simpa [Kd.bool, Kd.scalar] using hq); subst e; decide) hg9); clear ho9 hb9 hg9)
              go_roundg (L.length - (q + 1))
              case measure => exact NX.out.1
              case rel => exact ⟨q + 1, X ++ [(q : Int)], by simp, ⟨rfl, NX.out.2⟩, HO9, HU9, HB9⟩
          · have d3 : decide ((q : Int) < (L.length : Int)) = false := decide_eq_false hq
            have d4 : decide (q < L.length) = false := decide_eq_false (by omega)
            have hXD : X = D := by
              have h1 := HY.out.2.2.1
              rw [List.drop_eq_nil_of_le (by omega)] at h1
              simpa [idxT] using h1
            subst hXD
            clear hq hlu
            go_wp2
            go_ret
            exact ⟨_, rfl, HO.out, HB.out⟩

end Go.Proofs.Ytnemcppllfmioaa.Pure
