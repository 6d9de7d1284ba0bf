/- Lemmas for the law FnReadUsed. -/
import Derived.Test.YtnemcppllfmioaaSFnReadUseds1
namespace Go.Proofs.Ytnemcppllfmioaa.Pure
set_option linter.unusedVariables false
set_option linter.unusedSimpArgs false
open Go Go.RowKit Go.Proofs.Ytnemcppllfmioaa.PFnReadUsed Go.Proofs.YtnemcppllfmioaaW.PrintWords Go.Proofs.YtnemcppllfmioaaW.PrintLast Go.Proofs.YtnemcppllfmioaaW.PrintMore

set_option maxHeartbeats 8000000 in
set_option maxRecDepth 100000 in
theorem impl_read_eachB {L : List S55} {S : List Int} {A0 : Option Addr} {c0 : Nat} {A1 : Option Addr} {c1 : Nat} {w0 : World} {R M : Nat} (hr0 : Kd.C k55 w0 A0 L.length L) (hc0 : L.length ≤ c0) (hr1 : Kd.C (Kd.int .i64) w0 A1 S.length S) (hc1 : S.length ≤ c1)
 (hL : ∀ f ∈ L, 1 ≤ f.f0.length ∧ f.f0.length ≤ 5) (hLl : L.length ≤ 8) (hSl : S.length ≤ 23) (hM : w0.heap.size ≤ M) (hR : w0.heap.size ≤ R) (hRM : R ≠ M) {F1 F2 F3 : Nat} (h0 : List (Int × OutC)) (I : World → List (Int × OutC) → Prop) (hI : ∀ w w' h, I w h → Kept w w' (fun k => ¬ SCb w k) → I w' h)
 (hC : ∀ w h (i : Int) (o : OutC), RdSt w0 w L S A0 c0 A1 c1 R M → I w h → 0 ≤ i → i < (L.length : Int) → h.length ≤ h0.length + L.length → Calls Try.prog 80 #[.int .i64 i, .agg #[.int .i64 o.f0, .int .i64 o.f1, .int .i64 o.f2], .pointer (some ⟨F1, 0, none⟩), .pointer (some ⟨F2, 0, none⟩), .pointer (some ⟨F3, 0, none⟩)] w fun e w' => e = .returned (.tuple #[]) ∧ RdSt w0 w' L S A0 c0 A1 c1 R M ∧ I w' (h ++ [(i, o)]) ∧ Kept w w' (SCb w))
 (p : Nat) (w : World) (hp : p ≤ S.length) (hst : RdSt w0 w L S A0 c0 A1 c1 R M) (h0I : I w h0) :
 Calls Try.prog 78 #[.pointer (some ⟨R, 0, none⟩), .int .i64 (p : Int), (Value.func (Fn.func 80) #[] #[.pointer (some ⟨F1, 0, none⟩), .pointer (some ⟨F2, 0, none⟩), .pointer (some ⟨F3, 0, none⟩)])] w fun e w' => e = .returned (outV (rdO L (S.drop p))) ∧ RdSt w0 w' L S A0 c0 A1 c1 R M ∧ I w' (h0 ++ rdCalls L (S.drop p)) := by
 have HR0 := Aside0.mk hr0
 have HC0 := Aside0.mk hc0
 have HR1 := Aside0.mk hr1
 have HC1 := Aside0.mk hc1
 have HLL := Aside0.mk hL
 have HMR := Aside0.mk (And.intro hM (And.intro hR hRM))
 clear hr0 hc0 hr1 hc1 hL hM hR hRM
 have hu1 := Try.underlying109
 have hu2 := Try.underlying55
 have hu3 := Try.underlying134
 have HII := Aside0.mk hI
 have HCC := Aside0.mk hC
 have HNIL := Aside0.mk (impl_read_nil HR0.out HC0.out HR1.out HC1.out HLL.out hLl hSl HMR.out.1 HMR.out.2.1 HMR.out.2.2)
 have H0I := Aside0.mk h0I
 clear hI hC h0I
 have HST := Aside0.mk hst
 have HP := Aside0.mk hp
 obtain ⟨F, hF, hF'⟩ := hst.memo
 have HF := Aside0.mk (And.intro hF hF')
 have cR0 : w.cell? ⟨R, 0, none⟩ = some (.slice A0 L.length c0) := (blk_cell hst.blk 0).trans rfl
 have cR1 : w.cell? ⟨R, 1, none⟩ = some (.slice A1 S.length c1) := (blk_cell hst.blk 1).trans rfl
 have cR2 : w.cell? ⟨R, 2, none⟩ = some (.map (some M)) := (blk_cell hst.blk 2).trans rfl
 clear hst hF hF'
 by_cases hps : p = S.length
 ·
  subst hps
  refine (impl_read_end HR0.out HC0.out HR1.out HC1.out HLL.out hLl hSl HMR.out.1 HMR.out.2.1 HMR.out.2.2 w _ HST.out).mono ?_
  rintro e w' ⟨h1, h2, h3⟩
  refine ⟨h1, h2, ?_⟩
  have e : rdCalls L (S.drop S.length) = [] := by rw [List.drop_length]; rfl
  rw [e, List.append_nil]
  exact HII.out _ _ _ H0I.out (h3.mono (fun k hk => by subst hk; exact HST.out.nsc))
 have e1 : ((p : Int) == (S.length : Int)) = false := by rw [beq_eq_false_iff_ne]; omega
 have e1' : (p == S.length) = false := by rw [beq_eq_false_iff_ne]; exact hps
 have hne : S.drop p ≠ [] := by
  intro h
  have := congrArg List.length h
  rw [List.length_drop, List.length_nil] at this
  omega
 have HNE := Aside0.mk hne
 clear hne hps hp
 obtain ⟨x0, y0_, z0_, bk, hlk0⟩ : ∃ x y z b, (if true = true then Value.tuple #[(F (p : Int)).getD (.agg #[.int .i64 0, .int .i64 0, .int .i64 0]), .bool (F (p : Int)).isSome] else (F (p : Int)).getD (.agg #[.int .i64 0, .int .i64 0, .int .i64 0])) = .tuple #[.agg #[.int .i64 x, .int .i64 y, .int .i64 z], .bool b] := by
  cases hFp : F (p : Int) with
  | some v =>
   obtain ⟨p', _, _, h3⟩ := HF.out.2 _ _ hFp
   exact ⟨_, _, _, true, by rw [h3]; rfl⟩
  | none => exact ⟨0, 0, 0, false, rfl⟩
 have HFP := Aside0.mk hlk0
 clear hlk0
 have hcl : rdCalls L (S.drop p) = rdC (rdO L) (S.drop p) 0 L := if_neg HNE.out
 have HCL := Aside0.mk hcl
 clear hcl
 have hs := rdO_step (fun f hf => (HLL.out f hf).1) HNE.out
 have HS := Aside0.mk hs
 clear hs
 have hq : ∀ w, (binOp .eql 112 (Value.func (Fn.func 80) #[] #[.pointer (some ⟨F1, 0, none⟩), .pointer (some ⟨F2, 0, none⟩), .pointer (some ⟨F3, 0, none⟩)]) .nilFunc).run Try.prog w = .ok (.bool false) w := fun _ => by kernel_rfl
 have hq2 : ∀ w, (binOp .neq 112 (Value.func (Fn.func 80) #[] #[.pointer (some ⟨F1, 0, none⟩), .pointer (some ⟨F2, 0, none⟩), .pointer (some ⟨F3, 0, none⟩)]) .nilFunc).run Try.prog w = .ok (.bool true) w := fun _ => by kernel_rfl
 cases bk
 all_goals
  go_enter Try.func78, Try.ntmps78
  go_upto_region 3 with (first
   | ((with_reducible refine gate_dst (N := 6) rfl ?_); refine box_event ?hg (N := 6) ?hd (cs := #[.int .i64 0, .int .i64 0, .int .i64 0]) (t := 109) ?hr ?_; (case hd => rfl); (case hg => rfl); (case hr => first | (go_simp; done) | (go_simp; rfl)); intro g6 hg w6 hbox hb; have HK6 := Aside0.mk hbox; have HB6 := Aside0.mk hb; have N6 := Aside0.mk (show w.heap.size ≤ g6 from (by rw [hg]; exact Nat.le_refl _)); have cS1 := pw_cell_below hb cR1; have cS2 := pw_cell_below hb cR2; have cS0 := pw_cell_below hb cR0; have HL6 := Aside0.mk (MapFn.look (HF.out.1.move (hb.block _ HF.out.1.lt)) Try.underlying132 Try.underlying3 (z := .agg #[.int .i64 0, .int .i64 0, .int .i64 0]) (fun _ => by kernel_rfl) (p : Int) true); clear hg hbox hb))
  have hlk := HL6.out
  rw [HFP.out] at hlk
  go_upto_region 4 with (first
   | ((with_reducible refine gate_dst (N := 7) rfl ?_); refine box_event ?hg (N := 7) ?hd (cs := #[.int .i64 0, .int .i64 0, .int .i64 0]) (t := 109) ?hr ?_; (case hd => rfl); (case hg => rfl); (case hr => first | (go_simp; done) | (go_simp; rfl)); intro g7 hg w7 hbox hb; have HK7 := Aside0.mk hbox; have HB7 := Aside0.mk (below_step HB6.out hb); have HK6' := Aside0.mk (blk_below HK6.out hb); have NE := Aside0.mk (show g6 ≠ g7 from (by rw [hg]; exact Nat.ne_of_lt (blk_lt HK6.out))); have N7 := Aside0.mk (show w.heap.size ≤ g7 from (by rw [hg]; exact HB6.out.size)); have cz0 : w7.cell? ⟨g7, 0, none⟩ = some (.int .i64 0) := (blk_cell HK7.out 0).trans rfl; have cz1 : w7.cell? ⟨g7, 1, none⟩ = some (.int .i64 0) := (blk_cell HK7.out 1).trans rfl; have cz2 : w7.cell? ⟨g7, 2, none⟩ = some (.int .i64 0) := (blk_cell HK7.out 2).trans rfl; have fz0 := blk_frozen HK7.out 0; have fz1 := blk_frozen HK7.out 1; have fz2 := blk_frozen HK7.out 2; clear hg hbox hb))
  have W7 : Aside0 ((((w7.setCell ⟨g7, 0, none⟩ (.int .i64 x0)).setCell ⟨g7, 1, none⟩ (.int .i64 y0_)).setCell ⟨g7, 2, none⟩ (.int .i64 z0_)).heap[g7]? = some (.cells #[.int .i64 x0, .int .i64 y0_, .int .i64 z0_] 109 (0, 0))) := ⟨blk_put (cs := #[.int .i64 x0, .int .i64 y0_, .int .i64 0]) (blk_put (cs := #[.int .i64 x0, .int .i64 0, .int .i64 0]) (blk_put (cs := #[.int .i64 0, .int .i64 0, .int .i64 0]) HK7.out 0 _ rfl) 1 _ rfl) 2 _ rfl⟩
  have W6 : Aside0 ((((w7.setCell ⟨g7, 0, none⟩ (.int .i64 x0)).setCell ⟨g7, 1, none⟩ (.int .i64 y0_)).setCell ⟨g7, 2, none⟩ (.int .i64 z0_)).heap[g6]? = some (.cells #[.int .i64 0, .int .i64 0, .int .i64 0] 109 (0, 0))) := ⟨blk_far (blk_far (blk_far HK6'.out NE.out _) NE.out _) NE.out _⟩
  have HB9 : Aside0 (Below w.heap.size w (((w7.setCell ⟨g7, 0, none⟩ (.int .i64 x0)).setCell ⟨g7, 1, none⟩ (.int .i64 y0_)).setCell ⟨g7, 2, none⟩ (.int .i64 z0_))) := ⟨below_set (below_set (below_set HB7.out N7.out) N7.out) N7.out⟩
  clear HB7 HK7 HK6' HB6 HK6 cz0 cz1 cz2 fz0 fz1 fz2 cS0 cS1 cS2
  generalize (((w7.setCell ⟨g7, 0, none⟩ (.int .i64 x0)).setCell ⟨g7, 1, none⟩ (.int .i64 y0_)).setCell ⟨g7, 2, none⟩ (.int .i64 z0_)) = w9 at W7 W6 HB9 ⊢
  have cS0 := pw_cell_below HB9.out cR0
  have cS1 := pw_cell_below HB9.out cR1
  have cS2 := pw_cell_below HB9.out cR2
  have y0 : w9.cell? ⟨g6, 0, none⟩ = some (.int .i64 0) := (blk_cell W6.out 0).trans rfl
  have y1 : w9.cell? ⟨g6, 1, none⟩ = some (.int .i64 0) := (blk_cell W6.out 1).trans rfl
  have y2 : w9.cell? ⟨g6, 2, none⟩ = some (.int .i64 0) := (blk_cell W6.out 2).trans rfl
  have f0 := blk_frozen W6.out 0
  have f1 := blk_frozen W6.out 1
  have f2 := blk_frozen W6.out 2
  go_upto_region 7 with (first
   | ((with_reducible refine gate_dst (N := 9) rfl ?_); refine box_event ?hg (N := 9) ?hd (cs := #[.int .i64 0, .int .i64 0, .int .i64 0]) (t := 109) ?hr ?_; (case hd => rfl); (case hg => rfl); (case hr => first | (go_simp; done) | (go_simp; rfl)); intro g9 hg w10 hbox hb; have HK9 := Aside0.mk hbox; have HB10 := Aside0.mk (below_step HB9.out hb); have W6' := Aside0.mk (blk_below W6.out hb); have NE9 := Aside0.mk (show g6 ≠ g9 from (by rw [hg]; exact Nat.ne_of_lt (blk_lt W6.out))); have N9 := Aside0.mk (show w.heap.size ≤ g9 from (by rw [hg]; exact HB9.out.size)); have cz0 : w10.cell? ⟨g9, 0, none⟩ = some (.int .i64 0) := (blk_cell HK9.out 0).trans rfl; have cz1 : w10.cell? ⟨g9, 1, none⟩ = some (.int .i64 0) := (blk_cell HK9.out 1).trans rfl; have cz2 : w10.cell? ⟨g9, 2, none⟩ = some (.int .i64 0) := (blk_cell HK9.out 2).trans rfl; have fz0 := blk_frozen HK9.out 0; have fz1 := blk_frozen HK9.out 1; have fz2 := blk_frozen HK9.out 2; clear cS0 cS1 cS2; have cS0 := pw_cell_below HB10.out cR0; have cS1 := pw_cell_below HB10.out cR1; have cS2 := pw_cell_below HB10.out cR2; clear hg hbox hb))
  have W9 : Aside0 ((((w10.setCell ⟨g9, 0, none⟩ (.int .i64 0)).setCell ⟨g9, 1, none⟩ (.int .i64 0)).setCell ⟨g9, 2, none⟩ (.int .i64 0)).heap[g9]? = some (.cells #[.int .i64 0, .int .i64 0, .int .i64 0] 109 (0, 0))) := ⟨blk_put (cs := #[.int .i64 0, .int .i64 0, .int .i64 0]) (blk_put (cs := #[.int .i64 0, .int .i64 0, .int .i64 0]) (blk_put (cs := #[.int .i64 0, .int .i64 0, .int .i64 0]) HK9.out 0 _ rfl) 1 _ rfl) 2 _ rfl⟩
  have W6b : Aside0 ((((w10.setCell ⟨g9, 0, none⟩ (.int .i64 0)).setCell ⟨g9, 1, none⟩ (.int .i64 0)).setCell ⟨g9, 2, none⟩ (.int .i64 0)).heap[g6]? = some (.cells #[.int .i64 0, .int .i64 0, .int .i64 0] 109 (0, 0))) := ⟨blk_far (blk_far (blk_far W6'.out NE9.out _) NE9.out _) NE9.out _⟩
  have HB11 : Aside0 (Below w.heap.size w (((w10.setCell ⟨g9, 0, none⟩ (.int .i64 0)).setCell ⟨g9, 1, none⟩ (.int .i64 0)).setCell ⟨g9, 2, none⟩ (.int .i64 0))) := ⟨below_set (below_set (below_set HB10.out N9.out) N9.out) N9.out⟩
  clear HB10 HK9 W6' W6 W7 HB9 cz0 cz1 cz2 fz0 fz1 fz2 cS0 cS1 cS2 y0 y1 y2 f0 f1 f2
  generalize (((w10.setCell ⟨g9, 0, none⟩ (.int .i64 0)).setCell ⟨g9, 1, none⟩ (.int .i64 0)).setCell ⟨g9, 2, none⟩ (.int .i64 0)) = w11 at W9 W6b HB11 ⊢
  have cS0 := pw_cell_below HB11.out cR0
  have HST11 := Aside0.mk (HST.out.kept HB11.out)
  have HKP := Aside0.mk (HII.out _ _ _ H0I.out (Kept.of_below HB11.out _))
  clear HB11 HL6 hlk cR0 cR1 cR2
  go_wp2
  go_loopg [42] L.length (fun kq v42 w' => ∃ (i : Nat) (acc : OutC) (hist : List (Int × OutC)), v42 = .int .i64 (i : Int) ∧ Aside0 (kq = L.length - i ∧ i ≤ L.length ∧ rdA (rdO L) (S.drop p) (L.drop i) acc = rdO L (S.drop p) ∧ hist ++ rdC (rdO L) (S.drop p) (i : Int) (L.drop i) = h0 ++ rdCalls L (S.drop p)) ∧ Aside0 (w'.heap[g9]? = some (.cells #[.int .i64 acc.f0, .int .i64 acc.f1, .int .i64 acc.f2] 109 (0, 0)) ∧ w'.heap[g6]? = some (.cells #[.int .i64 0, .int .i64 0, .int .i64 0] 109 (0, 0))) ∧ Aside0 (RdSt w0 w' L S A0 c0 A1 c1 R M) ∧ Aside0 (I w' hist))
  case atStart => exact ⟨0, ⟨0, 0, 0⟩, h0, rfl, ⟨rfl, Nat.zero_le _, HS.out.symm, by rw [HCL.out, List.drop_zero]; rfl⟩, ⟨W9.out, W6b.out⟩, HST11, HKP⟩
  case round =>
   clear W9 W6b HST11 HKP cS0
   obtain ⟨i, acc, hist, rfl, HX, HG, HR, HKP⟩ := hrel
   by_cases hi : (i : Int) < (L.length : Int)
   ·
    have d1 : decide ((i : Int) < (L.length : Int)) = true := decide_eq_true hi
    have p0 : (0 : Int) ≤ (i : Int) := by omega
    obtain ⟨ad, Af, cf, e0, ux0, ux1, hcf, hrf⟩ := at_T55 (Kd.C_below HR0.out HR.out.below) (i : Int) p0 hi
    subst e0
    obtain ⟨f, hf⟩ : ∃ f, f = rd_T55 L (i : Int) := ⟨_, rfl⟩
    rw [← hf] at ux0 ux1 hcf hrf
    simp only [Int.toNat_natCast] at ux0 ux1
    have hdr : L.drop i = f :: L.drop (i + 1) := by
     rw [List.drop_eq_getElem_cons (by omega), hf]
     unfold rd_T55
     rw [Int.toNat_natCast, List.getD_eq_getElem?_getD, List.getElem?_eq_getElem (by omega)]; rfl
    have hfl := HLL.out f (by rw [hf]; exact rd_mem p0 hi)
    have hX := HX.out.2.2.1
    have hY := HX.out.2.2.2
    rw [hdr] at hX
    simp only [rdA] at hX
    rw [hdr] at hY
    simp only [rdC] at hY
    obtain ⟨T, hT⟩ : ∃ T, T = S.drop p := ⟨_, rfl⟩
    have HTT := Aside0.mk hT
    have hTl : T.length = S.length - p := by rw [hT, List.length_drop]
    obtain ⟨i3, hi3, hz3, hs3, hy3⟩ := info_parts info3
    obtain ⟨At, ct, hcut, hrt, hct, _⟩ := cut_drop (Kd.int .i64) 46 3 Try.underlying46 hi3 hs3 (p : Int) HR1.out HC1.out (by omega) (by have := HP.out; omega)
    simp only [Int.toNat_natCast] at hcut hrt hct
    rw [← hT, ← hTl] at hrt
    rw [← hTl] at hcut hct
    rw [← hT] at hX hY
    obtain ⟨kb, hkb⟩ := Ev.rounds (impl_begins_ev T f.f0 (by omega))
    have HKB := Aside0.mk hkb
    have HRT := Aside0.mk hrt
    have HCT := Aside0.mk hct
    have HRF := Aside0.mk hrf
    have HCF := Aside0.mk hcf
    have HFL := Aside0.mk hfl
    have q0 := eq_true p0
    have q1 := eq_true hi
    have bi : i ≤ 1000000000000 := by omega
    have bp : p ≤ 23 := by have := HP.out; omega
    have bf : f.f0.length ≤ 5 := hfl.2
    have HIL := Aside0.mk (show i + 1 ≤ L.length by omega)
    have HSI := Aside0.mk (show p ≤ S.length by have := HP.out; omega)
    have HTL := Aside0.mk hTl
    have cR0 : wr.cell? ⟨R, 0, none⟩ = some (.slice (some ad) L.length c0) := (blk_cell HR.out.blk 0).trans rfl
    have cR1 : wr.cell? ⟨R, 1, none⟩ = some (.slice A1 S.length c1) := (blk_cell HR.out.blk 1).trans rfl
    have HXX := Aside0.mk hX
    have HYY := Aside0.mk hY
    clear hi p0 hf hdr hfl hX hY hT hTl hi3 hs3 hz3 hy3 hrt hct hrf hcf hkb i3
    go_upto_region 10 with (first
     | ((with_reducible refine gate_dst (N := 11) rfl ?_); refine box_event ?hg (N := 11) ?hd (cs := #[.slice none 0 0, .int .i64 0]) (t := 55) ?hr ?_; (case hd => rfl); (case hg => rfl); (case hr => first | (go_simp; done) | (go_simp; rfl)); intro g11 hg w12 hbox hb; have HK11 := Aside0.mk hbox; have HB12 := Aside0.mk hb; have N11 := Aside0.mk (show wr.heap.size ≤ g11 from (by rw [hg]; exact Nat.le_refl _)); have cz0 : w12.cell? ⟨g11, 0, none⟩ = some (.slice none 0 0) := (blk_cell HK11.out 0).trans rfl; have cz1 : w12.cell? ⟨g11, 1, none⟩ = some (.int .i64 0) := (blk_cell HK11.out 1).trans rfl; have fz0 := blk_frozen HK11.out 0; have fz1 := blk_frozen HK11.out 1; clear hg hbox hb))
    have WB : Aside0 (((w12.setCell ⟨g11, 0, none⟩ (.slice Af f.f0.length cf)).setCell ⟨g11, 1, none⟩ (.int .i64 f.f1)).heap[g11]? = some (.cells #[.slice Af f.f0.length cf, .int .i64 f.f1] 55 (0, 0))) := ⟨blk_put (cs := #[.slice Af f.f0.length cf, .int .i64 0]) (blk_put (cs := #[.slice none 0 0, .int .i64 0]) HK11.out 0 _ rfl) 1 _ rfl⟩
    have HBA : Aside0 (Below wr.heap.size wr ((w12.setCell ⟨g11, 0, none⟩ (.slice Af f.f0.length cf)).setCell ⟨g11, 1, none⟩ (.int .i64 f.f1))) := ⟨below_set (below_set HB12.out N11.out) N11.out⟩
    clear HK11 HB12 cz0 cz1 fz0 fz1 ux0 ux1
    generalize ((w12.setCell ⟨g11, 0, none⟩ (.slice Af f.f0.length cf)).setCell ⟨g11, 1, none⟩ (.int .i64 f.f1)) = wA at WB HBA ⊢
    have a0 := pw_cell_below HBA.out cR1
    have a1 : wA.cell? ⟨g11, 0, none⟩ = some (.slice Af f.f0.length cf) := (blk_cell WB.out 0).trans rfl
    clear cR0 cR1
    have HRA := Aside0.mk (HR.out.kept HBA.out)
    have HKA := Aside0.mk (HII.out _ _ _ HKP.out (Kept.of_below HBA.out _))
    have HGA := Aside0.mk (And.intro (blk_below HG.out.1 HBA.out) (blk_below HG.out.2 HBA.out))
    have HRTA := Aside0.mk (Kd.C_below HRT.out HRA.out.below)
    have HRFA := Aside0.mk (Kd.C_below HRF.out HBA.out)
    cases hb : isPre f.f0 T
    ·
     rw [hb] at HKB HXX HYY
     have NX : Aside0 (L.length - (i + 1) < gk ∧ i + 1 ≤ L.length ∧ rdA (rdO L) T (L.drop (i + 1)) acc = rdO L T ∧ hist ++ rdC (rdO L) T ((i + 1 : Nat) : Int) (L.drop (i + 1)) = h0 ++ rdCalls L T) := ⟨by have := HX.out.1; have := HIL.out; omega, HIL.out, by have := HXX.out; simpa using this, by have := HYY.out; simpa using this⟩
     clear hb
     go_quiet ((go_at_call 72; ((with_reducible refine (impl_begins.calls kb _ _ T _ _ f.f0 false _ ?side1 ?side2 ?side3 ?side4 HKB.out).mono ?_); (case side1 => repeat (first | exact HRTA.out | (with_reducible refine Kd.C_drewN ?_ _))); (case side2 => exact HCT.out); (case side3 => repeat (first | exact HRFA.out | (with_reducible refine Kd.C_drewN ?_ _))); (case side4 => exact HCF.out); rintro e w' ⟨rfl, ⟨nd, rfl⟩⟩; (first | exact ⟨rfl, _, World.drewN_drewN _ _ _⟩ | exact ⟨rfl, _, Eq.trans (World.drewN_drewN _ _ _) (congrArg (World.drewN _) (Nat.add_assoc _ _ _))⟩))))
     go_wp2
     go_roundg (L.length - (i + 1))
     case measure => exact NX.out.1
     case rel => exact ⟨i + 1, acc, hist, by simp, ⟨rfl, NX.out.2.1, by rw [← HTT.out]; exact NX.out.2.2.1, by rw [← HTT.out]; exact NX.out.2.2.2⟩, HGA, ⟨HRA.out.kept (pw_below_drewN (Below.refl _ _) _)⟩, ⟨HII.out _ _ _ HKA.out (Kept.drewN (Kept.refl _ _) _)⟩⟩
    ·
     rw [hb] at HKB HXX HYY
     have hpl := isPre_len hb
     have hp' : p + f.f0.length ≤ S.length := by have := HTL.out; have := HSI.out; omega
     obtain ⟨O, hO⟩ : ∃ O, O = rdO L (T.drop f.f0.length) := ⟨_, rfl⟩
     have hdd : S.drop (p + f.f0.length) = T.drop f.f0.length := by rw [HTT.out, List.drop_drop]
     have HC := Aside0.mk (show ∀ w, RdSt w0 w L S (some ad) c0 A1 c1 R M → Calls Try.prog 78 #[.pointer (some ⟨R, 0, none⟩), .int .i64 ((p : Int) + (f.f0.length : Int)), .nilFunc] w fun e w' => e = .returned (.agg #[.int .i64 O.f0, .int .i64 O.f1, .int .i64 O.f2]) ∧ RdSt w0 w' L S (some ad) c0 A1 c1 R M ∧ Kept w w' (fun k => k = M) from fun w h => by
      have h1 := HFL.out.1
      have h2 := HP.out
      have := HNIL.out S.length (p + f.f0.length) w hp' (by omega) h
      rw [hdd, ← hO, Int.natCast_add] at this
      exact this)
     have hX := HXX.out
     rw [if_pos rfl, ← hO] at hX
     have hY := HYY.out
     rw [if_pos rfl, ← hO] at hY
     have HX2 := Aside0.mk hX
     have HY2 := Aside0.mk hY
     clear hb hpl hO hdd hX hY hp'
     go_quiet ((go_at_call 72; ((with_reducible refine (impl_begins.calls kb _ _ T _ _ f.f0 true _ ?side1 ?side2 ?side3 ?side4 HKB.out).mono ?_); (case side1 => repeat (first | exact HRTA.out | (with_reducible refine Kd.C_drewN ?_ _))); (case side2 => exact HCT.out); (case side3 => repeat (first | exact HRFA.out | (with_reducible refine Kd.C_drewN ?_ _))); (case side4 => exact HCF.out); rintro e w' ⟨rfl, ⟨nd, rfl⟩⟩; (first | exact ⟨rfl, _, World.drewN_drewN _ _ _⟩ | exact ⟨rfl, _, Eq.trans (World.drewN_drewN _ _ _) (congrArg (World.drewN _) (Nat.add_assoc _ _ _))⟩))))
     go_upto_region 12 with (first
      | (go_at_call 78; refine (HC.out _ (HRA.out.kept (pw_below_drewN (Below.refl _ _) _))).mono ?_; rintro e wB ⟨rfl, hstB, hkB⟩; have HRB := Aside0.mk hstB; have hkB' : Kept wA wB (fun k => k = M) := hkB; have HKB2 := Aside0.mk hkB'; clear hstB hkB hkB')
      | ((with_reducible refine gate_dst (N := 12) rfl ?_); refine box_event ?hg (N := 12) ?hd (cs := #[.int .i64 0, .int .i64 0, .int .i64 0]) (t := 109) ?hr ?_; (case hd => rfl); (case hg => rfl); (case hr => first | (go_simp; done) | (go_simp; rfl)); intro g12 hg w13 hbox hb; have HK12 := Aside0.mk hbox; have HB13 := Aside0.mk hb; have N12 := Aside0.mk (show wB.heap.size ≤ g12 from (by rw [hg]; exact Nat.le_refl _)); have cz0 : w13.cell? ⟨g12, 0, none⟩ = some (.int .i64 0) := (blk_cell HK12.out 0).trans rfl; have cz1 : w13.cell? ⟨g12, 1, none⟩ = some (.int .i64 0) := (blk_cell HK12.out 1).trans rfl; have cz2 : w13.cell? ⟨g12, 2, none⟩ = some (.int .i64 0) := (blk_cell HK12.out 2).trans rfl; have fz0 := blk_frozen HK12.out 0; have fz1 := blk_frozen HK12.out 1; have fz2 := blk_frozen HK12.out 2; clear hg hbox hb))
     have E12 : Aside0 ((((w13.setCell ⟨g12, 0, none⟩ (.int .i64 O.f0)).setCell ⟨g12, 1, none⟩ (.int .i64 O.f1)).setCell ⟨g12, 2, none⟩ (.int .i64 O.f2)).heap[g12]? = some (.cells #[.int .i64 O.f0, .int .i64 O.f1, .int .i64 O.f2] 109 (0, 0))) := ⟨blk_put (cs := #[.int .i64 O.f0, .int .i64 O.f1, .int .i64 0]) (blk_put (cs := #[.int .i64 O.f0, .int .i64 0, .int .i64 0]) (blk_put (cs := #[.int .i64 0, .int .i64 0, .int .i64 0]) HK12.out 0 _ rfl) 1 _ rfl) 2 _ rfl⟩
     have HBC : Aside0 (Below wB.heap.size wB (((w13.setCell ⟨g12, 0, none⟩ (.int .i64 O.f0)).setCell ⟨g12, 1, none⟩ (.int .i64 O.f1)).setCell ⟨g12, 2, none⟩ (.int .i64 O.f2))) := ⟨below_set (below_set (below_set HB13.out N12.out) N12.out) N12.out⟩
     clear HK12 HB13 cz0 cz1 cz2 fz0 fz1 fz2 a0 a1
     generalize (((w13.setCell ⟨g12, 0, none⟩ (.int .i64 O.f0)).setCell ⟨g12, 1, none⟩ (.int .i64 O.f1)).setCell ⟨g12, 2, none⟩ (.int .i64 O.f2)) = wC at E12 HBC ⊢
     have n9 := HRA.out.ne HGA.out.1
     have n6 := HRA.out.ne HGA.out.2
     have n11 := HRA.out.ne WB.out
     have HGC := Aside0.mk (And.intro (blk_below (blk_kept HGA.out.1 HKB2.out n9) HBC.out) (blk_below (blk_kept HGA.out.2 HKB2.out n6) HBC.out))
     have WBC := Aside0.mk (blk_below (blk_kept WB.out HKB2.out n11) HBC.out)
     have HRC := Aside0.mk (HRB.out.kept HBC.out)
     have HKC := Aside0.mk (HII.out _ _ _ (HII.out _ _ _ HKA.out (HKB2.out.mono (fun k hk => by subst hk; exact HRA.out.nsc))) (Kept.of_below HBC.out _))
     clear n9 n6 n11
     have k0 : wC.cell? ⟨g12, 0, none⟩ = some (.int .i64 O.f0) := (blk_cell E12.out 0).trans rfl
     have k1 : wC.cell? ⟨g12, 1, none⟩ = some (.int .i64 O.f1) := (blk_cell E12.out 1).trans rfl
     have k2 : wC.cell? ⟨g12, 2, none⟩ = some (.int .i64 O.f2) := (blk_cell E12.out 2).trans rfl
     have k3 : wC.cell? ⟨g9, 0, none⟩ = some (.int .i64 acc.f0) := (blk_cell HGC.out.1 0).trans rfl
     have k4 : wC.cell? ⟨g9, 1, none⟩ = some (.int .i64 acc.f1) := (blk_cell HGC.out.1 1).trans rfl
     have k5 : wC.cell? ⟨g9, 2, none⟩ = some (.int .i64 acc.f2) := (blk_cell HGC.out.1 2).trans rfl
     have k6 : wC.cell? ⟨g11, 0, none⟩ = some (.slice Af f.f0.length cf) := (blk_cell WBC.out 0).trans rfl
     have k7 : wC.cell? ⟨g11, 1, none⟩ = some (.int .i64 f.f1) := (blk_cell WBC.out 1).trans rfl
     by_cases hz : O.f0 = 0
     ·
      have hX := HX2.out
      rw [if_pos hz] at hX
      have hY := HY2.out
      rw [if_pos hz] at hY
      have NX : Aside0 (L.length - (i + 1) < gk ∧ i + 1 ≤ L.length ∧ rdA (rdO L) T (L.drop (i + 1)) acc = rdO L T ∧ hist ++ rdC (rdO L) T ((i + 1 : Nat) : Int) (L.drop (i + 1)) = h0 ++ rdCalls L T) := ⟨by have := HX.out.1; have := HIL.out; omega, HIL.out, hX, by simpa using hY⟩
      have hzz : (O.f0 == 0) = true := by rw [beq_iff_eq]; exact hz
      clear hX hY hz
      go_wp2
      go_roundg (L.length - (i + 1))
      case measure => exact NX.out.1
      case rel => exact ⟨i + 1, acc, hist, by simp, ⟨rfl, NX.out.2.1, by rw [← HTT.out]; exact NX.out.2.2.1, by rw [← HTT.out]; exact NX.out.2.2.2⟩, HGC, HRC, HKC⟩
     ·
      have hX := HX2.out
      rw [if_neg hz] at hX
      have hY := HY2.out
      rw [if_neg hz] at hY
      have NX : Aside0 (L.length - (i + 1) < gk ∧ i + 1 ≤ L.length ∧ rdA (rdO L) T (L.drop (i + 1)) (outW acc f O) = rdO L T ∧ (hist ++ [((i : Int), O)]) ++ rdC (rdO L) T ((i + 1 : Nat) : Int) (L.drop (i + 1)) = h0 ++ rdCalls L T) := ⟨by have := HX.out.1; have := HIL.out; omega, HIL.out, hX, by rw [← hY]; simp⟩
      have hzz : (O.f0 == 0) = false := by rw [beq_eq_false_iff_ne]; exact hz
      clear hX hY hz
      have HCALL := Aside0.mk (HCC.out wC hist (i : Int) O HRC.out HKC.out (by omega) (by have := HIL.out; omega) (hist_len HX.out.2.2.2))
      have s9 := nsc_of HGC.out.1 (by decide)
      have s6 := nsc_of HGC.out.2 (by decide)
      have s11 := nsc_of WBC.out (by decide)
      have s12 := nsc_of E12.out (by decide)
      go_upto_region 15 with (go_at_call 80; refine HCALL.out.mono ?_; rintro e wX ⟨rfl, hstX, hIX, hkX⟩; have HRX := Aside0.mk hstX; have HIX := Aside0.mk hIX; have HGX := Aside0.mk (And.intro (blk_kept HGC.out.1 hkX s9) (blk_kept HGC.out.2 hkX s6)); have WBX := Aside0.mk (blk_kept WBC.out hkX s11); have E12X := Aside0.mk (blk_kept E12.out hkX s12); clear hstX hIX hkX)
      clear k0 k1 k2 k3 k4 k5 k6 k7 s9 s6 s11 s12
      have k0 : wX.cell? ⟨g12, 0, none⟩ = some (.int .i64 O.f0) := (blk_cell E12X.out 0).trans rfl
      have k1 : wX.cell? ⟨g12, 1, none⟩ = some (.int .i64 O.f1) := (blk_cell E12X.out 1).trans rfl
      have k2 : wX.cell? ⟨g12, 2, none⟩ = some (.int .i64 O.f2) := (blk_cell E12X.out 2).trans rfl
      have k3 : wX.cell? ⟨g9, 0, none⟩ = some (.int .i64 acc.f0) := (blk_cell HGX.out.1 0).trans rfl
      have k4 : wX.cell? ⟨g9, 1, none⟩ = some (.int .i64 acc.f1) := (blk_cell HGX.out.1 1).trans rfl
      have k5 : wX.cell? ⟨g9, 2, none⟩ = some (.int .i64 acc.f2) := (blk_cell HGX.out.1 2).trans rfl
      have k6 : wX.cell? ⟨g11, 0, none⟩ = some (.slice Af f.f0.length cf) := (blk_cell WBX.out 0).trans rfl
      have k7 : wX.cell? ⟨g11, 1, none⟩ = some (.int .i64 f.f1) := (blk_cell WBX.out 1).trans rfl
      go_wp2_with (go_at_call 106; refine (impl_outcome_with_calls acc f Af f.f0.length cf O _).mono ?_; rintro e wD ⟨rfl, hbD⟩; have HBD := Aside0.mk hbD; have HGD := Aside0.mk (And.intro (blk_below HGX.out.1 hbD) (blk_below HGX.out.2 hbD)); have m0 : wD.cell? ⟨g9, 0, none⟩ = some (.int .i64 acc.f0) := (blk_cell HGD.out.1 0).trans rfl; have m1 : wD.cell? ⟨g9, 1, none⟩ = some (.int .i64 acc.f1) := (blk_cell HGD.out.1 1).trans rfl; have m2 : wD.cell? ⟨g9, 2, none⟩ = some (.int .i64 acc.f2) := (blk_cell HGD.out.1 2).trans rfl; have fm0 := blk_frozen HGD.out.1 0; have fm1 := blk_frozen HGD.out.1 1; have fm2 := blk_frozen HGD.out.1 2; clear hbD)
      go_roundg (L.length - (i + 1))
      case measure => exact NX.out.1
      case rel =>
       have nR : g9 ≠ R := blk_ne HGD.out.1 (HRX.out.kept HBD.out).blk (by decide)
       have nM : g9 ≠ M := (HRX.out.kept HBD.out).ne HGD.out.1
       have nB : w0.heap.size ≤ g9 := Nat.le_trans HST.out.below.size N9.out
       refine ⟨i + 1, outW acc f O, hist ++ [((i : Int), O)], by simp, ⟨rfl, NX.out.2.1, by rw [← HTT.out]; exact NX.out.2.2.1, by rw [← HTT.out]; exact NX.out.2.2.2⟩, ⟨blk_put (cs := #[.int .i64 (outW acc f O).f0, .int .i64 (outW acc f O).f1, .int .i64 acc.f2]) (blk_put (cs := #[.int .i64 (outW acc f O).f0, .int .i64 acc.f1, .int .i64 acc.f2]) (blk_put (cs := #[.int .i64 acc.f0, .int .i64 acc.f1, .int .i64 acc.f2]) HGD.out.1 0 _ rfl) 1 _ rfl) 2 _ rfl, ?_⟩, ⟨(((HRX.out.kept HBD.out).set nB nR nM _ _).set nB nR nM _ _).set nB nR nM _ _⟩, ⟨HII.out _ _ _ (HII.out _ _ _ HIX.out (Kept.of_below HBD.out _)) ((((Kept.refl _ _).setCell (.inl (nsc_of HGD.out.1 (by decide))) _).setCell (.inl (nsc_of HGD.out.1 (by decide))) _).setCell (.inl (nsc_of HGD.out.1 (by decide))) _)⟩⟩
       exact blk_far (blk_far (blk_far HGD.out.2 NE9.out _) NE9.out _) NE9.out _
   ·
    have d1 : decide ((i : Int) < (L.length : Int)) = false := decide_eq_false hi
    have d1' : decide (i < L.length) = false := decide_eq_false (by omega)
    have hacc : acc = rdO L (S.drop p) := by
     have h1 := HX.out.2.2.1
     have h2 := HX.out.2.1
     rw [List.drop_eq_nil_of_le (show L.length ≤ i by omega)] at h1
     exact h1
    have HACC := Aside0.mk hacc
    have HEND : Aside0 (hist = h0 ++ rdCalls L (S.drop p)) := ⟨by
     have h1 := HX.out.2.2.2
     rw [List.drop_eq_nil_of_le (show L.length ≤ i by omega)] at h1
     simpa [rdC] using h1⟩
    have NSM := Aside0.mk HR.out.nsc
    obtain ⟨F2, hF2, hF2'⟩ := HR.out.memo
    obtain ⟨es, ck, hput, hmf⟩ := (MapFn.move (w' := wr.drew) hF2 rfl).put Try.underlying132 Try.underlying3 (p : Int) (outV acc)
    have HRM : Aside0 (RdSt w0 (ChangeMaps.setBlock wr.drew M (.map es ck)) L S A0 c0 A1 c1 R M) := ⟨⟨below_setBlock (below_drew HR.out.below) HMR.out.1, blk_setBlock (w := wr.drew) HR.out.blk HMR.out.2.2, _, hmf, by
     intro k v hk
     by_cases e : k = (p : Int)
     ·
      rw [if_pos e] at hk
      cases hk
      exact ⟨p, e, HP.out, by rw [hacc]⟩
     ·
      rw [if_neg e] at hk
      exact hF2' k v hk⟩⟩
    have HKM : Aside0 (I (ChangeMaps.setBlock wr.drew M (.map es ck)) hist) := ⟨HII.out _ _ _ HKP.out (kept_setBlock (w := wr) (W := wr.drew) (Kept.refl _ _) (.inl NSM.out))⟩
    have n9 := HR.out.ne HG.out.1
    have n6 := HR.out.ne HG.out.2
    have HGM := Aside0.mk (And.intro (blk_setBlock (w := wr.drew) (o' := .map es ck) HG.out.1 n9) (blk_setBlock (w := wr.drew) (o' := .map es ck) HG.out.2 n6))
    have cR2 : wr.cell? ⟨R, 2, none⟩ = some (.map (some M)) := (blk_cell HR.out.blk 2).trans rfl
    have k3 : wr.cell? ⟨g9, 0, none⟩ = some (.int .i64 acc.f0) := (blk_cell HG.out.1 0).trans rfl
    have k4 : wr.cell? ⟨g9, 1, none⟩ = some (.int .i64 acc.f1) := (blk_cell HG.out.1 1).trans rfl
    have k5 : wr.cell? ⟨g9, 2, none⟩ = some (.int .i64 acc.f2) := (blk_cell HG.out.1 2).trans rfl
    unfold outV at hput
    generalize (ChangeMaps.setBlock wr.drew M (.map es ck)) = wM at HRM HKM HGM hput
    have j3 : wM.cell? ⟨g9, 0, none⟩ = some (.int .i64 acc.f0) := (blk_cell HGM.out.1 0).trans rfl
    have j4 : wM.cell? ⟨g9, 1, none⟩ = some (.int .i64 acc.f1) := (blk_cell HGM.out.1 1).trans rfl
    have j5 : wM.cell? ⟨g9, 2, none⟩ = some (.int .i64 acc.f2) := (blk_cell HGM.out.1 2).trans rfl
    have j0 : wM.cell? ⟨g6, 0, none⟩ = some (.int .i64 0) := (blk_cell HGM.out.2 0).trans rfl
    have j1 : wM.cell? ⟨g6, 1, none⟩ = some (.int .i64 0) := (blk_cell HGM.out.2 1).trans rfl
    have j2 : wM.cell? ⟨g6, 2, none⟩ = some (.int .i64 0) := (blk_cell HGM.out.2 2).trans rfl
    have f0 := blk_frozen HGM.out.2 0
    have f1 := blk_frozen HGM.out.2 1
    have f2 := blk_frozen HGM.out.2 2
    clear hF2 hF2' hmf hacc hi n9 n6
    go_wp2
    go_region
    go_wp2
    refine bodyPost_ret (results_cell_row rfl _ _ g6 109 #[.int .i64 acc.f0, .int .i64 acc.f1, .int .i64 acc.f2] (0, 0) _ rfl (blk_put (cs := #[.int .i64 acc.f0, .int .i64 acc.f1, .int .i64 0]) (blk_put (cs := #[.int .i64 acc.f0, .int .i64 0, .int .i64 0]) (blk_put (cs := #[.int .i64 0, .int .i64 0, .int .i64 0]) HGM.out.2 0 _ rfl) 1 _ rfl) 2 _ rfl) Try.underlying109 rfl (by kernel_rfl)) rfl ?_
    have nR : g6 ≠ R := blk_ne HGM.out.2 HRM.out.blk (by decide)
    have nM : g6 ≠ M := HRM.out.ne HGM.out.2
    have nB : w0.heap.size ≤ g6 := Nat.le_trans HST.out.below.size N6.out
    exact ⟨by rw [← HACC.out]; rfl, ((HRM.out.set nB nR nM _ _).set nB nR nM _ _).set nB nR nM _ _, by rw [← HEND.out]; exact HII.out _ _ _ HKM.out ((((Kept.refl _ _).setCell (.inl (nsc_of HGM.out.2 (by decide))) _).setCell (.inl (nsc_of HGM.out.2 (by decide))) _).setCell (.inl (nsc_of HGM.out.2 (by decide))) _)⟩
def bestF (L : List S55) : List (Int × OutC) → Int × Int → Int × Int
 | [], s => s
 | (i, o) :: r, (b, l) => bestF L r (if b < 0 ∨ wrap64 ((rd_T55 L i).f1 + o.f1) < l then (i, wrap64 ((rd_T55 L i).f1 + o.f1)) else (b, l))
theorem bestF_snoc (L : List S55) : ∀ (h : List (Int × OutC)) (i : Int) (o : OutC) (s : Int × Int), bestF L (h ++ [(i, o)]) s = (if (bestF L h s).1 < 0 ∨ wrap64 ((rd_T55 L i).f1 + o.f1) < (bestF L h s).2 then (i, wrap64 ((rd_T55 L i).f1 + o.f1)) else bestF L h s)
 | [], i, o, (b, l) => rfl
 | (j, q) :: r, i, o, (b, l) => by
  simp only [List.cons_append, bestF]
  exact bestF_snoc L r i o _
def bestGo (L : List S55) : Nat → List Int → List Int
 | 0, _ => []
 | n + 1, s => if s = [] then [] else (bestF L (rdCalls L s) (-1, 0)).1 :: bestGo L n (s.drop (rd_T55 L (bestF L (rdCalls L s) (-1, 0)).1).f0.length)
def fBest (L : List S55) (S : List Int) : List Int × Bool := if okR L S = true then (if (rdO L S).f0 = 0 then ([], false) else (bestGo L S.length S, true)) else ([], false)
theorem rdC_nil {rec : List Int → OutC} {s : List Int} : ∀ (l : List S55) (i : Int) (acc : OutC), rdC rec s i l = [] → rdA rec s l acc = acc
 | [], _, _, _ => rfl
 | f :: fs, i, acc, h => by
  simp only [rdC] at h
  simp only [rdA]
  by_cases hp : isPre f.f0 s = true
  ·
   rw [if_pos hp] at h ⊢
   by_cases hz : (rec (s.drop f.f0.length)).f0 = 0
   ·
    rw [if_pos hz] at h ⊢
    exact rdC_nil fs _ acc h
   ·
    rw [if_neg hz] at h; cases h
  ·
   rw [if_neg hp] at h ⊢
   exact rdC_nil fs _ acc h
theorem bestF_mem (L : List S55) : ∀ (h : List (Int × OutC)) (s : Int × Int), (∀ x ∈ h, 0 ≤ x.1) → (0 ≤ s.1 → bestF L h s = s ∨ ∃ x ∈ h, (bestF L h s).1 = x.1) ∧ (s.1 < 0 → h ≠ [] → ∃ x ∈ h, (bestF L h s).1 = x.1)
 | [], s, _ => ⟨fun _ => .inl rfl, fun _ h => absurd rfl h⟩
 | (i, o) :: r, (b, l), hx => by
  have hi : 0 ≤ i := hx _ List.mem_cons_self
  have hr := fun x hm => hx x (List.mem_cons_of_mem _ hm)
  simp only [bestF]
  refine ⟨fun hb => ?_, fun hb _ => ?_⟩
  ·
   by_cases hc : b < 0 ∨ wrap64 ((rd_T55 L i).f1 + o.f1) < l
   ·
    rw [if_pos hc]
    rcases (bestF_mem L r (i, wrap64 ((rd_T55 L i).f1 + o.f1)) hr).1 hi with h | ⟨x, h1, h2⟩
    ·
     exact .inr ⟨(i, o), List.mem_cons_self, by rw [h]⟩
    ·
     exact .inr ⟨x, List.mem_cons_of_mem _ h1, h2⟩
   ·
    rw [if_neg hc]
    rcases (bestF_mem L r (b, l) hr).1 hb with h | ⟨x, h1, h2⟩
    ·
     exact .inl h
    ·
     exact .inr ⟨x, List.mem_cons_of_mem _ h1, h2⟩
  ·
   rw [if_pos (.inl hb)]
   rcases (bestF_mem L r (i, wrap64 ((rd_T55 L i).f1 + o.f1)) hr).1 hi with h | ⟨x, h1, h2⟩
   ·
    exact ⟨(i, o), List.mem_cons_self, by rw [h]⟩
   ·
    exact ⟨x, List.mem_cons_of_mem _ h1, h2⟩
theorem best_ok {L : List S55} (hL : ∀ f ∈ L, 1 ≤ f.f0.length) {s : List Int} (hs : s ≠ []) (hm : (rdO L s).f0 ≠ 0) :
 ∃ b o, (bestF L (rdCalls L s) (-1, 0)).1 = b ∧ (b, o) ∈ rdCalls L s ∧ 0 ≤ b ∧ b < (L.length : Int) ∧ isPre (rd_T55 L b).f0 s = true ∧ (rdO L (s.drop (rd_T55 L b).f0.length)).f0 ≠ 0 ∧ 1 ≤ (rd_T55 L b).f0.length := by
 have hcl : rdCalls L s = rdC (rdO L) s ((0 : Nat) : Int) L := if_neg hs
 have hmem : ∀ {i : Int} {o : OutC}, (i, o) ∈ rdCalls L s → _ := fun {i o} h => rdC_mem L 0 rfl (hcl ▸ h)
 have hne : rdCalls L s ≠ [] := by
  intro h
  rw [hcl] at h
  have := rdC_nil (rec := rdO L) L _ ⟨0, 0, 0⟩ h
  rw [rdO_step hL hs, this] at hm
  exact hm rfl
 obtain ⟨⟨i, o⟩, h1, h2⟩ := (bestF_mem L (rdCalls L s) (-1, 0) (fun x hx => (hmem (i := x.1) (o := x.2) hx).1)).2 (by decide) hne
 obtain ⟨a1, a2, a3, a4, a5⟩ := hmem h1
 exact ⟨i, o, h2, h1, a1, a2, a3, by rw [← a4]; exact a5, hL _ (rd_mem a1 a2)⟩
theorem bestGo_more {L : List S55} (hL : ∀ f ∈ L, 1 ≤ f.f0.length) : ∀ (n m : Nat) (s : List Int), s.length ≤ n → s.length ≤ m → (rdO L s).f0 ≠ 0 → bestGo L n s = bestGo L m s
 | 0, m, s, h, _, _ => by
  obtain rfl : s = [] := List.eq_nil_of_length_eq_zero (by omega)
  cases m <;> simp [bestGo]
 | n + 1, 0, s, _, h, _ => by
  obtain rfl : s = [] := List.eq_nil_of_length_eq_zero (by omega)
  simp [bestGo]
 | n + 1, m + 1, s, h, h', hm => by
  simp only [bestGo]
  by_cases hs : s = []
  ·
   rw [if_pos hs, if_pos hs]
  ·
   rw [if_neg hs, if_neg hs]
   obtain ⟨b, o, h1, _, _, _, h5, h6, h7⟩ := best_ok hL hs hm
   rw [h1]
   have hl := isPre_len h5
   rw [bestGo_more hL n m _ (by rw [List.length_drop]; omega) (by rw [List.length_drop]; omega) h6]

/-- What a best reading's closure works on: the list's box, the best, the least, and the reading so far beside them. -/
structure BI (L : List S55) (A0 : Option Addr) (c0 : Nat) (B F1 F2 F3 : Nat) (v : Value) (X : List Int) (w : World) (h : List (Int × OutC)) : Prop where
 b1 : B ≤ F1
 b2 : B ≤ F2
 b3 : B ≤ F3
 n23 : F2 ≠ F3
 bw : B ≤ w.heap.size
 k1 : w.heap[F1]? = some (.cells #[.slice A0 L.length c0] 38 (0, 0))
 k2 : w.heap[F2]? = some (.cells #[.int .i64 (bestF L h (-1, 0)).1] 3 (0, 0))
 k3 : w.heap[F3]? = some (.cells #[.int .i64 (bestF L h (-1, 0)).2] 3 (0, 0))
 row : Kd.R (Kd.int .i64) 3 w B (fun k => k ≠ F2 ∧ k ≠ F3) v X
theorem row_move' {B : Nat} {w w' : World} {ok : Nat → Prop} {v : Value} {xs : List Int} (h : Kd.R (Kd.int .i64) 3 w B ok v xs) (hk : Kept w w' (fun k => ¬ SCb w k)) : Kd.R (Kd.int .i64) 3 w' B ok v xs := by
 refine Kd.R_mono (Kd.R_kept (Kd.R_bound h) hk (fun k hk hn => hn ?_)) (fun _ hk => hk.1)
 obtain ⟨_, _, _, q, hq, cells, hc⟩ := hk
 have e : q = 3 := by simpa [Kd.int, Kd.scalar] using hq
 subst e
 exact ⟨cells, _, _, hc, by decide, by decide, by decide⟩
theorem BI.move {L : List S55} {A0 : Option Addr} {c0 B F1 F2 F3 : Nat} {v : Value} {X : List Int} {w w' : World} {h : List (Int × OutC)} (hi : BI L A0 c0 B F1 F2 F3 v X w h) (hk : Kept w w' (fun k => ¬ SCb w k)) : BI L A0 c0 B F1 F2 F3 v X w' h :=
 ⟨hi.b1, hi.b2, hi.b3, hi.n23, Nat.le_trans hi.bw hk.1, blk_kept hi.k1 hk (fun hn => hn ⟨_, _, _, hi.k1, by decide, by decide, by decide⟩), blk_kept hi.k2 hk (fun hn => hn ⟨_, _, _, hi.k2, by decide, by decide, by decide⟩), blk_kept hi.k3 hk (fun hn => hn ⟨_, _, _, hi.k3, by decide, by decide, by decide⟩), row_move' hi.row hk⟩
set_option maxHeartbeats 4000000 in
set_option maxRecDepth 100000 in
theorem impl_FormulasBest1_calls {w0 w : World} {L : List S55} {S : List Int} {A0 : Option Addr} {c0 : Nat} {A1 : Option Addr} {c1 : Nat} {R M F1 F2 F3 : Nat} {v : Value} {X : List Int} (hr0 : Kd.C k55 w0 A0 L.length L) (hs : RdSt w0 w L S A0 c0 A1 c1 R M) (h : List (Int × OutC)) (i : Int) (o : OutC) (hi : BI L A0 c0 w0.heap.size F1 F2 F3 v X w h) (h0 : 0 ≤ i) (h1 : i < (L.length : Int)) :
 Calls Try.prog 80 #[.int .i64 i, .agg #[.int .i64 o.f0, .int .i64 o.f1, .int .i64 o.f2], .pointer (some ⟨F1, 0, none⟩), .pointer (some ⟨F2, 0, none⟩), .pointer (some ⟨F3, 0, none⟩)] w fun e w' => e = .returned (.tuple #[]) ∧ RdSt w0 w' L S A0 c0 A1 c1 R M ∧ BI L A0 c0 w0.heap.size F1 F2 F3 v X w' (h ++ [(i, o)]) ∧ Kept w w' (SCb w) := by
 have hu1 := Try.underlying109
 have hu2 := Try.underlying55
 have HS := Aside0.mk hs
 have HI := Aside0.mk hi
 have hsn := bestF_snoc L h i o (-1, 0)
 obtain ⟨ad, Af, cf, e0, ux0, ux1, hcf, hrf⟩ := at_T55 (Kd.C_below hr0 hs.below) i h0 h1
 subst e0
 obtain ⟨f, hf⟩ : ∃ f, f = rd_T55 L i := ⟨_, rfl⟩
 rw [← hf] at ux0 ux1 hsn
 obtain ⟨b, l, hbl⟩ : ∃ b l, bestF L h (-1, 0) = (b, l) := ⟨_, _, rfl⟩
 have hbl2 := hbl
 rw [hbl] at hsn
 simp only [] at hsn
 have q0 := eq_true h0
 have q1 := eq_true h1
 have K1 := Aside0.mk hi.k1
 have K2 := hi.k2
 have K3 := hi.k3
 rw [hbl] at K2 K3
 have K2 := Aside0.mk K2
 have K3 := Aside0.mk K3
 have U1 := Aside0.mk ux1
 obtain ⟨W, hW⟩ : ∃ W, W = wrap64 (f.f1 + o.f1) := ⟨_, rfl⟩
 rw [← hW] at hsn
 have hWW := (i64_w (f.f1 + o.f1)).trans hW.symm
 have HW := Aside0.mk hWW
 have HV := Aside0.mk hW.symm
 have SC2 := Aside0.mk (show SCb w F2 from ⟨_, _, _, hi.k2, by decide, by decide, by decide⟩)
 have SC3 := Aside0.mk (show SCb w F3 from ⟨_, _, _, hi.k3, by decide, by decide, by decide⟩)
 clear hs hi hf hcf hrf ux0 ux1 hbl hW hWW
 by_cases hc : b < 0 ∨ W < l
 ·
  rw [if_pos hc] at hsn
  have HSN := Aside0.mk hsn
  have hcases : decide (b < 0) = true ∨ (decide (b < 0) = false ∧ decide (W < l) = true) := by
   by_cases h : b < 0
   ·
    exact .inl (decide_eq_true h)
   ·
    exact .inr ⟨decide_eq_false h, decide_eq_true (hc.resolve_left h)⟩
  clear hc hsn hbl2
  rcases hcases with hd | ⟨hd, hd2⟩
  all_goals
   go_enter Try.func80, Try.ntmps80
   go_upto_region 1 with (first
    | ((with_reducible refine gate_dst (N := 6) rfl ?_); refine box_event ?hg (N := 6) ?hd (cs := #[.int .i64 o.f0, .int .i64 o.f1, .int .i64 o.f2]) (t := 109) ?hr ?_; (case hd => rfl); (case hg => rfl); (case hr => first | (go_simp; done) | (go_simp; rfl)); intro g6 hg w1 hbox hb; have HBL := Aside0.mk hb; have j1 : w1.cell? ⟨g6, 1, none⟩ = some (.int .i64 o.f1) := (blk_cell hbox 1).trans rfl; have c1_ : w1.cell? ⟨F1, 0, none⟩ = some (.slice (some ad) L.length c0) := (blk_cell (blk_below K1.out hb) 0).trans rfl; have c2_ : w1.cell? ⟨F2, 0, none⟩ = some (.int .i64 b) := (blk_cell (blk_below K2.out hb) 0).trans rfl; have c3_ : w1.cell? ⟨F3, 0, none⟩ = some (.int .i64 l) := (blk_cell (blk_below K3.out hb) 0).trans rfl; have u1_ := pw_cell_below hb U1.out; have f2_ := blk_frozen (blk_below K2.out hb) 0; have f3_ := blk_frozen (blk_below K3.out hb) 0; clear hg hbox hb)
    | fail)
   (try simp only [Act.put, List.setIfInBounds_toArray, List.set_cons_zero, List.set_cons_succ])
   have n23 := HI.out.n23
   have n32 := Ne.symm n23
   go_quiet (fail)
   first | rw [HV.out] | rw [HW.out]
   go_wp2
   go_end0
   have hB1 : Below w.heap.size w (w1.drewN nq) := pw_below_drewN HBL.out _
   have hR1 := HI.out.move (Kept.of_below hB1 _)
   have k2 := hR1.k2
   have k3 := hR1.k3
   have hK : Kept w (((w1.drewN nq).setCell ⟨F2, 0, none⟩ (.int .i64 i)).setCell ⟨F3, 0, none⟩ (.int .i64 W)) (SCb w) := ((Kept.of_below hB1 _).setCell (.inl SC2.out) _).setCell (.inl SC3.out) _
   have hBB := below_set (j := 0) (v := .int .i64 W) (below_set (j := 0) (v := .int .i64 i) (below_then HS.out.below HI.out.bw hB1) HI.out.b2) HI.out.b3
   refine ⟨rfl, HS.out.keptSC hBB hK, ⟨HI.out.b1, HI.out.b2, HI.out.b3, n23, hBB.size, blk_far (blk_far hR1.k1 (blk_ne hR1.k1 k2 (by decide)) _) (blk_ne hR1.k1 k3 (by decide)) _, ?_, ?_, Kd.R_far (Kd.R_far hR1.row (p := ⟨F2, 0, none⟩) (fun k hk => hk.1) _) (p := ⟨F3, 0, none⟩) (fun k hk => hk.2) _⟩, hK⟩
   ·
    rw [HSN.out]
    exact blk_far (blk_put (cs := #[.int .i64 _]) k2 0 _ rfl) n23 _
   ·
    rw [HSN.out]
    exact blk_put (cs := #[.int .i64 _]) (blk_far k3 n32 _) 0 _ rfl
 ·
  rw [if_neg hc] at hsn
  have HSN := Aside0.mk hsn
  have HBL2 := Aside0.mk hbl2
  have hd : decide (b < 0) = false := decide_eq_false (fun h => hc (.inl h))
  have hd2 : decide (W < l) = false := decide_eq_false (fun h => hc (.inr h))
  clear hc hsn hbl2
  go_enter Try.func80, Try.ntmps80
  go_upto_region 1 with (first
   | ((with_reducible refine gate_dst (N := 6) rfl ?_); refine box_event ?hg (N := 6) ?hd (cs := #[.int .i64 o.f0, .int .i64 o.f1, .int .i64 o.f2]) (t := 109) ?hr ?_; (case hd => rfl); (case hg => rfl); (case hr => first | (go_simp; done) | (go_simp; rfl)); intro g6 hg w1 hbox hb; have HBL := Aside0.mk hb; have j1 : w1.cell? ⟨g6, 1, none⟩ = some (.int .i64 o.f1) := (blk_cell hbox 1).trans rfl; have c1_ : w1.cell? ⟨F1, 0, none⟩ = some (.slice (some ad) L.length c0) := (blk_cell (blk_below K1.out hb) 0).trans rfl; have c2_ : w1.cell? ⟨F2, 0, none⟩ = some (.int .i64 b) := (blk_cell (blk_below K2.out hb) 0).trans rfl; have c3_ : w1.cell? ⟨F3, 0, none⟩ = some (.int .i64 l) := (blk_cell (blk_below K3.out hb) 0).trans rfl; have u1_ := pw_cell_below hb U1.out; have f2_ := blk_frozen (blk_below K2.out hb) 0; have f3_ := blk_frozen (blk_below K3.out hb) 0; clear hg hbox hb)
   | fail)
  (try simp only [Act.put, List.setIfInBounds_toArray, List.set_cons_zero, List.set_cons_succ])
  have n23 := HI.out.n23
  have n32 := Ne.symm n23
  go_quiet (fail)
  first | rw [HV.out] | rw [HW.out]
  go_wp2
  go_end0
  have hB1 : Below w.heap.size w (w1.drewN nq) := pw_below_drewN HBL.out _
  have hR1 := HI.out.move (Kept.of_below hB1 _)
  have k2 := hR1.k2
  have k3 := hR1.k3
  have hK : Kept w (w1.drewN nq) (SCb w) := Kept.of_below hB1 _
  have hBB := below_then HS.out.below HI.out.bw hB1
  refine ⟨rfl, HS.out.keptSC hBB hK, ⟨HI.out.b1, HI.out.b2, HI.out.b3, n23, hBB.size, hR1.k1, by rw [HSN.out]; rw [HBL2.out] at k2; exact k2, by rw [HSN.out]; rw [HBL2.out] at k3; exact k3, hR1.row⟩, hK⟩

set_option maxHeartbeats 4000000 in
set_option maxRecDepth 100000 in
theorem impl_FormulasBest_calls (L : List S55) (S : List Int) (A0 : Option Addr) (c0 : Nat) (A1 : Option Addr) (c1 : Nat) (w : World) (hr0 : Kd.C k55 w A0 L.length L) (hc0 : L.length ≤ c0) (hr1 : Kd.C (Kd.int .i64) w A1 S.length S) (hc1 : S.length ≤ c1) (hL : ∀ x ∈ L, x.f0.length ≤ 1000000000000) (hS : S.length ≤ 1000000000000) :
 Calls Try.prog 29 #[.slice A0 L.length c0, .slice A1 S.length c1] w fun e w' => ∃ v, e = .returned (.tuple #[v, .bool (fBest L S).2]) ∧ Kd.R (Kd.int .i64) 3 w' w.heap.size (fun _ => True) v (fBest L S).1 ∧ Below w.heap.size w w' := by
 have hu1 := Try.underlying109
 have hu2 := Try.underlying55
 have hmf : ∀ (fn : Fn) (first cap : Array Value) (w : World), (Instr.makeFunc fn first cap).run Try.prog w = .ok (.func fn first cap) w := fun _ _ _ _ => rfl
 have HI := Aside0.mk info3
 have HR0 := Aside0.mk hr0
 have HR1 := Aside0.mk hr1
 have HCC := Aside0.mk (And.intro hc0 (And.intro hc1 (And.intro hL hS)))
 clear hr0 hr1 hc0 hc1 hL hS
 cases hok : okR L S
 ·
  have e : fBest L S = ([], false) := by unfold fBest; rw [hok]; rfl
  rw [e]
  have HOK := Aside0.mk hok
  clear hok e
  go_enter Try.func29, Try.ntmps29
  go_wp2_with (first
   | ((with_reducible refine gate_dst (N := 2) rfl ?_); refine box_event ?hg (N := 2) ?hd (cs := #[.slice A0 L.length c0]) (t := 38) ?hr ?_; (case hd => rfl); (case hg => rfl); (case hr => first | (go_simp; done) | (go_simp; rfl)); intro F1 hg w2 hbox hb; have HB2 := Aside0.mk hb; have k0 : w2.cell? ⟨F1, 0, none⟩ = some (.slice A0 L.length c0) := (blk_cell hbox 0).trans rfl; clear hg hbox hb)
   | (go_at_call 77; refine (impl_newReader_no (Kd.C_below HR0.out HB2.out) HCC.out.1 (Kd.C_below HR1.out HB2.out) HCC.out.2.1 HCC.out.2.2.1 HCC.out.2.2.2 HOK.out).mono ?_; rintro e w4 ⟨rfl, hb4⟩; have HB4 := Aside0.mk (below_step HB2.out hb4); clear hb4))
  go_ret2
  exact ⟨_, rfl, Kd.R_nil _ _ _ _ _, HB4.out⟩
 obtain ⟨l1, l2, l3⟩ := okR_lens hok
 have HOK := Aside0.mk hok
 have HLS := Aside0.mk (And.intro l1 (And.intro l2 l3))
 by_cases hm : (rdO L S).f0 = 0
 ·
  have e : fBest L S = ([], false) := by unfold fBest; rw [hok, if_pos rfl, if_pos hm]
  rw [e]
  obtain ⟨O, hO⟩ : ∃ O, O = rdO L S := ⟨_, rfl⟩
  rw [← hO] at hm
  have HO := Aside0.mk hO
  have hz : (O.f0 == 0) = true := by rw [beq_iff_eq]; exact hm
  have hfd : ∀ w, (Instr.field 109 (.agg #[.int .i64 O.f0, .int .i64 O.f1, .int .i64 O.f2]) 0).run Try.prog w = .ok (.int .i64 O.f0) w := fun _ => by kernel_rfl
  clear hok e l1 l2 l3 hm hO
  go_enter Try.func29, Try.ntmps29
  go_wp2_with (first
   | ((with_reducible refine gate_dst (N := 2) rfl ?_); refine box_event ?hg (N := 2) ?hd (cs := #[.slice A0 L.length c0]) (t := 38) ?hr ?_; (case hd => rfl); (case hg => rfl); (case hr => first | (go_simp; done) | (go_simp; rfl)); intro F1 hg w2 hbox hb; have HB2 := Aside0.mk hb; have k0 : w2.cell? ⟨F1, 0, none⟩ = some (.slice A0 L.length c0) := (blk_cell hbox 0).trans rfl; clear hg hbox hb)
   | (go_at_call 77; refine (impl_newReader_yes (Kd.C_below HR0.out HB2.out) HCC.out.1 (Kd.C_below HR1.out HB2.out) HCC.out.2.1 HCC.out.2.2.1 HCC.out.2.2.2 HOK.out).mono ?_; rintro e w4 ⟨R, M, rfl, hst, hM, hR, hRM⟩; have HX := Aside0.mk (impl_read_nil HR0.out HCC.out.1 HR1.out HCC.out.2.1 HLS.out.1 HLS.out.2.1 HLS.out.2.2 (Nat.le_trans HB2.out.size hM) (Nat.le_trans HB2.out.size hR) hRM S.length 0 w4 (Nat.zero_le _) (by omega) (hst.lower HB2.out)); simp only [List.drop_zero, Int.natCast_zero] at HX; rw [← HO.out] at HX; unfold outV at HX; clear hst hM hR hRM)
   | (go_at_call 78; refine HX.out.mono ?_; rintro e w5 ⟨rfl, hst, hk⟩; have HB := Aside0.mk hst.below; clear hst hk))
  go_ret2
  exact ⟨_, rfl, Kd.R_nil _ _ _ _ _, HB.out⟩
 ·
  have e : fBest L S = (bestGo L S.length S, true) := by unfold fBest; rw [hok, if_pos rfl, if_neg hm]
  rw [e]
  obtain ⟨G, hG⟩ : ∃ G, G = bestGo L S.length S := ⟨_, rfl⟩
  rw [← hG]
  have HG := Aside0.mk hG
  have HM0 := Aside0.mk hm
  obtain ⟨O, hO⟩ : ∃ O, O = rdO L S := ⟨_, rfl⟩
  rw [← hO] at hm
  have HO := Aside0.mk hO
  have hz : (O.f0 == 0) = false := by rw [beq_eq_false_iff_ne]; exact hm
  have hfd : ∀ w, (Instr.field 109 (.agg #[.int .i64 O.f0, .int .i64 O.f1, .int .i64 O.f2]) 0).run Try.prog w = .ok (.int .i64 O.f0) w := fun _ => by kernel_rfl
  clear hok e l1 l2 l3 hm hO hG
  go_enter Try.func29, Try.ntmps29
  go_wp2_with (first
   | ((with_reducible refine gate_dst (N := 2) rfl ?_); refine box_event ?hg (N := 2) ?hd (cs := #[.slice A0 L.length c0]) (t := 38) ?hr ?_; (case hd => rfl); (case hg => rfl); (case hr => first | (go_simp; done) | (go_simp; rfl)); intro F1 hg w2 hbox hb; have HB2 := Aside0.mk hb; have HK2 := Aside0.mk hbox; have NF1 := Aside0.mk (show w.heap.size ≤ F1 from (by rw [hg]; exact Nat.le_refl _)); have k0 : w2.cell? ⟨F1, 0, none⟩ = some (.slice A0 L.length c0) := (blk_cell hbox 0).trans rfl; clear hg hbox hb)
   | (go_at_call 77; refine (impl_newReader_yes (Kd.C_below HR0.out HB2.out) HCC.out.1 (Kd.C_below HR1.out HB2.out) HCC.out.2.1 HCC.out.2.2.1 HCC.out.2.2.2 HOK.out).mono ?_; rintro e w4 ⟨R, M, rfl, hst, hM, hR, hRM⟩; have HMR := Aside0.mk (And.intro (Nat.le_trans HB2.out.size hM) (And.intro (Nat.le_trans HB2.out.size hR) hRM)); have HK4 := Aside0.mk (blk_below HK2.out hst.below); have HX := Aside0.mk (impl_read_nil HR0.out HCC.out.1 HR1.out HCC.out.2.1 HLS.out.1 HLS.out.2.1 HLS.out.2.2 (Nat.le_trans HB2.out.size hM) (Nat.le_trans HB2.out.size hR) hRM S.length 0 w4 (Nat.zero_le _) (by omega) (hst.lower HB2.out)); simp only [List.drop_zero, Int.natCast_zero] at HX; rw [← HO.out] at HX; unfold outV at HX; have NM := Aside0.mk (show F1 ≠ M from (hst.lower HB2.out).ne HK4.out); clear hst hM hR hRM)
   | (go_at_call 78; refine HX.out.mono ?_; rintro e w5 ⟨rfl, hst, hk⟩; have HST5 := Aside0.mk hst; have HK5 := Aside0.mk (blk_kept HK4.out hk NM.out); clear hst hk)
   | ((with_reducible refine gate_dst (N := 26) rfl ?_); refine Kd.R_lit (Kd.int .i64) _ 3 ?hg (N := 26) ?hd (xs := ([] : List Int)) (inner := []) (ok := fun _ => True) (okp := fun _ => True) ?hr (Reps.none _ _) (fun _ hk => hk) trivial (Below.refl _ _) (Nat.le_refl _) (by simp) ?_; (case hd => rfl); (case hg => rfl); (case hr => first | (go_simp; done) | (go_simp; rfl)); intro v6 w6 ho6 hb6 _ _; have HO6 := Aside0.mk (Kd.R_lower ho6 HST5.out.below.size); have HST6 := Aside0.mk (HST5.out.kept hb6); have HK6 := Aside0.mk (blk_below HK5.out hb6); clear ho6 hb6))
  go_loopg [8, 9] S.length (fun kq v8 v9 w' => ∃ (p : Nat) (X : List Int) (vv : Value), vv = v8 ∧ v9 = .int .i64 (p : Int) ∧ Aside0 (kq = S.length - p ∧ p ≤ S.length ∧ (rdO L (S.drop p)).f0 ≠ 0 ∧ X ++ bestGo L (S.length - p) (S.drop p) = G ∧ X.length ≤ p) ∧ Aside0 (Kd.R (Kd.int .i64) 3 w' w.heap.size (fun _ => True) vv X) ∧ Aside0 (w'.heap[F1]? = some (.cells #[.slice A0 L.length c0] 38 (0, 0))) ∧ Aside0 (RdSt w w' L S A0 c0 A1 c1 R M))
  case atStart => exact ⟨0, [], _, rfl, rfl, ⟨by omega, Nat.zero_le _, by rw [List.drop_zero]; exact HM0.out, by rw [List.drop_zero]; exact HG.out.symm, Nat.le_refl _⟩, HO6, HK6, HST6⟩
  case round =>
   clear HO6 HK6 HST6 HX HM0 HG k0
   obtain ⟨p, X, v8, rfl, rfl, HXX, HRX, HK, HST⟩ := hrel
   have hLS1 := fun f hf => (HLS.out.1 f hf).1
   by_cases hp : (p : Int) < (S.length : Int)
   ·
    have d1 : decide ((p : Int) < (S.length : Int)) = true := decide_eq_true hp
    have d2 : decide (p < S.length) = true := decide_eq_true (by omega)
    have hne : S.drop p ≠ [] := by
     intro h
     have := congrArg List.length h
     rw [List.length_drop, List.length_nil] at this
     omega
    obtain ⟨b, o, hb1, hb2, hb3, hb4, hb5, hb6, hb7⟩ := best_ok (fun f hf => (HLS.out.1 f hf).1) hne HXX.out.2.2.1
    have hpl := isPre_len hb5
    rw [List.length_drop] at hpl
    have hgo : X ++ [b] ++ bestGo L (S.length - (p + (rd_T55 L b).f0.length)) (S.drop (p + (rd_T55 L b).f0.length)) = G := by
     have h1 := HXX.out.2.2.2.1
     obtain ⟨m, hm⟩ : ∃ m, S.length - p = m + 1 := ⟨S.length - p - 1, by omega⟩
     rw [hm] at h1
     simp only [bestGo] at h1
     rw [if_neg hne, hb1, List.drop_drop] at h1
     rw [← h1, bestGo_more hLS1 (S.length - (p + (rd_T55 L b).f0.length)) m (S.drop (p + (rd_T55 L b).f0.length)) (by rw [List.length_drop]; omega) (by rw [List.length_drop]; omega) (by rw [← List.drop_drop]; exact hb6)]
     simp
    obtain ⟨ad, Af, cf, e0, ux0, ux1, hcf, hrf⟩ := at_T55 HR0.out b hb3 hb4
    subst e0
    obtain ⟨f, hf⟩ : ∃ f, f = rd_T55 L b := ⟨_, rfl⟩
    rw [← hf] at ux0 hgo hb5 hb6 hb7 hpl
    rw [List.drop_drop] at hb6
    have U0 := Aside0.mk ux0
    have hf5 := (HLS.out.1 f (by rw [hf]; exact rd_mem hb3 hb4)).2
    have NX : Aside0 (S.length - (p + f.f0.length) < gk ∧ p + f.f0.length ≤ S.length ∧ (rdO L (S.drop (p + f.f0.length))).f0 ≠ 0 ∧ X ++ [b] ++ bestGo L (S.length - (p + f.f0.length)) (S.drop (p + f.f0.length)) = G ∧ (X ++ [b]).length ≤ p + f.f0.length) := ⟨by have := HXX.out.1; omega, by omega, hb6, hgo, by rw [List.length_append, List.length_singleton]; have := HXX.out.2.2.2.2; omega⟩
    have HB1 := Aside0.mk hb1
    have bx : X.length ≤ 1000 := by have := HXX.out.2.2.2.2; have := HLS.out.2.2; omega
    have bp : p ≤ 23 := by have := HLS.out.2.2; omega
    have q0 := eq_true hb3
    have q1 := eq_true hb4
    have PS := Aside0.mk (show p ≤ S.length by omega)
    clear hne hb1 hb2 hb3 hb4 hb5 hb6 hb7 hpl hgo hf ux0 ux1 hcf hrf hp
    go_upto_region 8 with (first
     | ((with_reducible refine gate_dst (N := 10) rfl ?_); refine box_event ?hg (N := 10) ?hd (cs := #[.int .i64 0]) (t := 3) ?hr ?_; (case hd => rfl); (case hg => rfl); (case hr => first | (go_simp; done) | (go_simp; rfl)); intro F2 hg w7 hbox hb; have HB7 := Aside0.mk hb; have KF2 := Aside0.mk hbox; have NF2 := Aside0.mk (show wr.heap.size ≤ F2 from (by rw [hg]; exact Nat.le_refl _)); clear hg hbox hb)
     | ((with_reducible refine gate_dst (N := 11) rfl ?_); refine box_event ?hg (N := 11) ?hd (cs := #[.int .i64 0]) (t := 3) ?hr ?_; (case hd => rfl); (case hg => rfl); (case hr => first | (go_simp; done) | (go_simp; rfl)); intro F3 hg w8 hbox hb; have HB8 := Aside0.mk (below_step HB7.out hb); have KF2' := Aside0.mk (blk_below KF2.out hb); have KF3 := Aside0.mk hbox; have NF3 := Aside0.mk (show wr.heap.size ≤ F3 from (by rw [hg]; exact HB7.out.size)); have N23 := Aside0.mk (show F2 ≠ F3 from (by rw [hg]; exact Nat.ne_of_lt (blk_lt KF2.out))); have y2 : w8.cell? ⟨F2, 0, none⟩ = some (.int .i64 0) := (blk_cell KF2'.out 0).trans rfl; have y3 : w8.cell? ⟨F3, 0, none⟩ = some (.int .i64 0) := (blk_cell KF3.out 0).trans rfl; have g2 := blk_frozen KF2'.out 0; have g3 := blk_frozen KF3.out 0; have n23 := N23.out; have n32 := Ne.symm N23.out; clear hg hbox hb))
    have E2 : Aside0 (((w8.setCell ⟨F2, 0, none⟩ (.int .i64 (-1))).setCell ⟨F3, 0, none⟩ (.int .i64 0)).heap[F2]? = some (.cells #[.int .i64 (-1)] 3 (0, 0))) := ⟨blk_far (blk_put (cs := #[.int .i64 0]) KF2'.out 0 _ rfl) n23 _⟩
    have E3 : Aside0 (((w8.setCell ⟨F2, 0, none⟩ (.int .i64 (-1))).setCell ⟨F3, 0, none⟩ (.int .i64 0)).heap[F3]? = some (.cells #[.int .i64 0] 3 (0, 0))) := ⟨blk_put (cs := #[.int .i64 0]) (blk_far KF3.out n32 _) 0 _ rfl⟩
    have HBA : Aside0 (Below wr.heap.size wr ((w8.setCell ⟨F2, 0, none⟩ (.int .i64 (-1))).setCell ⟨F3, 0, none⟩ (.int .i64 0))) := ⟨below_set (below_set HB8.out NF2.out) NF3.out⟩
    clear KF2 KF2' KF3 HB7 HB8 y2 y3 g2 g3
    generalize ((w8.setCell ⟨F2, 0, none⟩ (.int .i64 (-1))).setCell ⟨F3, 0, none⟩ (.int .i64 0)) = wA at E2 E3 HBA ⊢
    have HSA := Aside0.mk (HST.out.kept HBA.out)
    have HBI := Aside0.mk (show BI L (some ad) c0 w.heap.size F1 F2 F3 v8 X wA [] from ⟨NF1.out, Nat.le_trans HST.out.below.size NF2.out, Nat.le_trans HST.out.below.size NF3.out, n23, HSA.out.below.size, blk_below HK.out HBA.out, E2.out, E3.out, Kd.R_below (Kd.R_mono (Kd.R_bound HRX.out) (fun k hk => ⟨by have := hk.2.2.1; have := NF2.out; omega, by have := hk.2.2.1; have := NF3.out; omega⟩)) HBA.out⟩)
    have HRE := Aside0.mk (impl_read_eachB HR0.out HCC.out.1 HR1.out HCC.out.2.1 HLS.out.1 HLS.out.2.1 HLS.out.2.2 HMR.out.1 HMR.out.2.1 HMR.out.2.2 (F1 := F1) (F2 := F2) (F3 := F3) [] (BI L (some ad) c0 w.heap.size F1 F2 F3 v8 X) (fun _ _ _ hi hk => hi.move hk) (fun w' h i o hs hi h0 h1 _ => impl_FormulasBest1_calls HR0.out hs h i o hi h0 h1) p wA PS.out HSA.out HBI.out)
    simp only [List.nil_append] at HRE
    clear HBI HSA E2 E3 HK HRX n23 n32
    go_upto_region 9 with (go_at_call 78; refine HRE.out.mono ?_; rintro e wB ⟨rfl, hst, hi⟩; have HSB := Aside0.mk hst; have HIB := Aside0.mk hi; clear hst hi)
    (try simp only [Act.put, List.setIfInBounds_toArray, List.set_cons_zero, List.set_cons_succ])
    have hk2 := HIB.out.k2
    rw [HB1.out] at hk2
    have KB2 := Aside0.mk hk2
    have c2 : wB.cell? ⟨F2, 0, none⟩ = some (.int .i64 b) := (blk_cell KB2.out 0).trans rfl
    have l2 : F2 < wB.heap.size := blk_lt KB2.out
    have l3 : F3 < wB.heap.size := blk_lt HIB.out.k3
    clear hk2
    go_upto_region 10 with ((with_reducible refine gate_builtin (b := .append) (xs := #[.tmp 35, .tmp 37]) rfl ?_); at_builtin; go_loud (refine Kd.R_append (Kd.int .i64) (w0 := w) w.heap.size rfl (.tmp 35) (.tmp 37) 46 3 (.int .i64 0) 8 rfl Try.underlying46 HI.out rfl (by decide) (by omega) v8 X b [.int .i64 b] (fun k => k ≠ F2 ∧ k ≠ F3) (fun _ => False) rfl rfl ?aP (fun _ hk => hk.elim) (fun k hk => ⟨by omega, by omega⟩) HIB.out.row HSB.out.below HSB.out.below.size (by omega) ?_); (case aP => exact rfl); intro v9 wC ho9 hb9 hg9 hat9; have HO9 := Aside0.mk (Kd.R_mono ho9 (fun _ _ => trivial) : Kd.R (Kd.int .i64) 3 wC w.heap.size (fun _ => True) v9 (X ++ [b])); have HB9 := Aside0.mk hb9; have HG9 := Aside0.mk hg9; clear ho9 hb9 hg9 hat9)
    (try simp only [Act.put, List.setIfInBounds_toArray, List.set_cons_zero, List.set_cons_succ])
    have KC1 := Aside0.mk (blk_grown HIB.out.k1 HG9.out (Kd.R_ne HIB.out.row HIB.out.k1 (by decide)))
    have KC2 := Aside0.mk (blk_grown KB2.out HG9.out (fun he => (HIB.out.row.1 F2 he.symm).1 rfl))
    have HSC : Aside0 (RdSt w wC L S (some ad) c0 A1 c1 R M) := ⟨by
     obtain ⟨Fm, hFm, hFm'⟩ := HSB.out.memo
     have hbw : w.heap.size ≤ wB.heap.size := HSB.out.below.size
     refine HSB.out.far HB9.out (HG9.out.block R (blk_lt HSB.out.blk) (Kd.R_ne HIB.out.row HSB.out.blk (by decide))) (HG9.out.block M hFm.lt (fun he => ?_))
     obtain ⟨_, _, _, q, _, cells, hc⟩ := (Kd.R_bound HIB.out.row).1 M he.symm
     obtain ⟨es, ck, hm, _⟩ := hFm
     rw [hm] at hc; cases hc⟩
    have c1_ : wC.cell? ⟨F1, 0, none⟩ = some (.slice (some ad) L.length c0) := (blk_cell KC1.out 0).trans rfl
    have c2_ : wC.cell? ⟨F2, 0, none⟩ = some (.int .i64 b) := (blk_cell KC2.out 0).trans rfl
    have u0_ := pw_cell_below HB9.out U0.out
    clear c2 l2 l3
    go_wp2
    go_roundg (S.length - (p + f.f0.length))
    case measure => exact NX.out.1
    case rel => exact ⟨p + f.f0.length, X ++ [b], _, rfl, by simp, ⟨rfl, NX.out.2⟩, HO9, KC1, HSC⟩
   ·
    have d1 : decide ((p : Int) < (S.length : Int)) = false := decide_eq_false hp
    have d2 : decide (p < S.length) = false := decide_eq_false (by omega)
    have hX : X = G := by
     have h1 := HXX.out.2.2.2.1
     have e : S.length - p = 0 := by omega
     rw [e] at h1
     simpa [bestGo] using h1
    subst hX
    clear hp
    go_wp2
    go_ret2
    exact ⟨_, rfl, HRX.out, HST.out.below⟩

end Go.Proofs.Ytnemcppllfmioaa.Pure
namespace Go.Proofs.Ytnemcppllfmioaa.Pure
set_option linter.unusedVariables false
set_option linter.unusedSimpArgs false
open Go Go.RowKit Go.Proofs.Ytnemcppllfmioaa.PFnReadUsed Go.Proofs.YtnemcppllfmioaaW.PrintWords Go.Proofs.YtnemcppllfmioaaW.PrintLast Go.Proofs.YtnemcppllfmioaaW.PrintMore

set_option maxHeartbeats 8000000 in
set_option maxRecDepth 100000 in
theorem impl_read_eachU {L : List S55} {S : List Int} {A0 : Option Addr} {c0 : Nat} {A1 : Option Addr} {c1 : Nat} {w0 : World} {R M : Nat} (hr0 : Kd.C k55 w0 A0 L.length L) (hc0 : L.length ≤ c0) (hr1 : Kd.C (Kd.int .i64) w0 A1 S.length S) (hc1 : S.length ≤ c1)
 (hL : ∀ f ∈ L, 1 ≤ f.f0.length ∧ f.f0.length ≤ 5) (hLl : L.length ≤ 8) (hSl : S.length ≤ 23) (hM : w0.heap.size ≤ M) (hR : w0.heap.size ≤ R) (hRM : R ≠ M) {F1 F2 F3 F4 : Nat} (h0 : List (Int × OutC)) (I : World → List (Int × OutC) → Prop) (hI : ∀ w w' h, I w h → Kept w w' (fun k => ¬ SCb w k) → I w' h)
 (p : Nat) (hC : ∀ w h (i : Int) (o : OutC), RdSt w0 w L S A0 c0 A1 c1 R M → I w h → 0 ≤ i → i < (L.length : Int) → (∃ r, h ++ (i, o) :: r = h0 ++ rdCalls L (S.drop p)) → Calls Try.prog 86 #[.int .i64 i, .agg #[.int .i64 o.f0, .int .i64 o.f1, .int .i64 o.f2], .pointer (some ⟨F1, 0, none⟩), .pointer (some ⟨F2, 0, none⟩), .pointer (some ⟨F3, 0, none⟩), .pointer (some ⟨F4, 0, none⟩)] w fun e w' => e = .returned (.tuple #[]) ∧ RdSt w0 w' L S A0 c0 A1 c1 R M ∧ I w' (h ++ [(i, o)]) ∧ Kept w w' (SCb w))
 (w : World) (hp : p ≤ S.length) (hst : RdSt w0 w L S A0 c0 A1 c1 R M) (h0I : I w h0) :
 Calls Try.prog 78 #[.pointer (some ⟨R, 0, none⟩), .int .i64 (p : Int), (Value.func (Fn.func 86) #[] #[.pointer (some ⟨F1, 0, none⟩), .pointer (some ⟨F2, 0, none⟩), .pointer (some ⟨F3, 0, none⟩), .pointer (some ⟨F4, 0, none⟩)])] w fun e w' => e = .returned (outV (rdO L (S.drop p))) ∧ RdSt w0 w' L S A0 c0 A1 c1 R M ∧ I w' (h0 ++ rdCalls L (S.drop p)) := by
 have HR0 := Aside0.mk hr0
 have HC0 := Aside0.mk hc0
 have HR1 := Aside0.mk hr1
 have HC1 := Aside0.mk hc1
 have HLL := Aside0.mk hL
 have HMR := Aside0.mk (And.intro hM (And.intro hR hRM))
 clear hr0 hc0 hr1 hc1 hL hM hR hRM
 have hu1 := Try.underlying109
 have hu2 := Try.underlying55
 have hu3 := Try.underlying134
 have HII := Aside0.mk hI
 have HCC := Aside0.mk hC
 have HNIL := Aside0.mk (impl_read_nil HR0.out HC0.out HR1.out HC1.out HLL.out hLl hSl HMR.out.1 HMR.out.2.1 HMR.out.2.2)
 have H0I := Aside0.mk h0I
 clear hI hC h0I
 have HST := Aside0.mk hst
 have HP := Aside0.mk hp
 obtain ⟨F, hF, hF'⟩ := hst.memo
 have HF := Aside0.mk (And.intro hF hF')
 have cR0 : w.cell? ⟨R, 0, none⟩ = some (.slice A0 L.length c0) := (blk_cell hst.blk 0).trans rfl
 have cR1 : w.cell? ⟨R, 1, none⟩ = some (.slice A1 S.length c1) := (blk_cell hst.blk 1).trans rfl
 have cR2 : w.cell? ⟨R, 2, none⟩ = some (.map (some M)) := (blk_cell hst.blk 2).trans rfl
 clear hst hF hF'
 by_cases hps : p = S.length
 ·
  subst hps
  refine (impl_read_end HR0.out HC0.out HR1.out HC1.out HLL.out hLl hSl HMR.out.1 HMR.out.2.1 HMR.out.2.2 w _ HST.out).mono ?_
  rintro e w' ⟨h1, h2, h3⟩
  refine ⟨h1, h2, ?_⟩
  have e : rdCalls L (S.drop S.length) = [] := by rw [List.drop_length]; rfl
  rw [e, List.append_nil]
  exact HII.out _ _ _ H0I.out (h3.mono (fun k hk => by subst hk; exact HST.out.nsc))
 have e1 : ((p : Int) == (S.length : Int)) = false := by rw [beq_eq_false_iff_ne]; omega
 have e1' : (p == S.length) = false := by rw [beq_eq_false_iff_ne]; exact hps
 have hne : S.drop p ≠ [] := by
  intro h
  have := congrArg List.length h
  rw [List.length_drop, List.length_nil] at this
  omega
 have HNE := Aside0.mk hne
 clear hne hps hp
 obtain ⟨x0, y0_, z0_, bk, hlk0⟩ : ∃ x y z b, (if true = true then Value.tuple #[(F (p : Int)).getD (.agg #[.int .i64 0, .int .i64 0, .int .i64 0]), .bool (F (p : Int)).isSome] else (F (p : Int)).getD (.agg #[.int .i64 0, .int .i64 0, .int .i64 0])) = .tuple #[.agg #[.int .i64 x, .int .i64 y, .int .i64 z], .bool b] := by
  cases hFp : F (p : Int) with
  | some v =>
   obtain ⟨p', _, _, h3⟩ := HF.out.2 _ _ hFp
   exact ⟨_, _, _, true, by rw [h3]; rfl⟩
  | none => exact ⟨0, 0, 0, false, rfl⟩
 have HFP := Aside0.mk hlk0
 clear hlk0
 have hcl : rdCalls L (S.drop p) = rdC (rdO L) (S.drop p) 0 L := if_neg HNE.out
 have HCL := Aside0.mk hcl
 clear hcl
 have hs := rdO_step (fun f hf => (HLL.out f hf).1) HNE.out
 have HS := Aside0.mk hs
 clear hs
 have hq : ∀ w, (binOp .eql 112 (Value.func (Fn.func 86) #[] #[.pointer (some ⟨F1, 0, none⟩), .pointer (some ⟨F2, 0, none⟩), .pointer (some ⟨F3, 0, none⟩), .pointer (some ⟨F4, 0, none⟩)]) .nilFunc).run Try.prog w = .ok (.bool false) w := fun _ => by kernel_rfl
 have hq2 : ∀ w, (binOp .neq 112 (Value.func (Fn.func 86) #[] #[.pointer (some ⟨F1, 0, none⟩), .pointer (some ⟨F2, 0, none⟩), .pointer (some ⟨F3, 0, none⟩), .pointer (some ⟨F4, 0, none⟩)]) .nilFunc).run Try.prog w = .ok (.bool true) w := fun _ => by kernel_rfl
 cases bk
 all_goals
  go_enter Try.func78, Try.ntmps78
  go_upto_region 3 with (first
   | ((with_reducible refine gate_dst (N := 6) rfl ?_); refine box_event ?hg (N := 6) ?hd (cs := #[.int .i64 0, .int .i64 0, .int .i64 0]) (t := 109) ?hr ?_; (case hd => rfl); (case hg => rfl); (case hr => first | (go_simp; done) | (go_simp; rfl)); intro g6 hg w6 hbox hb; have HK6 := Aside0.mk hbox; have HB6 := Aside0.mk hb; have N6 := Aside0.mk (show w.heap.size ≤ g6 from (by rw [hg]; exact Nat.le_refl _)); have cS1 := pw_cell_below hb cR1; have cS2 := pw_cell_below hb cR2; have cS0 := pw_cell_below hb cR0; have HL6 := Aside0.mk (MapFn.look (HF.out.1.move (hb.block _ HF.out.1.lt)) Try.underlying132 Try.underlying3 (z := .agg #[.int .i64 0, .int .i64 0, .int .i64 0]) (fun _ => by kernel_rfl) (p : Int) true); clear hg hbox hb))
  have hlk := HL6.out
  rw [HFP.out] at hlk
  go_upto_region 4 with (first
   | ((with_reducible refine gate_dst (N := 7) rfl ?_); refine box_event ?hg (N := 7) ?hd (cs := #[.int .i64 0, .int .i64 0, .int .i64 0]) (t := 109) ?hr ?_; (case hd => rfl); (case hg => rfl); (case hr => first | (go_simp; done) | (go_simp; rfl)); intro g7 hg w7 hbox hb; have HK7 := Aside0.mk hbox; have HB7 := Aside0.mk (below_step HB6.out hb); have HK6' := Aside0.mk (blk_below HK6.out hb); have NE := Aside0.mk (show g6 ≠ g7 from (by rw [hg]; exact Nat.ne_of_lt (blk_lt HK6.out))); have N7 := Aside0.mk (show w.heap.size ≤ g7 from (by rw [hg]; exact HB6.out.size)); have cz0 : w7.cell? ⟨g7, 0, none⟩ = some (.int .i64 0) := (blk_cell HK7.out 0).trans rfl; have cz1 : w7.cell? ⟨g7, 1, none⟩ = some (.int .i64 0) := (blk_cell HK7.out 1).trans rfl; have cz2 : w7.cell? ⟨g7, 2, none⟩ = some (.int .i64 0) := (blk_cell HK7.out 2).trans rfl; have fz0 := blk_frozen HK7.out 0; have fz1 := blk_frozen HK7.out 1; have fz2 := blk_frozen HK7.out 2; clear hg hbox hb))
  have W7 : Aside0 ((((w7.setCell ⟨g7, 0, none⟩ (.int .i64 x0)).setCell ⟨g7, 1, none⟩ (.int .i64 y0_)).setCell ⟨g7, 2, none⟩ (.int .i64 z0_)).heap[g7]? = some (.cells #[.int .i64 x0, .int .i64 y0_, .int .i64 z0_] 109 (0, 0))) := ⟨blk_put (cs := #[.int .i64 x0, .int .i64 y0_, .int .i64 0]) (blk_put (cs := #[.int .i64 x0, .int .i64 0, .int .i64 0]) (blk_put (cs := #[.int .i64 0, .int .i64 0, .int .i64 0]) HK7.out 0 _ rfl) 1 _ rfl) 2 _ rfl⟩
  have W6 : Aside0 ((((w7.setCell ⟨g7, 0, none⟩ (.int .i64 x0)).setCell ⟨g7, 1, none⟩ (.int .i64 y0_)).setCell ⟨g7, 2, none⟩ (.int .i64 z0_)).heap[g6]? = some (.cells #[.int .i64 0, .int .i64 0, .int .i64 0] 109 (0, 0))) := ⟨blk_far (blk_far (blk_far HK6'.out NE.out _) NE.out _) NE.out _⟩
  have HB9 : Aside0 (Below w.heap.size w (((w7.setCell ⟨g7, 0, none⟩ (.int .i64 x0)).setCell ⟨g7, 1, none⟩ (.int .i64 y0_)).setCell ⟨g7, 2, none⟩ (.int .i64 z0_))) := ⟨below_set (below_set (below_set HB7.out N7.out) N7.out) N7.out⟩
  clear HB7 HK7 HK6' HB6 HK6 cz0 cz1 cz2 fz0 fz1 fz2 cS0 cS1 cS2
  generalize (((w7.setCell ⟨g7, 0, none⟩ (.int .i64 x0)).setCell ⟨g7, 1, none⟩ (.int .i64 y0_)).setCell ⟨g7, 2, none⟩ (.int .i64 z0_)) = w9 at W7 W6 HB9 ⊢
  have cS0 := pw_cell_below HB9.out cR0
  have cS1 := pw_cell_below HB9.out cR1
  have cS2 := pw_cell_below HB9.out cR2
  have y0 : w9.cell? ⟨g6, 0, none⟩ = some (.int .i64 0) := (blk_cell W6.out 0).trans rfl
  have y1 : w9.cell? ⟨g6, 1, none⟩ = some (.int .i64 0) := (blk_cell W6.out 1).trans rfl
  have y2 : w9.cell? ⟨g6, 2, none⟩ = some (.int .i64 0) := (blk_cell W6.out 2).trans rfl
  have f0 := blk_frozen W6.out 0
  have f1 := blk_frozen W6.out 1
  have f2 := blk_frozen W6.out 2
  go_upto_region 7 with (first
   | ((with_reducible refine gate_dst (N := 9) rfl ?_); refine box_event ?hg (N := 9) ?hd (cs := #[.int .i64 0, .int .i64 0, .int .i64 0]) (t := 109) ?hr ?_; (case hd => rfl); (case hg => rfl); (case hr => first | (go_simp; done) | (go_simp; rfl)); intro g9 hg w10 hbox hb; have HK9 := Aside0.mk hbox; have HB10 := Aside0.mk (below_step HB9.out hb); have W6' := Aside0.mk (blk_below W6.out hb); have NE9 := Aside0.mk (show g6 ≠ g9 from (by rw [hg]; exact Nat.ne_of_lt (blk_lt W6.out))); have N9 := Aside0.mk (show w.heap.size ≤ g9 from (by rw [hg]; exact HB9.out.size)); have cz0 : w10.cell? ⟨g9, 0, none⟩ = some (.int .i64 0) := (blk_cell HK9.out 0).trans rfl; have cz1 : w10.cell? ⟨g9, 1, none⟩ = some (.int .i64 0) := (blk_cell HK9.out 1).trans rfl; have cz2 : w10.cell? ⟨g9, 2, none⟩ = some (.int .i64 0) := (blk_cell HK9.out 2).trans rfl; have fz0 := blk_frozen HK9.out 0; have fz1 := blk_frozen HK9.out 1; have fz2 := blk_frozen HK9.out 2; clear cS0 cS1 cS2; have cS0 := pw_cell_below HB10.out cR0; have cS1 := pw_cell_below HB10.out cR1; have cS2 := pw_cell_below HB10.out cR2; clear hg hbox hb))
  have W9 : Aside0 ((((w10.setCell ⟨g9, 0, none⟩ (.int .i64 0)).setCell ⟨g9, 1, none⟩ (.int .i64 0)).setCell ⟨g9, 2, none⟩ (.int .i64 0)).heap[g9]? = some (.cells #[.int .i64 0, .int .i64 0, .int .i64 0] 109 (0, 0))) := ⟨blk_put (cs := #[.int .i64 0, .int .i64 0, .int .i64 0]) (blk_put (cs := #[.int .i64 0, .int .i64 0, .int .i64 0]) (blk_put (cs := #[.int .i64 0, .int .i64 0, .int .i64 0]) HK9.out 0 _ rfl) 1 _ rfl) 2 _ rfl⟩
  have W6b : Aside0 ((((w10.setCell ⟨g9, 0, none⟩ (.int .i64 0)).setCell ⟨g9, 1, none⟩ (.int .i64 0)).setCell ⟨g9, 2, none⟩ (.int .i64 0)).heap[g6]? = some (.cells #[.int .i64 0, .int .i64 0, .int .i64 0] 109 (0, 0))) := ⟨blk_far (blk_far (blk_far W6'.out NE9.out _) NE9.out _) NE9.out _⟩
  have HB11 : Aside0 (Below w.heap.size w (((w10.setCell ⟨g9, 0, none⟩ (.int .i64 0)).setCell ⟨g9, 1, none⟩ (.int .i64 0)).setCell ⟨g9, 2, none⟩ (.int .i64 0))) := ⟨below_set (below_set (below_set HB10.out N9.out) N9.out) N9.out⟩
  clear HB10 HK9 W6' W6 W7 HB9 cz0 cz1 cz2 fz0 fz1 fz2 cS0 cS1 cS2 y0 y1 y2 f0 f1 f2
  generalize (((w10.setCell ⟨g9, 0, none⟩ (.int .i64 0)).setCell ⟨g9, 1, none⟩ (.int .i64 0)).setCell ⟨g9, 2, none⟩ (.int .i64 0)) = w11 at W9 W6b HB11 ⊢
  have cS0 := pw_cell_below HB11.out cR0
  have HST11 := Aside0.mk (HST.out.kept HB11.out)
  have HKP := Aside0.mk (HII.out _ _ _ H0I.out (Kept.of_below HB11.out _))
  clear HB11 HL6 hlk cR0 cR1 cR2
  go_wp2
  go_loopg [42] L.length (fun kq v42 w' => ∃ (i : Nat) (acc : OutC) (hist : List (Int × OutC)), v42 = .int .i64 (i : Int) ∧ Aside0 (kq = L.length - i ∧ i ≤ L.length ∧ rdA (rdO L) (S.drop p) (L.drop i) acc = rdO L (S.drop p) ∧ hist ++ rdC (rdO L) (S.drop p) (i : Int) (L.drop i) = h0 ++ rdCalls L (S.drop p)) ∧ Aside0 (w'.heap[g9]? = some (.cells #[.int .i64 acc.f0, .int .i64 acc.f1, .int .i64 acc.f2] 109 (0, 0)) ∧ w'.heap[g6]? = some (.cells #[.int .i64 0, .int .i64 0, .int .i64 0] 109 (0, 0))) ∧ Aside0 (RdSt w0 w' L S A0 c0 A1 c1 R M) ∧ Aside0 (I w' hist))
  case atStart => exact ⟨0, ⟨0, 0, 0⟩, h0, rfl, ⟨rfl, Nat.zero_le _, HS.out.symm, by rw [HCL.out, List.drop_zero]; rfl⟩, ⟨W9.out, W6b.out⟩, HST11, HKP⟩
  case round =>
   clear W9 W6b HST11 HKP cS0
   obtain ⟨i, acc, hist, rfl, HX, HG, HR, HKP⟩ := hrel
   by_cases hi : (i : Int) < (L.length : Int)
   ·
    have d1 : decide ((i : Int) < (L.length : Int)) = true := decide_eq_true hi
    have p0 : (0 : Int) ≤ (i : Int) := by omega
    obtain ⟨ad, Af, cf, e0, ux0, ux1, hcf, hrf⟩ := at_T55 (Kd.C_below HR0.out HR.out.below) (i : Int) p0 hi
    subst e0
    obtain ⟨f, hf⟩ : ∃ f, f = rd_T55 L (i : Int) := ⟨_, rfl⟩
    rw [← hf] at ux0 ux1 hcf hrf
    simp only [Int.toNat_natCast] at ux0 ux1
    have hdr : L.drop i = f :: L.drop (i + 1) := by
     rw [List.drop_eq_getElem_cons (by omega), hf]
     unfold rd_T55
     rw [Int.toNat_natCast, List.getD_eq_getElem?_getD, List.getElem?_eq_getElem (by omega)]; rfl
    have hfl := HLL.out f (by rw [hf]; exact rd_mem p0 hi)
    have hX := HX.out.2.2.1
    have hY := HX.out.2.2.2
    rw [hdr] at hX
    simp only [rdA] at hX
    rw [hdr] at hY
    simp only [rdC] at hY
    obtain ⟨T, hT⟩ : ∃ T, T = S.drop p := ⟨_, rfl⟩
    have HTT := Aside0.mk hT
    have hTl : T.length = S.length - p := by rw [hT, List.length_drop]
    obtain ⟨i3, hi3, hz3, hs3, hy3⟩ := info_parts info3
    obtain ⟨At, ct, hcut, hrt, hct, _⟩ := cut_drop (Kd.int .i64) 46 3 Try.underlying46 hi3 hs3 (p : Int) HR1.out HC1.out (by omega) (by have := HP.out; omega)
    simp only [Int.toNat_natCast] at hcut hrt hct
    rw [← hT, ← hTl] at hrt
    rw [← hTl] at hcut hct
    rw [← hT] at hX hY
    obtain ⟨kb, hkb⟩ := Ev.rounds (impl_begins_ev T f.f0 (by omega))
    have HKB := Aside0.mk hkb
    have HRT := Aside0.mk hrt
    have HCT := Aside0.mk hct
    have HRF := Aside0.mk hrf
    have HCF := Aside0.mk hcf
    have HFL := Aside0.mk hfl
    have q0 := eq_true p0
    have q1 := eq_true hi
    have bi : i ≤ 1000000000000 := by omega
    have bp : p ≤ 23 := by have := HP.out; omega
    have bf : f.f0.length ≤ 5 := hfl.2
    have HIL := Aside0.mk (show i + 1 ≤ L.length by omega)
    have HSI := Aside0.mk (show p ≤ S.length by have := HP.out; omega)
    have HTL := Aside0.mk hTl
    have cR0 : wr.cell? ⟨R, 0, none⟩ = some (.slice (some ad) L.length c0) := (blk_cell HR.out.blk 0).trans rfl
    have cR1 : wr.cell? ⟨R, 1, none⟩ = some (.slice A1 S.length c1) := (blk_cell HR.out.blk 1).trans rfl
    have HXX := Aside0.mk hX
    have HYY := Aside0.mk hY
    clear hi p0 hf hdr hfl hX hY hT hTl hi3 hs3 hz3 hy3 hrt hct hrf hcf hkb i3
    go_upto_region 10 with (first
     | ((with_reducible refine gate_dst (N := 11) rfl ?_); refine box_event ?hg (N := 11) ?hd (cs := #[.slice none 0 0, .int .i64 0]) (t := 55) ?hr ?_; (case hd => rfl); (case hg => rfl); (case hr => first | (go_simp; done) | (go_simp; rfl)); intro g11 hg w12 hbox hb; have HK11 := Aside0.mk hbox; have HB12 := Aside0.mk hb; have N11 := Aside0.mk (show wr.heap.size ≤ g11 from (by rw [hg]; exact Nat.le_refl _)); have cz0 : w12.cell? ⟨g11, 0, none⟩ = some (.slice none 0 0) := (blk_cell HK11.out 0).trans rfl; have cz1 : w12.cell? ⟨g11, 1, none⟩ = some (.int .i64 0) := (blk_cell HK11.out 1).trans rfl; have fz0 := blk_frozen HK11.out 0; have fz1 := blk_frozen HK11.out 1; clear hg hbox hb))
    have WB : Aside0 (((w12.setCell ⟨g11, 0, none⟩ (.slice Af f.f0.length cf)).setCell ⟨g11, 1, none⟩ (.int .i64 f.f1)).heap[g11]? = some (.cells #[.slice Af f.f0.length cf, .int .i64 f.f1] 55 (0, 0))) := ⟨blk_put (cs := #[.slice Af f.f0.length cf, .int .i64 0]) (blk_put (cs := #[.slice none 0 0, .int .i64 0]) HK11.out 0 _ rfl) 1 _ rfl⟩
    have HBA : Aside0 (Below wr.heap.size wr ((w12.setCell ⟨g11, 0, none⟩ (.slice Af f.f0.length cf)).setCell ⟨g11, 1, none⟩ (.int .i64 f.f1))) := ⟨below_set (below_set HB12.out N11.out) N11.out⟩
    clear HK11 HB12 cz0 cz1 fz0 fz1 ux0 ux1
    generalize ((w12.setCell ⟨g11, 0, none⟩ (.slice Af f.f0.length cf)).setCell ⟨g11, 1, none⟩ (.int .i64 f.f1)) = wA at WB HBA ⊢
    have a0 := pw_cell_below HBA.out cR1
    have a1 : wA.cell? ⟨g11, 0, none⟩ = some (.slice Af f.f0.length cf) := (blk_cell WB.out 0).trans rfl
    clear cR0 cR1
    have HRA := Aside0.mk (HR.out.kept HBA.out)
    have HKA := Aside0.mk (HII.out _ _ _ HKP.out (Kept.of_below HBA.out _))
    have HGA := Aside0.mk (And.intro (blk_below HG.out.1 HBA.out) (blk_below HG.out.2 HBA.out))
    have HRTA := Aside0.mk (Kd.C_below HRT.out HRA.out.below)
    have HRFA := Aside0.mk (Kd.C_below HRF.out HBA.out)
    cases hb : isPre f.f0 T
    ·
     rw [hb] at HKB HXX HYY
     have NX : Aside0 (L.length - (i + 1) < gk ∧ i + 1 ≤ L.length ∧ rdA (rdO L) T (L.drop (i + 1)) acc = rdO L T ∧ hist ++ rdC (rdO L) T ((i + 1 : Nat) : Int) (L.drop (i + 1)) = h0 ++ rdCalls L T) := ⟨by have := HX.out.1; have := HIL.out; omega, HIL.out, by have := HXX.out; simpa using this, by have := HYY.out; simpa using this⟩
     clear hb
     go_quiet ((go_at_call 72; ((with_reducible refine (impl_begins.calls kb _ _ T _ _ f.f0 false _ ?side1 ?side2 ?side3 ?side4 HKB.out).mono ?_); (case side1 => repeat (first | exact HRTA.out | (with_reducible refine Kd.C_drewN ?_ _))); (case side2 => exact HCT.out); (case side3 => repeat (first | exact HRFA.out | (with_reducible refine Kd.C_drewN ?_ _))); (case side4 => exact HCF.out); rintro e w' ⟨rfl, ⟨nd, rfl⟩⟩; (first | exact ⟨rfl, _, World.drewN_drewN _ _ _⟩ | exact ⟨rfl, _, Eq.trans (World.drewN_drewN _ _ _) (congrArg (World.drewN _) (Nat.add_assoc _ _ _))⟩))))
     go_wp2
     go_roundg (L.length - (i + 1))
     case measure => exact NX.out.1
     case rel => exact ⟨i + 1, acc, hist, by simp, ⟨rfl, NX.out.2.1, by rw [← HTT.out]; exact NX.out.2.2.1, by rw [← HTT.out]; exact NX.out.2.2.2⟩, HGA, ⟨HRA.out.kept (pw_below_drewN (Below.refl _ _) _)⟩, ⟨HII.out _ _ _ HKA.out (Kept.drewN (Kept.refl _ _) _)⟩⟩
    ·
     rw [hb] at HKB HXX HYY
     have hpl := isPre_len hb
     have hp' : p + f.f0.length ≤ S.length := by have := HTL.out; have := HSI.out; omega
     obtain ⟨O, hO⟩ : ∃ O, O = rdO L (T.drop f.f0.length) := ⟨_, rfl⟩
     have hdd : S.drop (p + f.f0.length) = T.drop f.f0.length := by rw [HTT.out, List.drop_drop]
     have HC := Aside0.mk (show ∀ w, RdSt w0 w L S (some ad) c0 A1 c1 R M → Calls Try.prog 78 #[.pointer (some ⟨R, 0, none⟩), .int .i64 ((p : Int) + (f.f0.length : Int)), .nilFunc] w fun e w' => e = .returned (.agg #[.int .i64 O.f0, .int .i64 O.f1, .int .i64 O.f2]) ∧ RdSt w0 w' L S (some ad) c0 A1 c1 R M ∧ Kept w w' (fun k => k = M) from fun w h => by
      have h1 := HFL.out.1
      have h2 := HP.out
      have := HNIL.out S.length (p + f.f0.length) w hp' (by omega) h
      rw [hdd, ← hO, Int.natCast_add] at this
      exact this)
     have hX := HXX.out
     rw [if_pos rfl, ← hO] at hX
     have hY := HYY.out
     rw [if_pos rfl, ← hO] at hY
     have HX2 := Aside0.mk hX
     have HY2 := Aside0.mk hY
     clear hb hpl hO hdd hX hY hp'
     go_quiet ((go_at_call 72; ((with_reducible refine (impl_begins.calls kb _ _ T _ _ f.f0 true _ ?side1 ?side2 ?side3 ?side4 HKB.out).mono ?_); (case side1 => repeat (first | exact HRTA.out | (with_reducible refine Kd.C_drewN ?_ _))); (case side2 => exact HCT.out); (case side3 => repeat (first | exact HRFA.out | (with_reducible refine Kd.C_drewN ?_ _))); (case side4 => exact HCF.out); rintro e w' ⟨rfl, ⟨nd, rfl⟩⟩; (first | exact ⟨rfl, _, World.drewN_drewN _ _ _⟩ | exact ⟨rfl, _, Eq.trans (World.drewN_drewN _ _ _) (congrArg (World.drewN _) (Nat.add_assoc _ _ _))⟩))))
     go_upto_region 12 with (first
      | (go_at_call 78; refine (HC.out _ (HRA.out.kept (pw_below_drewN (Below.refl _ _) _))).mono ?_; rintro e wB ⟨rfl, hstB, hkB⟩; have HRB := Aside0.mk hstB; have hkB' : Kept wA wB (fun k => k = M) := hkB; have HKB2 := Aside0.mk hkB'; clear hstB hkB hkB')
      | ((with_reducible refine gate_dst (N := 12) rfl ?_); refine box_event ?hg (N := 12) ?hd (cs := #[.int .i64 0, .int .i64 0, .int .i64 0]) (t := 109) ?hr ?_; (case hd => rfl); (case hg => rfl); (case hr => first | (go_simp; done) | (go_simp; rfl)); intro g12 hg w13 hbox hb; have HK12 := Aside0.mk hbox; have HB13 := Aside0.mk hb; have N12 := Aside0.mk (show wB.heap.size ≤ g12 from (by rw [hg]; exact Nat.le_refl _)); have cz0 : w13.cell? ⟨g12, 0, none⟩ = some (.int .i64 0) := (blk_cell HK12.out 0).trans rfl; have cz1 : w13.cell? ⟨g12, 1, none⟩ = some (.int .i64 0) := (blk_cell HK12.out 1).trans rfl; have cz2 : w13.cell? ⟨g12, 2, none⟩ = some (.int .i64 0) := (blk_cell HK12.out 2).trans rfl; have fz0 := blk_frozen HK12.out 0; have fz1 := blk_frozen HK12.out 1; have fz2 := blk_frozen HK12.out 2; clear hg hbox hb))
     have E12 : Aside0 ((((w13.setCell ⟨g12, 0, none⟩ (.int .i64 O.f0)).setCell ⟨g12, 1, none⟩ (.int .i64 O.f1)).setCell ⟨g12, 2, none⟩ (.int .i64 O.f2)).heap[g12]? = some (.cells #[.int .i64 O.f0, .int .i64 O.f1, .int .i64 O.f2] 109 (0, 0))) := ⟨blk_put (cs := #[.int .i64 O.f0, .int .i64 O.f1, .int .i64 0]) (blk_put (cs := #[.int .i64 O.f0, .int .i64 0, .int .i64 0]) (blk_put (cs := #[.int .i64 0, .int .i64 0, .int .i64 0]) HK12.out 0 _ rfl) 1 _ rfl) 2 _ rfl⟩
     have HBC : Aside0 (Below wB.heap.size wB (((w13.setCell ⟨g12, 0, none⟩ (.int .i64 O.f0)).setCell ⟨g12, 1, none⟩ (.int .i64 O.f1)).setCell ⟨g12, 2, none⟩ (.int .i64 O.f2))) := ⟨below_set (below_set (below_set HB13.out N12.out) N12.out) N12.out⟩
     clear HK12 HB13 cz0 cz1 cz2 fz0 fz1 fz2 a0 a1
     generalize (((w13.setCell ⟨g12, 0, none⟩ (.int .i64 O.f0)).setCell ⟨g12, 1, none⟩ (.int .i64 O.f1)).setCell ⟨g12, 2, none⟩ (.int .i64 O.f2)) = wC at E12 HBC ⊢
     have n9 := HRA.out.ne HGA.out.1
     have n6 := HRA.out.ne HGA.out.2
     have n11 := HRA.out.ne WB.out
     have HGC := Aside0.mk (And.intro (blk_below (blk_kept HGA.out.1 HKB2.out n9) HBC.out) (blk_below (blk_kept HGA.out.2 HKB2.out n6) HBC.out))
     have WBC := Aside0.mk (blk_below (blk_kept WB.out HKB2.out n11) HBC.out)
     have HRC := Aside0.mk (HRB.out.kept HBC.out)
     have HKC := Aside0.mk (HII.out _ _ _ (HII.out _ _ _ HKA.out (HKB2.out.mono (fun k hk => by subst hk; exact HRA.out.nsc))) (Kept.of_below HBC.out _))
     clear n9 n6 n11
     have k0 : wC.cell? ⟨g12, 0, none⟩ = some (.int .i64 O.f0) := (blk_cell E12.out 0).trans rfl
     have k1 : wC.cell? ⟨g12, 1, none⟩ = some (.int .i64 O.f1) := (blk_cell E12.out 1).trans rfl
     have k2 : wC.cell? ⟨g12, 2, none⟩ = some (.int .i64 O.f2) := (blk_cell E12.out 2).trans rfl
     have k3 : wC.cell? ⟨g9, 0, none⟩ = some (.int .i64 acc.f0) := (blk_cell HGC.out.1 0).trans rfl
     have k4 : wC.cell? ⟨g9, 1, none⟩ = some (.int .i64 acc.f1) := (blk_cell HGC.out.1 1).trans rfl
     have k5 : wC.cell? ⟨g9, 2, none⟩ = some (.int .i64 acc.f2) := (blk_cell HGC.out.1 2).trans rfl
     have k6 : wC.cell? ⟨g11, 0, none⟩ = some (.slice Af f.f0.length cf) := (blk_cell WBC.out 0).trans rfl
     have k7 : wC.cell? ⟨g11, 1, none⟩ = some (.int .i64 f.f1) := (blk_cell WBC.out 1).trans rfl
     by_cases hz : O.f0 = 0
     ·
      have hX := HX2.out
      rw [if_pos hz] at hX
      have hY := HY2.out
      rw [if_pos hz] at hY
      have NX : Aside0 (L.length - (i + 1) < gk ∧ i + 1 ≤ L.length ∧ rdA (rdO L) T (L.drop (i + 1)) acc = rdO L T ∧ hist ++ rdC (rdO L) T ((i + 1 : Nat) : Int) (L.drop (i + 1)) = h0 ++ rdCalls L T) := ⟨by have := HX.out.1; have := HIL.out; omega, HIL.out, hX, by simpa using hY⟩
      have hzz : (O.f0 == 0) = true := by rw [beq_iff_eq]; exact hz
      clear hX hY hz
      go_wp2
      go_roundg (L.length - (i + 1))
      case measure => exact NX.out.1
      case rel => exact ⟨i + 1, acc, hist, by simp, ⟨rfl, NX.out.2.1, by rw [← HTT.out]; exact NX.out.2.2.1, by rw [← HTT.out]; exact NX.out.2.2.2⟩, HGC, HRC, HKC⟩
     ·
      have hX := HX2.out
      rw [if_neg hz] at hX
      have hY := HY2.out
      rw [if_neg hz] at hY
      have NX : Aside0 (L.length - (i + 1) < gk ∧ i + 1 ≤ L.length ∧ rdA (rdO L) T (L.drop (i + 1)) (outW acc f O) = rdO L T ∧ (hist ++ [((i : Int), O)]) ++ rdC (rdO L) T ((i + 1 : Nat) : Int) (L.drop (i + 1)) = h0 ++ rdCalls L T) := ⟨by have := HX.out.1; have := HIL.out; omega, HIL.out, hX, by rw [← hY]; simp⟩
      have hzz : (O.f0 == 0) = false := by rw [beq_eq_false_iff_ne]; exact hz
      clear hX hY hz
      have HCALL := Aside0.mk (HCC.out wC hist (i : Int) O HRC.out HKC.out (by omega) (by have := HIL.out; omega) ⟨rdC (rdO L) T ((i + 1 : Nat) : Int) (L.drop (i + 1)), by rw [← HTT.out, ← NX.out.2.2.2]; simp⟩)
      have s9 := nsc_of HGC.out.1 (by decide)
      have s6 := nsc_of HGC.out.2 (by decide)
      have s11 := nsc_of WBC.out (by decide)
      have s12 := nsc_of E12.out (by decide)
      go_upto_region 15 with (go_at_call 86; refine HCALL.out.mono ?_; rintro e wX ⟨rfl, hstX, hIX, hkX⟩; have HRX := Aside0.mk hstX; have HIX := Aside0.mk hIX; have HGX := Aside0.mk (And.intro (blk_kept HGC.out.1 hkX s9) (blk_kept HGC.out.2 hkX s6)); have WBX := Aside0.mk (blk_kept WBC.out hkX s11); have E12X := Aside0.mk (blk_kept E12.out hkX s12); clear hstX hIX hkX)
      clear k0 k1 k2 k3 k4 k5 k6 k7 s9 s6 s11 s12
      have k0 : wX.cell? ⟨g12, 0, none⟩ = some (.int .i64 O.f0) := (blk_cell E12X.out 0).trans rfl
      have k1 : wX.cell? ⟨g12, 1, none⟩ = some (.int .i64 O.f1) := (blk_cell E12X.out 1).trans rfl
      have k2 : wX.cell? ⟨g12, 2, none⟩ = some (.int .i64 O.f2) := (blk_cell E12X.out 2).trans rfl
      have k3 : wX.cell? ⟨g9, 0, none⟩ = some (.int .i64 acc.f0) := (blk_cell HGX.out.1 0).trans rfl
      have k4 : wX.cell? ⟨g9, 1, none⟩ = some (.int .i64 acc.f1) := (blk_cell HGX.out.1 1).trans rfl
      have k5 : wX.cell? ⟨g9, 2, none⟩ = some (.int .i64 acc.f2) := (blk_cell HGX.out.1 2).trans rfl
      have k6 : wX.cell? ⟨g11, 0, none⟩ = some (.slice Af f.f0.length cf) := (blk_cell WBX.out 0).trans rfl
      have k7 : wX.cell? ⟨g11, 1, none⟩ = some (.int .i64 f.f1) := (blk_cell WBX.out 1).trans rfl
      go_wp2_with (go_at_call 106; refine (impl_outcome_with_calls acc f Af f.f0.length cf O _).mono ?_; rintro e wD ⟨rfl, hbD⟩; have HBD := Aside0.mk hbD; have HGD := Aside0.mk (And.intro (blk_below HGX.out.1 hbD) (blk_below HGX.out.2 hbD)); have m0 : wD.cell? ⟨g9, 0, none⟩ = some (.int .i64 acc.f0) := (blk_cell HGD.out.1 0).trans rfl; have m1 : wD.cell? ⟨g9, 1, none⟩ = some (.int .i64 acc.f1) := (blk_cell HGD.out.1 1).trans rfl; have m2 : wD.cell? ⟨g9, 2, none⟩ = some (.int .i64 acc.f2) := (blk_cell HGD.out.1 2).trans rfl; have fm0 := blk_frozen HGD.out.1 0; have fm1 := blk_frozen HGD.out.1 1; have fm2 := blk_frozen HGD.out.1 2; clear hbD)
      go_roundg (L.length - (i + 1))
      case measure => exact NX.out.1
      case rel =>
       have nR : g9 ≠ R := blk_ne HGD.out.1 (HRX.out.kept HBD.out).blk (by decide)
       have nM : g9 ≠ M := (HRX.out.kept HBD.out).ne HGD.out.1
       have nB : w0.heap.size ≤ g9 := Nat.le_trans HST.out.below.size N9.out
       refine ⟨i + 1, outW acc f O, hist ++ [((i : Int), O)], by simp, ⟨rfl, NX.out.2.1, by rw [← HTT.out]; exact NX.out.2.2.1, by rw [← HTT.out]; exact NX.out.2.2.2⟩, ⟨blk_put (cs := #[.int .i64 (outW acc f O).f0, .int .i64 (outW acc f O).f1, .int .i64 acc.f2]) (blk_put (cs := #[.int .i64 (outW acc f O).f0, .int .i64 acc.f1, .int .i64 acc.f2]) (blk_put (cs := #[.int .i64 acc.f0, .int .i64 acc.f1, .int .i64 acc.f2]) HGD.out.1 0 _ rfl) 1 _ rfl) 2 _ rfl, ?_⟩, ⟨(((HRX.out.kept HBD.out).set nB nR nM _ _).set nB nR nM _ _).set nB nR nM _ _⟩, ⟨HII.out _ _ _ (HII.out _ _ _ HIX.out (Kept.of_below HBD.out _)) ((((Kept.refl _ _).setCell (.inl (nsc_of HGD.out.1 (by decide))) _).setCell (.inl (nsc_of HGD.out.1 (by decide))) _).setCell (.inl (nsc_of HGD.out.1 (by decide))) _)⟩⟩
       exact blk_far (blk_far (blk_far HGD.out.2 NE9.out _) NE9.out _) NE9.out _
   ·
    have d1 : decide ((i : Int) < (L.length : Int)) = false := decide_eq_false hi
    have d1' : decide (i < L.length) = false := decide_eq_false (by omega)
    have hacc : acc = rdO L (S.drop p) := by
     have h1 := HX.out.2.2.1
     have h2 := HX.out.2.1
     rw [List.drop_eq_nil_of_le (show L.length ≤ i by omega)] at h1
     exact h1
    have HACC := Aside0.mk hacc
    have HEND : Aside0 (hist = h0 ++ rdCalls L (S.drop p)) := ⟨by
     have h1 := HX.out.2.2.2
     rw [List.drop_eq_nil_of_le (show L.length ≤ i by omega)] at h1
     simpa [rdC] using h1⟩
    have NSM := Aside0.mk HR.out.nsc
    obtain ⟨F2, hF2, hF2'⟩ := HR.out.memo
    obtain ⟨es, ck, hput, hmf⟩ := (MapFn.move (w' := wr.drew) hF2 rfl).put Try.underlying132 Try.underlying3 (p : Int) (outV acc)
    have HRM : Aside0 (RdSt w0 (ChangeMaps.setBlock wr.drew M (.map es ck)) L S A0 c0 A1 c1 R M) := ⟨⟨below_setBlock (below_drew HR.out.below) HMR.out.1, blk_setBlock (w := wr.drew) HR.out.blk HMR.out.2.2, _, hmf, by
     intro k v hk
     by_cases e : k = (p : Int)
     ·
      rw [if_pos e] at hk
      cases hk
      exact ⟨p, e, HP.out, by rw [hacc]⟩
     ·
      rw [if_neg e] at hk
      exact hF2' k v hk⟩⟩
    have HKM : Aside0 (I (ChangeMaps.setBlock wr.drew M (.map es ck)) hist) := ⟨HII.out _ _ _ HKP.out (kept_setBlock (w := wr) (W := wr.drew) (Kept.refl _ _) (.inl NSM.out))⟩
    have n9 := HR.out.ne HG.out.1
    have n6 := HR.out.ne HG.out.2
    have HGM := Aside0.mk (And.intro (blk_setBlock (w := wr.drew) (o' := .map es ck) HG.out.1 n9) (blk_setBlock (w := wr.drew) (o' := .map es ck) HG.out.2 n6))
    have cR2 : wr.cell? ⟨R, 2, none⟩ = some (.map (some M)) := (blk_cell HR.out.blk 2).trans rfl
    have k3 : wr.cell? ⟨g9, 0, none⟩ = some (.int .i64 acc.f0) := (blk_cell HG.out.1 0).trans rfl
    have k4 : wr.cell? ⟨g9, 1, none⟩ = some (.int .i64 acc.f1) := (blk_cell HG.out.1 1).trans rfl
    have k5 : wr.cell? ⟨g9, 2, none⟩ = some (.int .i64 acc.f2) := (blk_cell HG.out.1 2).trans rfl
    unfold outV at hput
    generalize (ChangeMaps.setBlock wr.drew M (.map es ck)) = wM at HRM HKM HGM hput
    have j3 : wM.cell? ⟨g9, 0, none⟩ = some (.int .i64 acc.f0) := (blk_cell HGM.out.1 0).trans rfl
    have j4 : wM.cell? ⟨g9, 1, none⟩ = some (.int .i64 acc.f1) := (blk_cell HGM.out.1 1).trans rfl
    have j5 : wM.cell? ⟨g9, 2, none⟩ = some (.int .i64 acc.f2) := (blk_cell HGM.out.1 2).trans rfl
    have j0 : wM.cell? ⟨g6, 0, none⟩ = some (.int .i64 0) := (blk_cell HGM.out.2 0).trans rfl
    have j1 : wM.cell? ⟨g6, 1, none⟩ = some (.int .i64 0) := (blk_cell HGM.out.2 1).trans rfl
    have j2 : wM.cell? ⟨g6, 2, none⟩ = some (.int .i64 0) := (blk_cell HGM.out.2 2).trans rfl
    have f0 := blk_frozen HGM.out.2 0
    have f1 := blk_frozen HGM.out.2 1
    have f2 := blk_frozen HGM.out.2 2
    clear hF2 hF2' hmf hacc hi n9 n6
    go_wp2
    go_region
    go_wp2
    refine bodyPost_ret (results_cell_row rfl _ _ g6 109 #[.int .i64 acc.f0, .int .i64 acc.f1, .int .i64 acc.f2] (0, 0) _ rfl (blk_put (cs := #[.int .i64 acc.f0, .int .i64 acc.f1, .int .i64 0]) (blk_put (cs := #[.int .i64 acc.f0, .int .i64 0, .int .i64 0]) (blk_put (cs := #[.int .i64 0, .int .i64 0, .int .i64 0]) HGM.out.2 0 _ rfl) 1 _ rfl) 2 _ rfl) Try.underlying109 rfl (by kernel_rfl)) rfl ?_
    have nR : g6 ≠ R := blk_ne HGM.out.2 HRM.out.blk (by decide)
    have nM : g6 ≠ M := HRM.out.ne HGM.out.2
    have nB : w0.heap.size ≤ g6 := Nat.le_trans HST.out.below.size N6.out
    exact ⟨by rw [← HACC.out]; rfl, ((HRM.out.set nB nR nM _ _).set nB nR nM _ _).set nB nR nM _ _, by rw [← HEND.out]; exact HII.out _ _ _ HKM.out ((((Kept.refl _ _).setCell (.inl (nsc_of HGM.out.2 (by decide))) _).setCell (.inl (nsc_of HGM.out.2 (by decide))) _).setCell (.inl (nsc_of HGM.out.2 (by decide))) _)⟩
def mkU (L : List S55) (p : Nat) : List (Int × OutC) → List Bool × List Bool → List Bool × List Bool
 | [], s => s
 | (i, _) :: r, (U, V) => mkU L p r (U.set i.toNat true, V.set (p + (rd_T55 L i).f0.length) true)
theorem mkU_snoc (L : List S55) (p : Nat) : ∀ (h : List (Int × OutC)) (i : Int) (o : OutC) (s : List Bool × List Bool), mkU L p (h ++ [(i, o)]) s = ((mkU L p h s).1.set i.toNat true, (mkU L p h s).2.set (p + (rd_T55 L i).f0.length) true)
 | [], i, o, (U, V) => rfl
 | (j, q) :: r, i, o, (U, V) => by
  simp only [List.cons_append, mkU]
  exact mkU_snoc L p r i o _
theorem mkU_len (L : List S55) (p : Nat) : ∀ (h : List (Int × OutC)) (s : List Bool × List Bool), (mkU L p h s).1.length = s.1.length ∧ (mkU L p h s).2.length = s.2.length
 | [], s => ⟨rfl, rfl⟩
 | (j, q) :: r, (U, V) => by
  simp only [mkU]
  have := mkU_len L p r (U.set j.toNat true, V.set (p + (rd_T55 L j).f0.length) true)
  simpa using this
def usedAt (L : List S55) (S : List Int) (p : Nat) (s : List Bool × List Bool) : List Bool × List Bool := if s.2.getD p false = true then mkU L p (rdCalls L (S.drop p)) s else s
def usedFrom (L : List S55) (S : List Int) : Nat → List Bool × List Bool
 | 0 => (List.replicate L.length false, (List.replicate (S.length + 1) false).set 0 true)
 | p + 1 => usedAt L S p (usedFrom L S p)
theorem usedFrom_len (L : List S55) (S : List Int) : ∀ p, (usedFrom L S p).1.length = L.length ∧ (usedFrom L S p).2.length = S.length + 1
 | 0 => by simp [usedFrom]
 | p + 1 => by
  have := usedFrom_len L S p
  simp only [usedFrom, usedAt]
  split
  ·
   have h2 := mkU_len L p (rdCalls L (S.drop p)) (usedFrom L S p)
   exact ⟨h2.1.trans this.1, h2.2.trans this.2⟩
  ·
   exact this
def idxT : Int → List Bool → List Int
 | _, [] => []
 | i, b :: bs => if b = true then i :: idxT (i + 1) bs else idxT (i + 1) bs
theorem idxT_len : ∀ (i : Int) (bs : List Bool), (idxT i bs).length ≤ bs.length
 | _, [] => Nat.le_refl _
 | i, b :: bs => by
  have := idxT_len (i + 1) bs
  simp only [idxT, List.length_cons]
  split
  ·
   rw [List.length_cons]; omega
  ·
   omega
def fUsed (L : List S55) (S : List Int) : List Int := if okR L S = true then idxT 0 (usedFrom L S S.length).1 else []
theorem fUsed_len (L : List S55) (S : List Int) : (fUsed L S).length ≤ 8 := by
 unfold fUsed
 split
 ·
  rename_i h
  have h1 := idxT_len 0 (usedFrom L S S.length).1
  have h2 := (usedFrom_len L S S.length).1
  have h3 := (okR_lens h).2.1
  omega
 ·
  exact Nat.zero_le _

theorem infoB : (Try.prog.info? 4).map (fun i => (i.zero, i.size, i.bytes)) = some (some (.bool false), 1, 1) := by kernel_rfl
theorem row_moveB {B : Nat} {w w' : World} {ok : Nat → Prop} {v : Value} {xs : List Bool} (h : Kd.R Kd.bool 4 w B ok v xs) (hk : Kept w w' (fun k => ¬ SCb w k)) : Kd.R Kd.bool 4 w' B ok v xs := by
 refine Kd.R_mono (Kd.R_kept (Kd.R_bound h) hk (fun k hk hn => hn ?_)) (fun _ hk => hk.1)
 obtain ⟨_, _, _, q, hq, cells, hc⟩ := hk
 have e : q = 4 := by simpa [Kd.bool, Kd.scalar] using hq
 subst e
 exact ⟨cells, _, _, hc, by decide, by decide, by decide⟩
/-- What the closure works on: the boxes of the two rows, of the place and of the list; the rows. -/
structure UI (L : List S55) (S : List Int) (A0 : Option Addr) (c0 : Nat) (B M F1 F2 F3 F4 p : Nat) (v0 v1 v2 : Value) (UV : List Bool × List Bool) (w : World) (h : List (Int × OutC)) : Prop where
 bw : B ≤ w.heap.size
 k1 : w.heap[F1]? = some (.cells #[v1] 116 (0, 0))
 k2 : w.heap[F2]? = some (.cells #[v2] 116 (0, 0))
 k3 : w.heap[F3]? = some (.cells #[.int .i64 (p : Int)] 3 (0, 0))
 k4 : w.heap[F4]? = some (.cells #[.slice A0 L.length c0] 38 (0, 0))
 r1 : Kd.R Kd.bool 4 w B (fun k => k < M) v1 (mkU L p h UV).1
 r2 : Kd.R Kd.bool 4 w B (fun k => M ≤ k) v2 (mkU L p h UV).2
 r0 : Kd.R (Kd.int .i64) 3 w B (fun _ => True) v0 ([] : List Int)
 l1 : UV.1.length = L.length
 l2 : UV.2.length = S.length + 1
theorem UI.move {L : List S55} {S : List Int} {A0 : Option Addr} {c0 B M F1 F2 F3 F4 p : Nat} {v0 v1 v2 : Value} {UV : List Bool × List Bool} {w w' : World} {h : List (Int × OutC)} (hi : UI L S A0 c0 B M F1 F2 F3 F4 p v0 v1 v2 UV w h) (hk : Kept w w' (fun k => ¬ SCb w k)) : UI L S A0 c0 B M F1 F2 F3 F4 p v0 v1 v2 UV w' h :=
 ⟨Nat.le_trans hi.bw hk.1, blk_kept hi.k1 hk (fun hn => hn ⟨_, _, _, hi.k1, by decide, by decide, by decide⟩), blk_kept hi.k2 hk (fun hn => hn ⟨_, _, _, hi.k2, by decide, by decide, by decide⟩), blk_kept hi.k3 hk (fun hn => hn ⟨_, _, _, hi.k3, by decide, by decide, by decide⟩), blk_kept hi.k4 hk (fun hn => hn ⟨_, _, _, hi.k4, by decide, by decide, by decide⟩), row_moveB hi.r1 hk, row_moveB hi.r2 hk, row_move hi.r0 hk, hi.l1, hi.l2⟩
set_option maxHeartbeats 4000000 in
set_option maxRecDepth 100000 in
theorem impl_FormulasUsed1_calls {w0 w : World} {L : List S55} {S : List Int} {A0 : Option Addr} {c0 : Nat} {A1 : Option Addr} {c1 : Nat} {R Mm M F1 F2 F3 F4 p : Nat} {v0 v1 v2 : Value} {UV : List Bool × List Bool} (hr0 : Kd.C k55 w0 A0 L.length L) (hs : RdSt w0 w L S A0 c0 A1 c1 R Mm) (h : List (Int × OutC)) (i : Int) (o : OutC) (hi : UI L S A0 c0 w0.heap.size M F1 F2 F3 F4 p v0 v1 v2 UV w h) (h0 : 0 ≤ i) (h1 : i < (L.length : Int)) (hp : p + (rd_T55 L i).f0.length ≤ S.length) (hS : S.length ≤ 23) :
 Calls Try.prog 86 #[.int .i64 i, .agg #[.int .i64 o.f0, .int .i64 o.f1, .int .i64 o.f2], .pointer (some ⟨F1, 0, none⟩), .pointer (some ⟨F2, 0, none⟩), .pointer (some ⟨F3, 0, none⟩), .pointer (some ⟨F4, 0, none⟩)] w fun e w' => e = .returned (.tuple #[]) ∧ RdSt w0 w' L S A0 c0 A1 c1 R Mm ∧ UI L S A0 c0 w0.heap.size M F1 F2 F3 F4 p v0 v1 v2 UV w' (h ++ [(i, o)]) ∧ Kept w w' (SCb w) := by
 have hu1 := Try.underlying109
 have hu2 := Try.underlying55
 have HS := Aside0.mk hs
 have HI := Aside0.mk hi
 have hsn := mkU_snoc L p h i o UV
 have hlen := mkU_len L p h UV
 rw [hi.l1, hi.l2] at hlen
 obtain ⟨U, V, hUV⟩ : ∃ U V, mkU L p h UV = (U, V) := ⟨_, _, rfl⟩
 have hr1 := hi.r1
 have hr2 := hi.r2
 rw [hUV] at hsn hlen hr1 hr2
 simp only [] at hsn hlen hr1 hr2
 obtain ⟨ad, Af, cf, e0, ux0, ux1, hcf, hrf⟩ := at_T55 hr0 i h0 h1
 subst e0
 obtain ⟨f, hf⟩ : ∃ f, f = rd_T55 L i := ⟨_, rfl⟩
 rw [← hf] at ux0 hsn hp
 obtain ⟨g1, cu1, e1, gb1, gl1, cs1, hg1⟩ := Kd.R_form hr1 (by omega)
 obtain ⟨g2, cu2, e2, gb2, gl2, cs2, hg2⟩ := Kd.R_form hr2 (by omega)
 subst e1 e2
 have hm1 : g1 < M := hr1.1 g1 (by simp [Value.ownBlock])
 have hm2 : M ≤ g2 := hr2.1 g2 (by simp [Value.ownBlock])
 have hne : g1 ≠ g2 := by omega
 have NM := Aside0.mk (And.intro hm1 hm2)
 have hne' : g2 ≠ g1 := fun h => hne h.symm
 have NE := Aside0.mk hne'
 rw [hlen.1] at hr1
 rw [hlen.2] at hr2
 have hk1 := hi.k1
 have hk2 := hi.k2
 rw [hlen.1] at hk1
 rw [hlen.2] at hk2
 have HR1 := Aside0.mk hr1
 have HR2 := Aside0.mk hr2
 have HG1 := Aside0.mk hg1
 have HG2 := Aside0.mk hg2
 have HB12 := Aside0.mk (And.intro gb1 gb2)
 have K1 := Aside0.mk hk1
 have K2 := Aside0.mk hk2
 have K3 := Aside0.mk hi.k3
 have K4 := Aside0.mk hi.k4
 have U0 := Aside0.mk ux0
 have HSN := Aside0.mk hsn
 have HLEN := Aside0.mk hlen
 have SC1 := Aside0.mk (show SCb w g1 from ⟨_, _, _, hg1, by decide, by decide, by decide⟩)
 have SC2 := Aside0.mk (show SCb w g2 from ⟨_, _, _, hg2, by decide, by decide, by decide⟩)
 have n1 := Aside0.mk (blk_ne hi.k1 hg1 (by decide))
 have n2 := Aside0.mk (blk_ne hi.k2 hg1 (by decide))
 have n3 := Aside0.mk (blk_ne hi.k3 hg1 (by decide))
 have n4 := Aside0.mk (blk_ne hi.k4 hg1 (by decide))
 have m1 := Aside0.mk (blk_ne hi.k1 hg2 (by decide))
 have m2 := Aside0.mk (blk_ne hi.k2 hg2 (by decide))
 have m3 := Aside0.mk (blk_ne hi.k3 hg2 (by decide))
 have m4 := Aside0.mk (blk_ne hi.k4 hg2 (by decide))
 obtain ⟨hx1, hf1⟩ := Kd.R_celln false hr1 i h0 h1
 obtain ⟨hx2, hf2⟩ := Kd.R_celln false hr2 ((p : Int) + (f.f0.length : Int)) (by omega) (by omega)
 have X1 := Aside0.mk (And.intro hx1 hf1)
 have X2 := Aside0.mk (And.intro hx2 hf2)
 have q0 := eq_true h0
 have q1 := eq_true h1
 have q2 := eq_true (show 0 ≤ (p : Int) + (f.f0.length : Int) by omega)
 have q3 := eq_true (show (p : Int) + (f.f0.length : Int) < ((S.length + 1 : Nat) : Int) by omega)
 have ew : IntKind.i64.wrap ((p : Int) + (f.f0.length : Int)) = (p : Int) + (f.f0.length : Int) := by rw [Go.IntKind.wrap_i64]; omega
 clear hs hi hf hcf hrf ux0 ux1 hr1 hr2 hg1 hg2 hk1 hk2 hx1 hf1 hx2 hf2 hsn hlen gb1 gb2 gl1 gl2 hm1 hm2
 go_enter Try.func86, Try.ntmps86
 go_upto_region 1 with (first
  | ((with_reducible refine gate_dst (N := 7) rfl ?_); refine box_event ?hg (N := 7) ?hd (cs := #[.int .i64 o.f0, .int .i64 o.f1, .int .i64 o.f2]) (t := 109) ?hr ?_; (case hd => rfl); (case hg => rfl); (case hr => first | (go_simp; done) | (go_simp; rfl)); intro g7 hg w1 hbox hb; have HBL := Aside0.mk hb; have c1_ : w1.cell? ⟨F1, 0, none⟩ = some (.slice (some ⟨g1, 0, none⟩) L.length cu1) := (blk_cell (blk_below K1.out hb) 0).trans rfl; clear hg hbox hb)
  | fail)
 (try simp only [Act.put, List.setIfInBounds_toArray, List.set_cons_zero, List.set_cons_succ])
 have R1 := Aside0.mk (Kd.R_below HR1.out HBL.out)
 obtain ⟨y1, z1⟩ := Kd.R_celln false R1.out i (of_eq_true q0) (of_eq_true q1)
 go_upto_region 2 with (fail)
 have HB2 : Aside0 (Below w0.heap.size w0 (w1.setCell ⟨g1, i.toNat, none⟩ (.bool true))) := ⟨below_set (below_then HS.out.below HI.out.bw HBL.out) HB12.out.1⟩
 have R12 : Aside0 (Kd.R Kd.bool 4 (w1.setCell ⟨g1, i.toNat, none⟩ (.bool true)) w0.heap.size (fun k => k < M) (.slice (some ⟨g1, 0, none⟩) L.length cu1) (U.set i.toNat true)) := ⟨(Kd.R_putg R1.out i true).1⟩
 have R22 : Aside0 (Kd.R Kd.bool 4 (w1.setCell ⟨g1, i.toNat, none⟩ (.bool true)) w0.heap.size (fun k => M ≤ k) (.slice (some ⟨g2, 0, none⟩) (S.length + 1) cu2) V) := ⟨Kd.R_far (Kd.R_below HR2.out HBL.out) (p := ⟨g1, i.toNat, none⟩) (fun k hk => by have := NM.out.1; have hk : M ≤ k := hk; show k ≠ g1; omega) _⟩
 have K12 : Aside0 ((w1.setCell ⟨g1, i.toNat, none⟩ (.bool true)).heap[F1]? = some (.cells #[.slice (some ⟨g1, 0, none⟩) L.length cu1] 116 (0, 0))) := ⟨blk_far (blk_below K1.out HBL.out) n1.out _⟩
 have K22 : Aside0 ((w1.setCell ⟨g1, i.toNat, none⟩ (.bool true)).heap[F2]? = some (.cells #[.slice (some ⟨g2, 0, none⟩) (S.length + 1) cu2] 116 (0, 0))) := ⟨blk_far (blk_below K2.out HBL.out) n2.out _⟩
 have K32 : Aside0 ((w1.setCell ⟨g1, i.toNat, none⟩ (.bool true)).heap[F3]? = some (.cells #[.int .i64 (p : Int)] 3 (0, 0))) := ⟨blk_far (blk_below K3.out HBL.out) n3.out _⟩
 have K42 : Aside0 ((w1.setCell ⟨g1, i.toNat, none⟩ (.bool true)).heap[F4]? = some (.cells #[.slice (some ad) L.length c0] 38 (0, 0))) := ⟨blk_far (blk_below K4.out HBL.out) n4.out _⟩
 have HK2 : Aside0 (Kept w (w1.setCell ⟨g1, i.toNat, none⟩ (.bool true)) (SCb w)) := ⟨(Kept.of_below HBL.out _).setCell (.inl SC1.out) _⟩
 have R02 : Aside0 (Kd.R (Kd.int .i64) 3 (w1.setCell ⟨g1, i.toNat, none⟩ (.bool true)) w0.heap.size (fun _ => True) v0 ([] : List Int)) := ⟨Kd.R_set (Kd.R_below HI.out.r0 HBL.out) (blk_below HG1.out HBL.out) (by intro q hq; have e : q = 3 := (by simpa [Kd.int, Kd.scalar] using hq); subst e; decide) i.toNat _⟩
 have HG22 : Aside0 ((w1.setCell ⟨g1, i.toNat, none⟩ (.bool true)).heap[g2]? = some (.cells cs2 4 (0, 0))) := ⟨blk_far (blk_below HG2.out HBL.out) NE.out _⟩
 clear R1 y1 z1 c1_
 generalize (w1.setCell ⟨g1, i.toNat, none⟩ (.bool true)) = w2 at HB2 R12 R22 R02 HG22 K12 K22 K32 K42 HK2 ⊢
 have c2_ : w2.cell? ⟨F2, 0, none⟩ = some (.slice (some ⟨g2, 0, none⟩) (S.length + 1) cu2) := (blk_cell K22.out 0).trans rfl
 have c3_ : w2.cell? ⟨F3, 0, none⟩ = some (.int .i64 (p : Int)) := (blk_cell K32.out 0).trans rfl
 have c4_ : w2.cell? ⟨F4, 0, none⟩ = some (.slice (some ad) L.length c0) := (blk_cell K42.out 0).trans rfl
 have u0_ := pw_cell_below HB2.out U0.out
 obtain ⟨y2, z2⟩ := Kd.R_celln false R22.out ((p : Int) + (f.f0.length : Int)) (of_eq_true q2) (of_eq_true q3)
 have en : ((p : Int) + (f.f0.length : Int)).toNat = p + f.f0.length := by omega
 rw [en] at y2 z2
 have y2d : w2.drew.cell? ⟨g2, p + f.f0.length, none⟩ = some (.bool (rdOf false V ((p : Int) + (f.f0.length : Int)))) := y2
 have z2d : w2.drew.frozen? ⟨g2, p + f.f0.length, none⟩ = false := z2
 have q4 := eq_true (show (p : Int) + (f.f0.length : Int) < (S.length : Int) + 1 by omega)
 go_region
 go_end0
 have hK : Kept w (w2.setCell ⟨g2, p + f.f0.length, none⟩ (.bool true)).drew (SCb w) := HK2.out.setCell (.inl SC2.out) _
 have hBB : Below w0.heap.size w0 (w2.setCell ⟨g2, p + f.f0.length, none⟩ (.bool true)).drew := below_drew1 (below_set HB2.out HB12.out.2)
 have hr2 := (Kd.R_putg R22.out ((p : Int) + (f.f0.length : Int)) true).1
 rw [en] at hr2
 rw [HLEN.out.1, HLEN.out.2]
 refine ⟨rfl, HS.out.keptSC hBB hK, ⟨hBB.size, blk_far K12.out m1.out _, blk_far K22.out m2.out _, blk_far K32.out m3.out _, blk_far K42.out m4.out _, ?_, ?_, Kd.R_drew (Kd.R_set R02.out HG22.out (by intro q hq; have e : q = 3 := (by simpa [Kd.int, Kd.scalar] using hq); subst e; decide) (p + f.f0.length) _), HI.out.l1, HI.out.l2⟩, hK⟩
 ·
  rw [HSN.out]
  exact Kd.R_drew (Kd.R_far R12.out (p := ⟨g2, p + f.f0.length, none⟩) (fun k hk => by have := NM.out.2; have hk : k < M := hk; show k ≠ g2; omega) _)
 ·
  rw [HSN.out]
  exact Kd.R_drew hr2

/-- What holds between two places. -/
structure UJ (L : List S55) (A0 : Option Addr) (c0 : Nat) (B M F1 F2 F4 : Nat) (v0 v1 v2 : Value) (s : List Bool × List Bool) (w : World) : Prop where
 bw : B ≤ w.heap.size
 k1 : w.heap[F1]? = some (.cells #[v1] 116 (0, 0))
 k2 : w.heap[F2]? = some (.cells #[v2] 116 (0, 0))
 k4 : w.heap[F4]? = some (.cells #[.slice A0 L.length c0] 38 (0, 0))
 r1 : Kd.R Kd.bool 4 w B (fun k => k < M) v1 s.1
 r2 : Kd.R Kd.bool 4 w B (fun k => M ≤ k) v2 s.2
 r0 : Kd.R (Kd.int .i64) 3 w B (fun _ => True) v0 ([] : List Int)
theorem UJ.below {L : List S55} {A0 : Option Addr} {c0 B M F1 F2 F4 : Nat} {v0 v1 v2 : Value} {s : List Bool × List Bool} {w w' : World} (h : UJ L A0 c0 B M F1 F2 F4 v0 v1 v2 s w) (hb : Below w.heap.size w w') : UJ L A0 c0 B M F1 F2 F4 v0 v1 v2 s w' :=
 ⟨Nat.le_trans h.bw hb.size, blk_below h.k1 hb, blk_below h.k2 hb, blk_below h.k4 hb, Kd.R_below h.r1 hb, Kd.R_below h.r2 hb, Kd.R_below h.r0 hb⟩
theorem usedFrom_step {L : List S55} {S : List Int} {p : Nat} : usedFrom L S (p + 1) = if (usedFrom L S p).2.getD p false = true then mkU L p (rdCalls L (S.drop p)) (usedFrom L S p) else usedFrom L S p := rfl
theorem used_in {L : List S55} {S : List Int} {p : Nat} (hp : p < S.length) {h : List (Int × OutC)} {i : Int} {o : OutC} (he : ∃ r, h ++ (i, o) :: r = [] ++ rdCalls L (S.drop p)) : p + (rd_T55 L i).f0.length ≤ S.length := by
 obtain ⟨r, hr⟩ := he
 rw [List.nil_append] at hr
 have hm : (i, o) ∈ rdCalls L (S.drop p) := by rw [← hr]; simp
 have hne : S.drop p ≠ [] := by
  intro h
  have := congrArg List.length h
  rw [List.length_drop, List.length_nil] at this; omega
 have hcl : rdCalls L (S.drop p) = rdC (rdO L) (S.drop p) ((0 : Nat) : Int) L := if_neg hne
 rw [hcl] at hm
 have := isPre_len (rdC_mem L 0 rfl hm).2.2.1
 rw [List.length_drop] at this
 omega
theorem idxT_at {U : List Bool} {q : Nat} (hq : q < U.length) : idxT (q : Int) (U.drop q) = if U.getD q false = true then (q : Int) :: idxT ((q + 1 : Nat) : Int) (U.drop (q + 1)) else idxT ((q + 1 : Nat) : Int) (U.drop (q + 1)) := by
 rw [List.drop_eq_getElem_cons hq]
 have e : U.getD q false = U[q] := by rw [List.getD_eq_getElem?_getD, List.getElem?_eq_getElem hq]; rfl
 rw [e]
 rfl
set_option maxHeartbeats 4000000 in
set_option maxRecDepth 100000 in
theorem impl_FormulasUsed_calls (L : List S55) (S : List Int) (A0 : Option Addr) (c0 : Nat) (A1 : Option Addr) (c1 : Nat) (w : World) (hr0 : Kd.C k55 w A0 L.length L) (hc0 : L.length ≤ c0) (hr1 : Kd.C (Kd.int .i64) w A1 S.length S) (hc1 : S.length ≤ c1) (hL : ∀ x ∈ L, x.f0.length ≤ 1000000000000) (hS : S.length ≤ 1000000000000) :
 Calls Try.prog 35 #[.slice A0 L.length c0, .slice A1 S.length c1] w fun e w' => ∃ v, e = .returned v ∧ Kd.R (Kd.int .i64) 3 w' w.heap.size (fun _ => True) v (fUsed L S) ∧ Below w.heap.size w w' := by
 have hu1 := Try.underlying109
 have hmf : ∀ (fn : Fn) (first cap : Array Value) (w : World), (Instr.makeFunc fn first cap).run Try.prog w = .ok (.func fn first cap) w := fun _ _ _ _ => rfl
 have HI := Aside0.mk info3
 have HR0 := Aside0.mk hr0
 have HR1 := Aside0.mk hr1
 have HCC := Aside0.mk (And.intro hc0 (And.intro hc1 (And.intro hL hS)))
 clear hr0 hr1 hc0 hc1 hL hS
 cases hok : okR L S
 ·
  have e : fUsed L S = [] := by unfold fUsed; rw [hok]; rfl
  rw [e]
  have HOK := Aside0.mk hok
  clear hok e
  go_enter Try.func35, Try.ntmps35
  go_wp2_with (first
   | ((with_reducible refine gate_dst (N := 2) rfl ?_); refine box_event ?hg (N := 2) ?hd (cs := #[.slice A0 L.length c0]) (t := 38) ?hr ?_; (case hd => rfl); (case hg => rfl); (case hr => first | (go_simp; done) | (go_simp; rfl)); intro F4 hg w2 hbox hb; have HB2 := Aside0.mk hb; have k0 : w2.cell? ⟨F4, 0, none⟩ = some (.slice A0 L.length c0) := (blk_cell hbox 0).trans rfl; have HK4 := Aside0.mk hbox; clear hg hbox hb)
   | ((with_reducible refine gate_dst (N := 13) rfl ?_); refine Kd.R_lit (Kd.int .i64) _ 3 ?hg (N := 13) ?hd (xs := ([] : List Int)) (inner := []) (ok := fun _ => True) (okp := fun _ => True) ?hr (Reps.none _ _) (fun _ hk => hk) trivial (Below.refl _ _) (Nat.le_refl _) (by simp) ?_; (case hd => rfl); (case hg => rfl); (case hr => first | (go_simp; done) | (go_simp; rfl)); intro v0 w3 ho3 hb3 _ _; obtain ⟨A3, c3, rfl⟩ := Kd.R_slice ho3; have HO3 := Aside0.mk (Kd.R_lower ho3 HB2.out.size); have HB3 := Aside0.mk (below_step HB2.out hb3); have k0 : w3.cell? ⟨F4, 0, none⟩ = some (.slice A0 L.length c0) := (blk_cell (blk_below HK4.out hb3) 0).trans rfl; clear ho3 hb3)
   | (go_at_call 77; refine (impl_newReader_no (Kd.C_below HR0.out HB3.out) HCC.out.1 (Kd.C_below HR1.out HB3.out) HCC.out.2.1 HCC.out.2.2.1 HCC.out.2.2.2 HOK.out).mono ?_; rintro e w4 ⟨rfl, hb4⟩; have HB4 := Aside0.mk (below_step HB3.out hb4); have HO4 := Aside0.mk (Kd.R_below HO3.out hb4); clear hb4))
  go_ret
  exact ⟨_, rfl, HO4.out, HB4.out⟩
 ·
  obtain ⟨l1, l2, l3⟩ := okR_lens hok
  obtain ⟨D, hD⟩ : ∃ D, D = fUsed L S := ⟨_, rfl⟩
  have hD2 : D = idxT 0 (usedFrom L S S.length).1 := by rw [hD]; unfold fUsed; rw [hok, if_pos rfl]
  rw [← hD]
  have HD := Aside0.mk hD2
  have HOK := Aside0.mk hok
  have HLS := Aside0.mk (And.intro l1 (And.intro l2 l3))
  clear hok hD hD2 l1
  go_enter Try.func35, Try.ntmps35
  go_upto_region 5 with (first
   | ((with_reducible refine gate_dst (N := 2) rfl ?_); refine box_event ?hg (N := 2) ?hd (cs := #[.slice A0 L.length c0]) (t := 38) ?hr ?_; (case hd => rfl); (case hg => rfl); (case hr => first | (go_simp; done) | (go_simp; rfl)); intro F4 hg w2 hbox hb; have HB2 := Aside0.mk hb; have k0 : w2.cell? ⟨F4, 0, none⟩ = some (.slice A0 L.length c0) := (blk_cell hbox 0).trans rfl; have HK4 := Aside0.mk hbox; clear hg hbox hb)
   | ((with_reducible refine gate_dst (N := 13) rfl ?_); refine Kd.R_lit (Kd.int .i64) _ 3 ?hg (N := 13) ?hd (xs := ([] : List Int)) (inner := []) (ok := fun _ => True) (okp := fun _ => True) ?hr (Reps.none _ _) (fun _ hk => hk) trivial (Below.refl _ _) (Nat.le_refl _) (by simp) ?_; (case hd => rfl); (case hg => rfl); (case hr => first | (go_simp; done) | (go_simp; rfl)); intro v0 w3 ho3 hb3 _ _; have HO3 := Aside0.mk (Kd.R_lower ho3 HB2.out.size); have HB3 := Aside0.mk (below_step HB2.out hb3); have HK43 := Aside0.mk (blk_below HK4.out hb3); have k0 : w3.cell? ⟨F4, 0, none⟩ = some (.slice A0 L.length c0) := (blk_cell HK43.out 0).trans rfl; clear ho3 hb3)
   | (go_at_call 77; refine (impl_newReader_yes (Kd.C_below HR0.out HB3.out) HCC.out.1 (Kd.C_below HR1.out HB3.out) HCC.out.2.1 HCC.out.2.2.1 HCC.out.2.2.2 HOK.out).mono ?_; rintro e w4 ⟨R, Mm, rfl, hst, hM, hR, hRM⟩; have HMR := Aside0.mk (And.intro (Nat.le_trans HB3.out.size hM) (And.intro (Nat.le_trans HB3.out.size hR) hRM)); have HST4 := Aside0.mk (hst.lower HB3.out); have HO4 := Aside0.mk (Kd.R_below HO3.out hst.below); have HK44 := Aside0.mk (blk_below HK43.out hst.below); clear hst hM hR hRM))
  (try simp only [Act.put, List.setIfInBounds_toArray, List.set_cons_zero, List.set_cons_succ])
  have k4 : w4.cell? ⟨F4, 0, none⟩ = some (.slice A0 L.length c0) := (blk_cell HK44.out 0).trans rfl
  clear k0
  go_upto_region 6 with (first
   | ((with_reducible refine gate_dst (N := 25) rfl ?_); refine Kd.R_make Kd.bool _ 4 rfl (N := 25) rfl 116 _ _ rfl (L.length : Int) rfl rfl Try.underlying116 (.bool false) 1 infoB rfl (by decide) (by omega) false (ok := fun _ => True) (okp := fun _ => True) rfl (fun _ hk => hk) trivial (by omega) (by omega) (Below.refl _ _) (Nat.le_refl _) ?_; intro v1 w5 ho5 hb5 _ _; obtain ⟨U0, hU0⟩ : ∃ U0, U0 = List.replicate ((L.length : Int)).toNat false := ⟨_, rfl⟩; rw [← hU0] at ho5; have HU0 := Aside0.mk hU0; clear hU0; obtain ⟨A5, c5, rfl⟩ := Kd.R_slice ho5; have HO5 := Aside0.mk ho5; have HB5 := Aside0.mk hb5; clear ho5 hb5)
   | ((with_reducible refine gate_dst (N := 8) rfl ?_); refine box_event ?hg (N := 8) ?hd (cs := #[.slice none 0 0]) (t := 116) ?hr ?_; (case hd => rfl); (case hg => rfl); (case hr => first | (go_simp; done) | (go_simp; rfl)); intro F1 hg w6 hbox hb; have HBK6 := Aside0.mk hbox; have HO6 := Aside0.mk (Kd.R_below HO5.out hb); have HB6 := Aside0.mk (below_step HB5.out hb); have NF1 := Aside0.mk (show w4.heap.size ≤ F1 from (by rw [hg]; exact HB5.out.size)); have y1 : w6.cell? ⟨F1, 0, none⟩ = some (.slice none 0 0) := (blk_cell hbox 0).trans rfl; have z1 := blk_frozen hbox 0; clear hg hbox hb)
   | fail)
  (try simp only [Act.put, List.setIfInBounds_toArray, List.set_cons_zero, List.set_cons_succ])
  have HBK7 : Aside0 ((w6.setCell ⟨F1, 0, none⟩ (.slice A5 U0.length c5)).heap[F1]? = some (.cells #[.slice A5 U0.length c5] 116 (0, 0))) := ⟨blk_put (cs := #[.slice none 0 0]) HBK6.out 0 _ rfl⟩
  have HB7 : Aside0 (Below w4.heap.size w4 (w6.setCell ⟨F1, 0, none⟩ (.slice A5 U0.length c5))) := ⟨below_set HB6.out NF1.out⟩
  have HO7 : Aside0 (Kd.R Kd.bool 4 (w6.setCell ⟨F1, 0, none⟩ (.slice A5 U0.length c5)) w4.heap.size (fun _ => True) (.slice A5 U0.length c5) U0) := ⟨Kd.R_set HO6.out HBK6.out (by intro q hq; have e : q = 4 := (by simpa [Kd.bool, Kd.scalar] using hq); subst e; decide) 0 _⟩
  clear HBK6 HO6 HO5 HB6 HB5 y1 z1 k4
  generalize (w6.setCell ⟨F1, 0, none⟩ (.slice A5 U0.length c5)) = w7 at HBK7 HB7 HO7 ⊢
  have ewS : IntKind.i64.wrap ((S.length : Int) + 1) = (S.length : Int) + 1 := by rw [Go.IntKind.wrap_i64]; omega
  go_upto_region 7 with (first
   | ((with_reducible refine gate_dst (N := 29) rfl ?_); refine Kd.R_make Kd.bool _ 4 rfl (N := 29) rfl 116 _ _ rfl ((S.length : Int) + 1) rfl rfl Try.underlying116 (.bool false) 1 infoB rfl (by decide) (by omega) false (ok := fun _ => True) (okp := fun _ => True) rfl (fun _ hk => hk) trivial (by omega) (by omega) (Below.refl _ _) (Nat.le_refl _) ?_; intro v2 w8 ho8 hb8 _ _; obtain ⟨V0, hV0⟩ : ∃ V0, V0 = List.replicate ((S.length : Int) + 1).toNat false := ⟨_, rfl⟩; rw [← hV0] at ho8; have HV0 := Aside0.mk hV0; clear hV0; obtain ⟨A8, c8, rfl⟩ := Kd.R_slice ho8; have HO8 := Aside0.mk ho8; have HB8 := Aside0.mk hb8; clear ho8 hb8)
   | ((with_reducible refine gate_dst (N := 9) rfl ?_); refine box_event ?hg (N := 9) ?hd (cs := #[.slice none 0 0]) (t := 116) ?hr ?_; (case hd => rfl); (case hg => rfl); (case hr => first | (go_simp; done) | (go_simp; rfl)); intro F2 hg w9 hbox hb; have HBK9 := Aside0.mk hbox; have HO9 := Aside0.mk (Kd.R_below HO8.out hb); have HB9 := Aside0.mk (below_step HB8.out hb); have NF2 := Aside0.mk (show w7.heap.size ≤ F2 from (by rw [hg]; exact HB8.out.size)); have y1 : w9.cell? ⟨F2, 0, none⟩ = some (.slice none 0 0) := (blk_cell hbox 0).trans rfl; have z1 := blk_frozen hbox 0; clear hg hbox hb)
   | fail)
  (try simp only [Act.put, List.setIfInBounds_toArray, List.set_cons_zero, List.set_cons_succ])
  have HBKa : Aside0 ((w9.setCell ⟨F2, 0, none⟩ (.slice A8 V0.length c8)).heap[F2]? = some (.cells #[.slice A8 V0.length c8] 116 (0, 0))) := ⟨blk_put (cs := #[.slice none 0 0]) HBK9.out 0 _ rfl⟩
  have HBa : Aside0 (Below w7.heap.size w7 (w9.setCell ⟨F2, 0, none⟩ (.slice A8 V0.length c8))) := ⟨below_set HB9.out NF2.out⟩
  have HOa : Aside0 (Kd.R Kd.bool 4 (w9.setCell ⟨F2, 0, none⟩ (.slice A8 V0.length c8)) w7.heap.size (fun _ => True) (.slice A8 V0.length c8) V0) := ⟨Kd.R_set HO9.out HBK9.out (by intro q hq; have e : q = 4 := (by simpa [Kd.bool, Kd.scalar] using hq); subst e; decide) 0 _⟩
  clear HBK9 HO9 HO8 HB9 HB8 y1 z1
  generalize (w9.setCell ⟨F2, 0, none⟩ (.slice A8 V0.length c8)) = wa at HBKa HBa HOa ⊢
  have lenV : V0.length = S.length + 1 := by rw [HV0.out, List.length_replicate]; omega
  have lenU : U0.length = L.length := by rw [HU0.out, List.length_replicate]; omega
  obtain ⟨g2, cu2, e2, gb2, gl2, cs2, hg2⟩ := Kd.R_form HOa.out (by omega)
  injection e2 with e2 _ e3
  subst e2 e3
  have hca : wa.cell? ⟨F2, 0, none⟩ = some (.slice (some ⟨g2, 0, none⟩) V0.length c8) := (blk_cell HBKa.out 0).trans rfl
  obtain ⟨ya, za⟩ := Kd.R_celln false HOa.out 0 (by omega) (by omega)
  have q0 := eq_true (show (0 : Int) < (V0.length : Int) by omega)
  have q0' := eq_true (show 0 < V0.length by omega)
  have NG2 := Aside0.mk (blk_ne HBKa.out hg2 (by decide))
  have GB2 := Aside0.mk gb2
  have ya' : wa.cell? ⟨g2, 0, none⟩ = some (.bool (rdOf false V0 0)) := ya
  have za' : wa.frozen? ⟨g2, 0, none⟩ = false := za
  clear gb2 gl2 hg2 ya za
  go_upto_region 8 with (fail)
  have HS0 : usedFrom L S 0 = (U0, V0.set 0 true) := by rw [HU0.out, HV0.out]; unfold usedFrom; simp
  have HJ : Aside0 (UJ L A0 c0 w.heap.size w7.heap.size F1 F2 F4 v0 (.slice A5 U0.length c5) (.slice (some ⟨g2, 0, none⟩) V0.length c8) (usedFrom L S 0) (wa.setCell ⟨g2, 0, none⟩ (.bool true))) := ⟨by
   rw [HS0]
   have hb4 := HST4.out.below
   have hba := below_step HB7.out HBa.out
   have hbb : Below w4.heap.size w4 (wa.setCell ⟨g2, 0, none⟩ (.bool true)) := below_set hba (Nat.le_trans HB7.out.size GB2.out)
   have hb7 : Below w7.heap.size w7 (wa.setCell ⟨g2, 0, none⟩ (.bool true)) := below_set HBa.out GB2.out
   have hr2 := (Kd.R_putg HOa.out 0 true).1
   have hr2 : Kd.R Kd.bool 4 (wa.setCell ⟨g2, 0, none⟩ (.bool true)) w7.heap.size (fun _ => True) (.slice (some ⟨g2, 0, none⟩) V0.length c8) (V0.set 0 true) := hr2
   exact ⟨Nat.le_trans hb4.size hbb.size, blk_below HBK7.out hb7, blk_far HBKa.out NG2.out _, blk_below HK44.out hbb, Kd.R_below (Kd.R_mono (Kd.R_lower (Kd.R_bound HO7.out) hb4.size) (fun _ hk => hk.2.2.1)) hb7, Kd.R_lower (Kd.R_mono (Kd.R_bound hr2) (fun _ hk => hk.2.1)) (Nat.le_trans hb4.size HB7.out.size), Kd.R_below HO4.out hbb⟩⟩
  have HSTb := Aside0.mk (HST4.out.kept (show Below w4.heap.size w4 (wa.setCell ⟨g2, 0, none⟩ (.bool true)) from below_set (below_step HB7.out HBa.out) (Nat.le_trans HB7.out.size GB2.out)))
  have NX0 := Aside0.mk (And.intro lenU lenV)
  clear HBKa HBa HOa HST4 HK44 HO4 HBK7 HB7 HO7 hca q0 q0' NG2 GB2 ya' za' ewS lenU lenV HS0
  generalize (wa.setCell ⟨g2, 0, none⟩ (.bool true)) = wb at HJ HSTb ⊢
  generalize (Value.slice A5 U0.length c5) = v1 at HJ ⊢
  generalize (Value.slice (some ⟨g2, 0, none⟩) V0.length c8) = v2 at HJ ⊢
  obtain ⟨M, hM⟩ : ∃ M, M = w7.heap.size := ⟨_, rfl⟩
  rw [← hM] at HJ
  clear hM HU0 HV0
  go_upto_region 9 with (fail)
  go_loopg [34] S.length (fun kq v34 w' => ∃ (p : Nat), v34 = .int .i64 (p : Int) ∧ Aside0 (kq = S.length - p ∧ p ≤ S.length) ∧ Aside0 (UJ L A0 c0 w.heap.size M F1 F2 F4 v0 v1 v2 (usedFrom L S p) w') ∧ Aside0 (RdSt w w' L S A0 c0 A1 c1 R Mm))
  case atStart => exact ⟨0, rfl, ⟨by omega, Nat.zero_le _⟩, HJ, HSTb⟩
  case round =>
   clear HJ HSTb
   obtain ⟨p, rfl, HX, HJ, HST⟩ := hrel
   by_cases hp : (p : Int) < (S.length : Int)
   ·
    have d1 : decide ((p : Int) < (S.length : Int)) = true := decide_eq_true hp
    have d2 : decide (p < S.length) = true := decide_eq_true (by omega)
    have hlen := usedFrom_len L S p
    obtain ⟨U, V, hUV⟩ : ∃ U V, usedFrom L S p = (U, V) := ⟨_, _, rfl⟩
    have hst := usedFrom_step (L := L) (S := S) (p := p)
    rw [hUV] at hlen hst HJ
    simp only [] at hlen hst
    have hr2 := HJ.out.r2
    simp only [] at hr2
    obtain ⟨g2, cu2, e2, gb2, gl2, cs2, hg2⟩ := Kd.R_form hr2 (by omega)
    subst e2
    obtain ⟨y2, z2⟩ := Kd.R_celln false hr2 (p : Int) (by omega) (by omega)
    have Y2 := Aside0.mk y2
    have HST3 := Aside0.mk hst
    have HLEN := Aside0.mk hlen
    have hre : rdOf false V (p : Int) = V.getD p false := rfl
    have q0 := eq_true (show 0 ≤ (p : Int) by omega)
    have q1 := eq_true (show (p : Int) < (V.length : Int) by omega)
    have q1' := eq_true (show p < V.length by omega)
    have NP : Aside0 (S.length - (p + 1) < gk ∧ p + 1 ≤ S.length) := ⟨by have := HX.out.1; omega, by omega⟩
    have HP := Aside0.mk (show p < S.length by omega)
    have bp : p ≤ 23 := by omega
    clear hlen hst hr2 gb2 gl2 hg2 z2 y2 hp
    go_upto_region 11 with (first
     | ((with_reducible refine gate_dst (N := 10) rfl ?_); refine box_event ?hg (N := 10) ?hd (cs := #[.int .i64 0]) (t := 3) ?hr ?_; (case hd => rfl); (case hg => rfl); (case hr => first | (go_simp; done) | (go_simp; rfl)); intro F3 hg w7' hbox hb; have HB7 := Aside0.mk hb; have KF3 := Aside0.mk hbox; have NF3 := Aside0.mk (show wr.heap.size ≤ F3 from (by rw [hg]; exact Nat.le_refl _)); have y3 : w7'.cell? ⟨F3, 0, none⟩ = some (.int .i64 0) := (blk_cell hbox 0).trans rfl; have z3 := blk_frozen hbox 0; clear hg hbox hb)
     | fail)
    have KF8 : Aside0 ((w7'.setCell ⟨F3, 0, none⟩ (.int .i64 (p : Int))).heap[F3]? = some (.cells #[.int .i64 (p : Int)] 3 (0, 0))) := ⟨blk_put (cs := #[.int .i64 0]) KF3.out 0 _ rfl⟩
    have HB8 : Aside0 (Below wr.heap.size wr (w7'.setCell ⟨F3, 0, none⟩ (.int .i64 (p : Int)))) := ⟨below_set HB7.out NF3.out⟩
    clear KF3 y3 z3 HB7
    generalize (w7'.setCell ⟨F3, 0, none⟩ (.int .i64 (p : Int))) = w8 at KF8 HB8 ⊢
    have HJ8 := Aside0.mk (HJ.out.below HB8.out)
    have HST8 := Aside0.mk (HST.out.kept HB8.out)
    have c9 : w8.cell? ⟨F2, 0, none⟩ = some (.slice (some ⟨g2, 0, none⟩) V.length cu2) := (blk_cell HJ8.out.k2 0).trans rfl
    have c10 : w8.cell? ⟨F3, 0, none⟩ = some (.int .i64 (p : Int)) := (blk_cell KF8.out 0).trans rfl
    have Y8 : w8.cell? ⟨g2, p, none⟩ = some (.bool (V.getD p false)) := pw_cell_below HB8.out Y2.out
    clear Y2
    cases hv : V.getD p false
    ·
     rw [hv] at Y8
     have hn : usedFrom L S (p + 1) = (U, V) := by have := HST3.out; rwa [hv, if_neg (by simp)] at this
     have HN := Aside0.mk hn
     clear hv hn hre
     go_wp2
     go_roundg (S.length - (p + 1))
     case measure => exact NP.out.1
     case rel => exact ⟨p + 1, by simp, ⟨rfl, NP.out.2⟩, ⟨by rw [HN.out]; exact HJ8.out⟩, HST8⟩
    ·
     rw [hv] at Y8
     have hn : usedFrom L S (p + 1) = mkU L p (rdCalls L (S.drop p)) (U, V) := by have := HST3.out; rwa [hv, if_pos rfl] at this
     have HN := Aside0.mk hn
     have HBI := Aside0.mk (show UI L S A0 c0 w.heap.size M F1 F2 F3 F4 p v0 v1 (.slice (some ⟨g2, 0, none⟩) V.length cu2) (U, V) w8 [] from ⟨HJ8.out.bw, HJ8.out.k1, HJ8.out.k2, KF8.out, HJ8.out.k4, HJ8.out.r1, HJ8.out.r2, HJ8.out.r0, HLEN.out.1, HLEN.out.2⟩)
     have HRE := Aside0.mk (impl_read_eachU HR0.out HCC.out.1 HR1.out HCC.out.2.1 HLS.out.1 HLS.out.2.1 HLS.out.2.2 HMR.out.1 HMR.out.2.1 HMR.out.2.2 (F1 := F1) (F2 := F2) (F3 := F3) (F4 := F4) [] (UI L S A0 c0 w.heap.size M F1 F2 F3 F4 p v0 v1 (.slice (some ⟨g2, 0, none⟩) V.length cu2) (U, V)) (fun _ _ _ hi hk => hi.move hk) p (fun w' h i o hs hi h0 h1 hex => impl_FormulasUsed1_calls HR0.out hs h i o hi h0 h1 (used_in HP.out hex) HLS.out.2.2) w8 (Nat.le_of_lt HP.out) HST8.out HBI.out)
     simp only [List.nil_append] at HRE
     clear hv hn hre HBI HJ8 HST8 KF8 HJ HST
     go_wp2_with (go_at_call 78; refine HRE.out.mono ?_; rintro e wB ⟨rfl, hst, hi⟩; have HSB := Aside0.mk hst; have HIB := Aside0.mk hi; clear hst hi)
     go_roundg (S.length - (p + 1))
     case measure => exact NP.out.1
     case rel => exact ⟨p + 1, by simp, ⟨rfl, NP.out.2⟩, ⟨by rw [HN.out]; exact ⟨HIB.out.bw, HIB.out.k1, HIB.out.k2, HIB.out.k4, HIB.out.r1, HIB.out.r2, HIB.out.r0⟩⟩, HSB⟩
   ·
    have d1 : decide ((p : Int) < (S.length : Int)) = false := decide_eq_false hp
    have d2 : decide (p < S.length) = false := decide_eq_false (by omega)
    obtain rfl : p = S.length := by have := HX.out.2; omega
    have hlen := (usedFrom_len L S S.length).1
    obtain ⟨U, hU⟩ : ∃ U, U = (usedFrom L S S.length).1 := ⟨_, rfl⟩
    have hr1 := HJ.out.r1
    have hDD := HD.out
    rw [← hU] at hlen hr1 hDD
    obtain ⟨Au, cu, e1⟩ := Kd.R_slice hr1
    rw [hlen] at e1
    subst e1
    have HLU := Aside0.mk hlen
    have HR1' := Aside0.mk hr1
    have HR0' := Aside0.mk HJ.out.r0
    have HBW := Aside0.mk HST.out.below
    have c8_ : wr.cell? ⟨F1, 0, none⟩ = some (.slice Au L.length cu) := (blk_cell HJ.out.k1 0).trans rfl
    have HDD := Aside0.mk hDD
    clear hp hr1 hDD hU hlen
    go_wp2
    go_loopg [5, 11, 12, 49] L.length (fun kq v5 v11 v12 v49 w' => ∃ (q : Nat) (X : List Int), v49 = .int .i64 (q : Int) ∧ Aside0 (kq = L.length - q ∧ q ≤ L.length ∧ X ++ idxT (q : Int) (U.drop q) = D ∧ X.length ≤ q) ∧ Aside0 (Kd.R (Kd.int .i64) 3 w' w.heap.size (fun _ => True) v5 X) ∧ Aside0 (Kd.R Kd.bool 4 w' w.heap.size (fun k => k < M) (.slice Au L.length cu) U) ∧ Aside0 (Below w.heap.size w w'))
    case atStart => exact ⟨0, [], rfl, ⟨by omega, Nat.zero_le _, by rw [List.drop_zero]; exact HDD.out.symm, Nat.le_refl _⟩, HR0', HR1', HBW⟩
    case round =>
     clear HR0' HR1' HBW c8_ HJ HST HX
     obtain ⟨q, X, rfl, HY, HO, HU, HB⟩ := hrel
     have hlu := HLU.out
     by_cases hq : (q : Int) < (L.length : Int)
     ·
      have d3 : decide ((q : Int) < (L.length : Int)) = true := decide_eq_true hq
      have d4 : decide (q < L.length) = true := decide_eq_true (by omega)
      obtain ⟨g1, cu1, e1, _, _, cs1, _⟩ := Kd.R_form HU.out (by omega)
      injection e1 with e1 en e3
      clear en
      subst e1 e3
      obtain ⟨y1, _⟩ := Kd.R_celln false HU.out (q : Int) (by omega) (by omega)
      have Y1 : wr.cell? ⟨g1, q, none⟩ = some (.bool (U.getD q false)) := y1
      have hidx := idxT_at (U := U) (q := q) (by omega)
      have q5 := eq_true (show 0 ≤ (q : Int) by omega)
      have q6 := eq_true hq
      have q7 := eq_true (show q < L.length by omega)
      have bx : X.length ≤ 8 := by have := HY.out.2.2.2; have := HLS.out.2.1; omega
      have bq : q < 8 := by have := HLS.out.2.1; omega
      clear hq y1 hlu
      cases hv : U.getD q false
      ·
       rw [hv] at Y1 hidx
       rw [if_neg (by simp)] at hidx
       have NX : Aside0 (L.length - (q + 1) < gk ∧ q + 1 ≤ L.length ∧ X ++ idxT ((q + 1 : Nat) : Int) (U.drop (q + 1)) = D ∧ X.length ≤ q + 1) := ⟨by have := HY.out.1; have := of_eq_true q7; omega, by have := of_eq_true q7; omega, by have := HY.out.2.2.1; rw [hidx] at this; exact this, by have := HY.out.2.2.2; omega⟩
       clear hv hidx
       go_wp2
       go_roundg (L.length - (q + 1))
       case measure => exact NX.out.1
       case rel => exact ⟨q + 1, X, by simp, ⟨rfl, NX.out.2⟩, HO, HU, HB⟩
      ·
       rw [hv] at Y1 hidx
       rw [if_pos rfl] at hidx
       have NX : Aside0 (L.length - (q + 1) < gk ∧ q + 1 ≤ L.length ∧ X ++ [(q : Int)] ++ idxT ((q + 1 : Nat) : Int) (U.drop (q + 1)) = D ∧ (X ++ [(q : Int)]).length ≤ q + 1) := ⟨by have := HY.out.1; have := of_eq_true q7; omega, by have := of_eq_true q7; omega, by have := HY.out.2.2.1; rw [hidx] at this; rw [List.append_assoc]; exact this, by have := HY.out.2.2.2; rw [List.length_append, List.length_singleton]; omega⟩
       clear hv hidx
       go_wp2_with ((with_reducible refine gate_builtin (b := .append) (xs := #[.tmp 55, .tmp 57]) rfl ?_); at_builtin; go_loud (refine Kd.R_append (Kd.int .i64) (w0 := w) w.heap.size rfl (.tmp 55) (.tmp 57) 46 3 (.int .i64 0) 8 rfl Try.underlying46 HI.out rfl (by decide) (by omega) _ X (q : Int) [.int .i64 (q : Int)] (fun _ => True) (fun _ => False) rfl rfl ?aP (fun _ hk => hk.elim) (fun _ _ => trivial) HO.out HB.out HB.out.size (by omega) ?_); (case aP => exact rfl); intro v9 wC ho9 hb9 hg9 _; have HO9 := Aside0.mk ho9; have HB9 := Aside0.mk hb9; have HU9 := Aside0.mk (Kd.R_over HU.out HO.out (by intro q hq; have e : q = 4 := (by simpa [Kd.bool, Kd.scalar] using hq); subst e; decide) hg9); clear ho9 hb9 hg9)
       go_roundg (L.length - (q + 1))
       case measure => exact NX.out.1
       case rel => exact ⟨q + 1, X ++ [(q : Int)], by simp, ⟨rfl, NX.out.2⟩, HO9, HU9, HB9⟩
     ·
      have d3 : decide ((q : Int) < (L.length : Int)) = false := decide_eq_false hq
      have d4 : decide (q < L.length) = false := decide_eq_false (by omega)
      have hXD : X = D := by
       have h1 := HY.out.2.2.1
       rw [List.drop_eq_nil_of_le (by omega)] at h1
       simpa [idxT] using h1
      subst hXD
      clear hq hlu
      go_wp2
      go_ret
      exact ⟨_, rfl, HO.out, HB.out⟩

end Go.Proofs.Ytnemcppllfmioaa.Pure
namespace Go.Proofs.Ytnemcppllfmioaa.Pure
set_option linter.unusedVariables false
set_option linter.unusedSimpArgs false
open Go Go.RowKit Go.Proofs.Ytnemcppllfmioaa.PFnReadUsed Go.Proofs.YtnemcppllfmioaaW.PrintWords Go.Proofs.YtnemcppllfmioaaW.PrintLast Go.Proofs.YtnemcppllfmioaaW.PrintMore

def isz : List S55 → Int
 | [] => 0
 | x :: xs => (x.f0.length : Int) + isz xs
def FormulaSz (l : List S55) : Int := (l.length : Int) + isz l
theorem isz_nn : ∀ l, 0 ≤ isz l
 | [] => by simp [isz]
 | x :: xs => by have := isz_nn xs; simp only [isz]; omega
theorem isz_get {l : List S55} {x : S55} (h : x ∈ l) : (x.f0.length : Int) ≤ isz l := by
 induction l with
 | nil => simp at h
 | cons y ys ih =>
  have := isz_nn ys
  simp only [isz]
  rcases List.mem_cons.1 h with rfl | h
  ·
   omega
  ·
   have := ih h; omega
theorem FormulaSz_get {l : List S55} {x : S55} (h : x ∈ l) : (x.f0.length : Int) ≤ FormulaSz l := by have := isz_get h; unfold FormulaSz; omega
def fwo (l : List S55) (k : Int) : List S55 × Bool := if fsOk l = true ∧ 0 ≤ k ∧ k < (l.length : Int) then (l.eraseIdx k.toNat, true) else ([], false)
theorem erase_same (l : List S55) (i k : Nat) (h : i ≤ k) : (l.take i).eraseIdx k = l.take i := List.eraseIdx_of_length_le (by rw [List.length_take]; omega)
theorem erase_step {l : List S55} {i : Nat} (hi : i < l.length) (k : Nat) (h : i ≠ k) : (l.take (i + 1)).eraseIdx k = (l.take i).eraseIdx k ++ [l.getD i z55] := by
 rw [take_rd l i hi]
 by_cases hk : i < k
 ·
  rw [erase_same l i k (by omega), List.eraseIdx_of_length_le (by rw [List.length_append, List.length_take]; simp; omega)]
 ·
  rw [List.eraseIdx_append_of_lt_length (by rw [List.length_take]; omega)]
theorem erase_skip {l : List S55} {k : Nat} (hk : k < l.length) : (l.take (k + 1)).eraseIdx k = (l.take k).eraseIdx k := by
 rw [take_rd l k hk, erase_same l k k (Nat.le_refl _), List.eraseIdx_append_of_length_le (by rw [List.length_take]; omega)]
 have : k - (l.take k).length = 0 := by rw [List.length_take]; omega
 rw [this]; simp
theorem ones_of {α : Type} {d : Kd α} {W : World} {base : Nat} {okp : Nat → Prop} {ys : List α} {news : List Value} (hs0 : 0 < d.sz) (hnM : Reps (d.M W base okp) d.sz ys news) : ∀ u ∈ news, u.oneCell' = true := by
 intro u hu
 obtain ⟨q, hq, rfl⟩ := List.mem_iff_getElem.1 hu
 have hql : q / d.sz < ys.length := by
  rw [Nat.div_lt_iff_lt_mul hs0]
  have := hnM.1
  omega
 have hc := hnM.2 (q / d.sz) _ (List.getElem?_eq_getElem hql)
 refine d.K_one (d.K_of_M hc) _ ?_
 rw [List.mem_iff_getElem?]
 exact ⟨q % d.sz, by rw [List.getElem?_take, if_pos (Nat.mod_lt _ hs0), List.getElem?_drop, Nat.mul_comm, Nat.div_add_mod, List.getElem?_eq_getElem hq]⟩
theorem R_copy_all {P : Program} {ops : Array Oper} {o : Oper} {rest : List Oper} {a : Act} {Q : Exit → Act → World → Prop} {α : Type} (d : Kd α) {w0 W : World} (base : Nat) (hgd : o.guard = none) (s x : Operand) (t e : TypeId)
 (ho : o.op = .call { callee := .builtin .copy, args := #[s, x], argTypes := #[t, t] }) (ht : P.underlying t = some (.slice e)) (hsz : (P.info? e).map (·.size) = some d.sz) (hs0 : 0 < d.sz)
 (v : Value) (zs xs : List α) (hl : zs.length = xs.length) (A : Option Addr) (c : Nat) (hv : a.eval s = v) (hx : a.eval x = .slice A xs.length c)
 (HO : d.R e W base (fun _ => True) v zs) (HR : d.C W A xs.length xs) (hKM : ∀ p cs, d.K W p cs → d.M W base (fun _ => False) p cs) (HB : Below base w0 W)
 (h : ∀ w1, d.R e w1 base (fun _ => True) v xs → Below base w0 w1 → wpList P ops Q rest (a.put o.dst (goInt xs.length)) w1) : wpList P ops Q (o :: rest) a W := by
 obtain ⟨i, hi, hisz⟩ := Option.map_eq_some_iff.1 hsz
 have hrun : ∃ w1, (Builtin.copy_ #[t, t] o.type #[v, .slice A xs.length c]).run P W = .ok (goInt xs.length) w1 ∧ d.R e w1 base (fun _ => True) v xs ∧ Below base w0 w1 := by
  obtain ⟨hok, inner, hown, hr⟩ := HO
  by_cases h0 : xs.length = 0
  ·
   obtain rfl : xs = [] := List.eq_nil_of_length_eq_zero h0
   obtain rfl : zs = [] := List.eq_nil_of_length_eq_zero (by simpa using hl)
   have hl0 : ∀ (y : Addr), (loadCells y 0).run P W = .ok #[] W := fun y => by simpa using run_loadCells_list (P := P) W y [] (by simp)
   refine ⟨W, ?_, ⟨hok, inner, hown, hr⟩, HB⟩
   rcases hown.2 with ⟨rfl, _⟩ | ⟨g, cap, cur, rfl, _⟩ <;> cases A <;> simp [Builtin.copy_, run_underlying ht, Builtin.lenOf, Builtin.firstCells, sizeOf, typeInfo, hi, storeCells, hl0]
  ·
   obtain ⟨ad, rfl, hcc⟩ := HR.2.2 (by omega)
   obtain ⟨news, hnr, hnc⟩ := ReadsRow.inner_ HR
   have hnM : Reps (d.M W base (fun _ => False)) d.sz xs news := hnr.imp_ (fun p c hp => hKM p c hp)
   have hone := ones_of hs0 hnM
   rcases hown.2 with ⟨rfl, hz⟩ | ⟨g, cap, cur, rfl, hg, hh, hncap, hcm, hcs, htk⟩
   ·
    omega
   ·
    have hfit : news.length ≤ cur.size := by
     rw [hnM.1, hcs, ← hl]
     exact Nat.mul_le_mul_right _ hncap
    have hst := run_storeCells_at P g 0 e news 0 cur W hh (by omega) hone
    have hld := run_loadCells_list (P := P) W ad news hnc
    have hnl : news.length = xs.length * d.sz := hnM.1
    refine ⟨W.setRow g (cur.toList.take 0 ++ news ++ cur.toList.drop (0 + 0 + news.length)).toArray, ?_, ⟨fun _ _ => trivial, news, ?_, ?_⟩, below_setRow HB hg _⟩
    ·
     rw [hnl] at hld
     simp [Builtin.copy_, run_underlying ht, Builtin.lenOf, Builtin.firstCells, sizeOf, typeInfo, hi, hisz, hl, hld, hst]
    ·
     refine ⟨hnl, .inr ⟨g, cap, _, by rw [hl], hg, setRow_heap W g cur _ e _ hh, by omega, hcm, ?_, ?_⟩⟩
     ·
      simp only [List.take_zero, List.nil_append, List.size_toArray, List.length_append, List.length_drop, Array.length_toList]
      omega
     ·
      simp only [List.take_zero, List.nil_append]
      rw [← hnl, List.take_append_of_le_length (Nat.le_refl _), List.take_length]
    ·
     exact hnM.imp_ (fun p c hp => d.M_mono (fun k hk => hk.elim) (d.M_move (fun k hk => hk.elim) hp))
 obtain ⟨w1, hr1, h1, hb1⟩ := hrun
 refine wpList_plain hgd fun K hK => ?_
 unfold Oper.wp execOp
 simp only [ho, resolve, invoke, builtin, Sem.run_bind, Sem.run_pure, Result.andThen_ok, List.map_toArray, List.map_cons, List.map_nil, hv, hx, hr1]
 exact hK _ _ (h w1 h1 hb1)

theorem cell_grown' {W w1 : World} {row : Option Nat} {a : Addr} {v : Value} (hc : W.cell? a = some v) (hg : W.grownBy w1 row) (hne : some a.block ≠ row) : w1.cell? a = some v :=
 cell_kept hc (Kept.of_grown (S := fun k => some k = row) hg (Kept.refl _ _) (fun k hk => .inl hk.symm)) hne
set_option maxHeartbeats 4000000 in
set_option maxRecDepth 100000 in
theorem impl_copiedNumbers_calls (m : List Int) (A0 : Option Addr) (c0 : Nat) (w : World) (hr0 : Kd.C (Kd.int .i64) w A0 m.length m) (hc0 : m.length ≤ c0) (hm : m.length ≤ 1000000000000) :
 Calls Try.prog 76 #[.slice A0 m.length c0] w fun e w' => ∃ v, e = .returned v ∧ Kd.R (Kd.int .i64) 3 w' w.heap.size (fun _ => True) v m ∧ Below w.heap.size w w' := by
 have HR0 := Aside0.mk hr0
 have HC0 := Aside0.mk hc0
 clear hr0 hc0
 have hinf : (Try.prog.info? 3).map (fun i => (i.zero, i.size, i.bytes)) = some (some (.int .i64 0), 1, 8) := by kernel_rfl
 go_enter Try.func76, Try.ntmps76
 go_wp2_with (first
  | ((with_reducible refine gate_dst (N := 6) rfl ?_); refine Kd.R_make (Kd.int .i64) _ 3 rfl (N := 6) rfl 46 _ _ rfl (m.length : Int) rfl rfl Try.underlying46 (.int .i64 0) 8 hinf rfl (by decide) (by omega) (0 : Int) (ok := fun _ => True) (okp := fun _ => True) rfl (fun _ hk => hk) trivial (by omega) (by omega) (Below.refl _ _) (Nat.le_refl _) ?_; intro v1 w1 ho1 hb1 hg1 _)
  | ((with_reducible refine gate_builtin (b := .copy) (xs := #[.tmp 7, .tmp 8]) rfl ?_); go_loud (refine R_copy_all (Kd.int .i64) w.heap.size rfl (.tmp 7) (.tmp 8) 46 3 rfl Try.underlying46 (by have h := congrArg (Option.map (fun x => x.2.1)) hinf; rw [Option.map_map] at h; exact h) (by decide) v1 (List.replicate (m.length : Int).toNat 0) m (by simp) A0 c0 rfl rfl ho1 (Kd.C_below HR0.out hb1) (fun p c h => h) hb1 ?_); intro w2 ho2 hb2))
 go_ret
 exact ⟨_, rfl, ho2, hb2⟩
set_option maxHeartbeats 8000000 in
set_option maxRecDepth 100000 in
theorem impl_FormulasWithout_calls (l : List S55) (k : Int) (A0 : Option Addr) (c0 : Nat) (w : World) (hr0 : Kd.C k55 w A0 l.length l) (hc0 : l.length ≤ c0) (hl : FormulaSz l ≤ 1000000000000) :
 Calls Try.prog 25 #[.slice A0 l.length c0, .int .i64 k] w fun e w' => ∃ v, e = .returned (.tuple #[v, .bool (fwo l k).2]) ∧ Kd.S k55 55 w' w.heap.size (fun _ => True) v (fwo l k).1 ∧ Below w.heap.size w w' := by
 obtain ⟨kk, hv⟩ := Ev.rounds (impl_FormulasValid_ev l (fun x hx => by have := FormulaSz_get hx; omega))
 have HR0 := Aside0.mk hr0
 have HC0 := Aside0.mk hc0
 have HV := Aside0.mk hv
 clear hr0 hc0 hv
 cases hok : fsOk l
 ·
  have hgj : fwo l k = ([], false) := by unfold fwo; rw [if_neg (fun h => by rw [hok] at h; exact absurd h.1 (by simp))]
  rw [hgj]
  rw [hok] at HV
  clear hgj hok
  go_enter Try.func25, Try.ntmps25
  go_wp2_with (go_at_call 71; refine (impl_FormulasValid.calls kk _ _ l false _ HR0.out HC0.out HV.out).mono ?_; rintro e w1 ⟨rfl, hb1⟩)
  go_ret2
  exact ⟨_, rfl, Kd.S_nil _ _ _ _ _, hb1⟩
 rw [hok] at HV
 by_cases h0 : k < 0
 ·
  have hgj : fwo l k = ([], false) := by unfold fwo; rw [if_neg (fun h => by omega)]
  rw [hgj]
  have d1 : decide (k < 0) = true := decide_eq_true h0
  clear hgj h0
  go_enter Try.func25, Try.ntmps25
  go_wp2_with (go_at_call 71; refine (impl_FormulasValid.calls kk _ _ l true _ HR0.out HC0.out HV.out).mono ?_; rintro e w1 ⟨rfl, hb1⟩)
  go_ret2
  exact ⟨_, rfl, Kd.S_nil _ _ _ _ _, hb1⟩
 have d1 : decide (k < 0) = false := decide_eq_false h0
 by_cases h1 : (l.length : Int) ≤ k
 ·
  have hgj : fwo l k = ([], false) := by unfold fwo; rw [if_neg (fun h => by omega)]
  rw [hgj]
  have d2 : decide ((l.length : Int) ≤ k) = true := decide_eq_true h1
  clear hgj h0 h1
  go_enter Try.func25, Try.ntmps25
  go_wp2_with (go_at_call 71; refine (impl_FormulasValid.calls kk _ _ l true _ HR0.out HC0.out HV.out).mono ?_; rintro e w1 ⟨rfl, hb1⟩)
  go_ret2
  exact ⟨_, rfl, Kd.S_nil _ _ _ _ _, hb1⟩
 have d2 : decide ((l.length : Int) ≤ k) = false := decide_eq_false h1
 have hgj : fwo l k = (l.eraseIdx k.toNat, true) := by unfold fwo; rw [if_pos ⟨hok, by omega, by omega⟩]
 rw [hgj]
 have h8 := fsOk_len hok
 have HOK := Aside0.mk hok
 have K2 := Aside0.mk (show 0 ≤ k ∧ k < (l.length : Int) from ⟨by omega, by omega⟩)
 clear hgj hok h0 h1
 go_enter Try.func25, Try.ntmps25
 go_wp2_with (first
  | (go_at_call 71; refine (impl_FormulasValid.calls kk _ _ l true _ HR0.out HC0.out HV.out).mono ?_; rintro e w1 ⟨rfl, hb1⟩)
  | ((with_reducible refine gate_dst (N := 22) rfl ?_); refine Kd.S_lit k55 _ 55 ?hg (N := 22) ?hd (xs := ([] : List S55)) (inner := []) (ok := fun _ => True) (okp := fun _ => True) ?hr (Reps.none _ _) (fun _ hk => hk) trivial (Below.refl _ _) (Nat.le_refl _) (by simp) ?_; (case hd => rfl); (case hg => rfl); (case hr => first | (go_simp; done) | (go_simp; rfl)); intro v2 w2 ho2 hb2 _ _; replace hb2 := below_step hb1 hb2; replace ho2 := Kd.S_lower ho2 hb1.size; have HO := Aside0.mk ho2; have HB := Aside0.mk hb2; clear ho2 hb2))
 go_loopg [6, 25] l.length (fun kq v6 v25 w' => ∃ (i : Nat) (J : List S55), v25 = .int .i64 (i : Int) ∧ Aside0 (kq = l.length - i ∧ i ≤ l.length ∧ J = (l.take i).eraseIdx k.toNat) ∧ Aside0 (Kd.S k55 55 w' w.heap.size (fun _ => True) v6 J) ∧ Aside0 (Below w.heap.size w w'))
 case atStart => exact ⟨0, [], rfl, ⟨by simp⟩, ⟨by (with_reducible repeat (first | apply Kd.S_alloc | apply Kd.S_drewN | apply Kd.S_drew)); exact HO.out⟩, ⟨by repeat (first | (with_reducible first | exact HB.out | apply below_alloc | apply pw_below_drewN | apply below_drew1) | exact HB.out)⟩⟩
 case round =>
  clear HO HB
  obtain ⟨i, J, rfl, HX, HO, HB⟩ := hrel
  obtain ⟨hkq, hil, hJ⟩ := HX.out
  by_cases hi : (i : Int) < (l.length : Int)
  ·
   have dd : decide ((i : Int) < (l.length : Int)) = true := decide_eq_true hi
   have p0 : (0 : Int) ≤ (i : Int) := by omega
   obtain ⟨ad, A2, c2, e1, ux0, ux1, hc2, hr2⟩ := at_T55 HR0.out (i : Int) p0 hi
   subst e1
   have bX := (fOk_len (fsOk_all HOK.out _ (rd_mem (k := (i : Int)) p0 hi))).2
   have bi : i ≤ 1000000000000 := by omega
   have hJl : J.length ≤ 8 := by rw [hJ]; exact Nat.le_trans (List.length_eraseIdx_le _ _) (by rw [List.length_take]; omega)
   obtain ⟨X, hX⟩ : ∃ X, X = rd_T55 l (i : Int) := ⟨_, rfl⟩
   rw [← hX] at ux0 ux1 hc2 hr2 bX
   have hnx : Aside0 ((¬ (i : Int) = k → J ++ [⟨X.f0, X.f1⟩] = (l.take (i + 1)).eraseIdx k.toNat) ∧ ((i : Int) = k → J = (l.take (i + 1)).eraseIdx k.toNat)) := by
    have hK := K2.out
    refine ⟨fun h => ?_, fun h => ?_⟩
    ·
     rw [erase_step (by omega) _ (by omega), hJ, hX]; rfl
    ·
     have : k.toNat = i := by omega
     rw [hJ, this, erase_skip (by omega)]
   have HR2 := Aside0.mk hr2
   have HC2 := Aside0.mk hc2
   have hx0 := (HB.out.cell (World.block_lt_of_cell? w _ ux0)).trans ux0
   have hx1 := (HB.out.cell (World.block_lt_of_cell? w _ ux1)).trans ux1
   simp only [Int.toNat_natCast] at hx0 hx1
   have hin := eq_true hi
   have hip := eq_true p0
   have NX : Aside0 (l.length - (i + 1) < gk ∧ i + 1 ≤ l.length) := ⟨by omega, by omega⟩
   clear hJ hr2 hc2 hX ux0 ux1
   by_cases hik : (i : Int) = k
   ·
    have db : ((i : Int) != k) = false := bne_eq_false_iff_eq.mpr hik
    have HNX := Aside0.mk (hnx.out.2 hik)
    clear hik hnx
    go_wp2_with ((with_reducible refine gate_dst (N := 8) rfl ?_); refine box_event ?hg (N := 8) ?hd (cs := #[.slice none 0 0, .int .i64 0]) (t := 55) ?hr ?_; (case hd => rfl); (case hg => rfl); (case hr => first | (go_simp; done) | (go_simp; rfl)); intro gb hg w3 hbox hb3; have HO3 := Aside0.mk (Kd.S_below (Kd.S_elderB HO.out gb (by rw [hg]; first | exact Nat.le_refl _ | simp)) hb3); have HB3 := Aside0.mk (below_step HB.out hb3); have GW := Aside0.mk (show w.heap.size ≤ gb from (by rw [hg]; exact HB.out.size)); have hcz0 : w3.cell? ⟨gb, 0, none⟩ = some (.slice none 0 0) := (blk_cell hbox 0).trans rfl; have hcz1 : w3.cell? ⟨gb, 1, none⟩ = some (.int .i64 0) := (blk_cell hbox 1).trans rfl; have hfz0 := blk_frozen hbox 0; have hfz1 := blk_frozen hbox 1; clear hg)
    go_roundg (l.length - (i + 1))
    case measure => exact NX.out.1
    case rel => exact ⟨i + 1, J, by simp, ⟨rfl, NX.out.2, HNX.out⟩, ⟨Kd.S_mono (Kd.S_far (p := ⟨gb, 1, none⟩) (Kd.S_far (p := ⟨gb, 0, none⟩) HO3.out (fun _ hk => hk.2) _) (fun _ hk => hk.2) _) (fun _ _ => trivial)⟩, ⟨below_set (below_set HB3.out GW.out) GW.out⟩⟩
   ·
    have db : ((i : Int) != k) = true := bne_iff_ne.mpr hik
    have HNX := Aside0.mk (hnx.out.1 hik)
    clear hik hnx
    go_upto_region 8 with ((with_reducible refine gate_dst (N := 8) rfl ?_); refine box_event ?hg (N := 8) ?hd (cs := #[.slice none 0 0, .int .i64 0]) (t := 55) ?hr ?_; (case hd => rfl); (case hg => rfl); (case hr => first | (go_simp; done) | (go_simp; rfl)); intro gb hg w3 hbox hb3; have HO3 := Aside0.mk (Kd.S_below (Kd.S_elderB HO.out gb (by rw [hg]; first | exact Nat.le_refl _ | simp)) hb3); have HB3 := Aside0.mk (below_step HB.out hb3); have GW := Aside0.mk (show w.heap.size ≤ gb from (by rw [hg]; exact HB.out.size)); have HBX := Aside0.mk hbox; have hcz0 : w3.cell? ⟨gb, 0, none⟩ = some (.slice none 0 0) := (blk_cell hbox 0).trans rfl; have hcz1 : w3.cell? ⟨gb, 1, none⟩ = some (.int .i64 0) := (blk_cell hbox 1).trans rfl; have hfz0 := blk_frozen hbox 0; have hfz1 := blk_frozen hbox 1; clear hg hbox)
    have HBK : Aside0 (((w3.setCell ⟨gb, 0, none⟩ (.slice A2 X.f0.length c2)).setCell ⟨gb, 1, none⟩ (.int .i64 X.f1)).heap[gb]? = some (.cells #[.slice A2 X.f0.length c2, .int .i64 X.f1] 55 (0, 0))) := ⟨blk_put (cs := #[.slice A2 X.f0.length c2, .int .i64 0]) (blk_put (cs := #[.slice none 0 0, .int .i64 0]) HBX.out 0 _ rfl) 1 _ rfl⟩
    have HO9 : Aside0 (Kd.S k55 55 ((w3.setCell ⟨gb, 0, none⟩ (.slice A2 X.f0.length c2)).setCell ⟨gb, 1, none⟩ (.int .i64 X.f1)) w.heap.size (fun _ => True) u6 J) := ⟨Kd.S_mono (Kd.S_far (p := ⟨gb, 1, none⟩) (Kd.S_far (p := ⟨gb, 0, none⟩) HO3.out (fun _ hk => hk.2) _) (fun _ hk => hk.2) _) (fun _ _ => trivial)⟩
    have HNE : some gb ≠ u6.ownBlock := fun he => (Kd.S_R HO3.out).1 gb he.symm |>.2 rfl
    have HB9 : Aside0 (Below w.heap.size w ((w3.setCell ⟨gb, 0, none⟩ (.slice A2 X.f0.length c2)).setCell ⟨gb, 1, none⟩ (.int .i64 X.f1))) := ⟨below_set (below_set HB3.out GW.out) GW.out⟩
    clear HO3 HB3 GW HBX hcz0 hcz1 hfz0 hfz1 hx0 hx1
    generalize ((w3.setCell ⟨gb, 0, none⟩ (.slice A2 X.f0.length c2)).setCell ⟨gb, 1, none⟩ (.int .i64 X.f1)) = w9 at HBK HO9 HB9 ⊢
    have hc0 : w9.cell? ⟨gb, 0, none⟩ = some (.slice A2 X.f0.length c2) := (blk_cell HBK.out 0).trans rfl
    have hc1 : w9.cell? ⟨gb, 1, none⟩ = some (.int .i64 X.f1) := (blk_cell HBK.out 1).trans rfl
    replace HO9 := Aside0.mk (Kd.S_drew HO9.out)
    replace HB9 := Aside0.mk (below_drew1 HB9.out)
    have hc0' : w9.drew.cell? ⟨gb, 0, none⟩ = some (.slice A2 X.f0.length c2) := hc0
    have hc1' : w9.drew.cell? ⟨gb, 1, none⟩ = some (.int .i64 X.f1) := hc1
    go_region_held3 (fun w' => w'.cell? ⟨gb, 0, none⟩ = some (.slice A2 X.f0.length c2) ∧ w'.cell? ⟨gb, 1, none⟩ = some (.int .i64 X.f1))
     (first
      | go_keep
      | (go_split_ands; exact ⟨pw_cell_below hb4 hc0', pw_cell_below hb4 hc1'⟩)
      | (go_split_ands; exact ⟨cell_grown' (pw_cell_below hb4 hc0') hg5 HNE, cell_grown' (pw_cell_below hb4 hc1') hg5 HNE⟩)
      | fail)
     (first
      | (go_at_call 76; refine (impl_copiedNumbers_calls X.f0 _ _ w9.drew (Kd.C_below HR2.out HB9.out) HC2.out (by omega)).mono ?_; rintro e w4 ⟨v4, rfl, ho4, hb4⟩; obtain ⟨A4, c4, rfl⟩ := Kd.R_slice ho4)
      | (refine Kd.S_append_step k55 (w0 := w) (W := w4) w.heap.size (by rfl) (.tmp 33) (.tmp 40) 38 55 (.agg #[(.slice none 0 0), (.int .i64 0)]) 32 (by rfl) Try.underlying38 info55 rfl (by decide) (by omega) _ J ⟨X.f0, X.f1⟩ [.slice A4 X.f0.length c4, .int .i64 X.f1] (fun _ => True) (fun k => w9.drew.heap.size ≤ k) (by rfl) (by rfl) (k55_mkM _ _ _ ⟨X.f0, X.f1⟩ (Kd.R_mono (Kd.R_lower (Kd.R_bound ho4) HB9.out.size) (fun _ hk => hk.2.1))) (fun k hk => ⟨trivial, fun he => absurd (Kd.S_lt HO9.out k he.symm) (by omega)⟩) (fun _ _ => trivial) (Kd.S_mono (Kd.S_old HO9.out hb4) (fun k hk => ⟨trivial, by have := hk.2; omega⟩)) (below_step HB9.out hb4) (Nat.le_trans HB9.out.size hb4.size) (by omega) ?_; intro v5 w5 ho5 hb5 hg5 _)
      | fail)
    go_wp2
    go_roundg (l.length - (i + 1))
    case measure => exact NX.out.1
    case rel => exact ⟨i + 1, _, by simp, ⟨rfl, NX.out.2, HNX.out⟩, ⟨ho5⟩, ⟨hb5⟩⟩
  ·
   have dd : decide ((i : Int) < (l.length : Int)) = false := decide_eq_false hi
   obtain rfl : i = l.length := by omega
   rw [List.take_length] at hJ
   subst hJ
   go_wp2
   go_ret2
   exact ⟨_, rfl, HO.out, HB.out⟩

end Go.Proofs.Ytnemcppllfmioaa.Pure
namespace Go.Proofs.Ytnemcppllfmioaa.PFnReadUsed
set_option linter.unusedVariables false
set_option linter.unusedSimpArgs false
open Go Go.RowKit Go.Proofs.Ytnemcppllfmioaa.Pure Go.Proofs.YtnemcppllfmioaaW.PrintWords Go.Proofs.YtnemcppllfmioaaW.PrintLast Go.Proofs.YtnemcppllfmioaaW.PrintMore
def impl_FormulasWithout.f (l0 : List S55) (a1 : Int) : Option (List S55 × Bool) := if FormulaSz l0 ≤ 1000000000000 then some (fwo l0 a1) else none
theorem impl_FormulasWithout.calls (A0 : Option Addr) (c0 : Nat) (l0 : List S55) (a1 : Int) (r1 : List S55) (r2 : Bool) (w : World) (hr0 : Kd.C k55 w A0 l0.length l0) (hc0 : l0.length ≤ c0) (h : impl_FormulasWithout.f l0 a1 = some (r1, r2)) :
 Calls Try.prog 25 #[.slice A0 l0.length c0, .int .i64 a1] w fun e w' => ∃ v0_ : Value, e = .returned (.tuple #[v0_, .bool r2]) ∧ Kd.S k55 55 w' w.heap.size (fun _ => True) v0_ r1 ∧ Below w.heap.size w w' := by
 unfold impl_FormulasWithout.f at h; split at h
 ·
  rename_i hh
  injection h with h
  have := impl_FormulasWithout_calls l0 a1 A0 c0 w hr0 hc0 hh; rw [h] at this; exact this
 ·
  cases h

end Go.Proofs.Ytnemcppllfmioaa.PFnReadUsed
namespace Go.Proofs.Ytnemcppllfmioaa.PFnReadUsed
set_option linter.unusedVariables false
set_option linter.unusedSimpArgs false
open Go Go.RowKit Go.Proofs.Ytnemcppllfmioaa.Pure Go.Proofs.YtnemcppllfmioaaW.PrintWords Go.Proofs.YtnemcppllfmioaaW.PrintLast Go.Proofs.YtnemcppllfmioaaW.PrintMore
def impl_FormulasMany.f (l0 : List S55) (l1 : List Int) : Option (Int) := if (∀ x ∈ l0, x.f0.length ≤ 1000000000000) ∧ l1.length ≤ 1000000000000 then some (fMany l0 l1) else none
theorem impl_FormulasMany.calls (A0 : Option Addr) (c0 : Nat) (l0 : List S55) (A1 : Option Addr) (c1 : Nat) (l1 : List Int) (r : Int) (w : World) (hr0 : Kd.C k55 w A0 l0.length l0) (hc0 : l0.length ≤ c0) (hr1 : Kd.C (Kd.int .i64) w A1 l1.length l1) (hc1 : l1.length ≤ c1) (h : impl_FormulasMany.f l0 l1 = some r) :
 Calls Try.prog 27 #[.slice A0 l0.length c0, .slice A1 l1.length c1] w fun e w' => e = .returned (.int .i64 r) ∧ Below w.heap.size w w' := by
 unfold impl_FormulasMany.f at h; split at h
 ·
  rename_i hh
  cases h; exact impl_FormulasMany_calls l0 l1 A0 c0 A1 c1 w hr0 hc0 hr1 hc1 hh.1 hh.2
 ·
  cases h

end Go.Proofs.Ytnemcppllfmioaa.PFnReadUsed
namespace Go.Proofs.Ytnemcppllfmioaa.PFnReadUsed
set_option linter.unusedVariables false
set_option linter.unusedSimpArgs false
open Go Go.RowKit Go.Proofs.Ytnemcppllfmioaa.Pure Go.Proofs.YtnemcppllfmioaaW.PrintWords Go.Proofs.YtnemcppllfmioaaW.PrintLast Go.Proofs.YtnemcppllfmioaaW.PrintMore
def impl_FormulasBest.f (l0 : List S55) (l1 : List Int) : Option (List Int × Bool) := if (∀ x ∈ l0, x.f0.length ≤ 1000000000000) ∧ l1.length ≤ 1000000000000 then some (fBest l0 l1) else none
theorem impl_FormulasBest.calls (A0 : Option Addr) (c0 : Nat) (l0 : List S55) (A1 : Option Addr) (c1 : Nat) (l1 : List Int) (r1 : List Int) (r2 : Bool) (w : World) (hr0 : Kd.C k55 w A0 l0.length l0) (hc0 : l0.length ≤ c0) (hr1 : Kd.C (Kd.int .i64) w A1 l1.length l1) (hc1 : l1.length ≤ c1) (h : impl_FormulasBest.f l0 l1 = some (r1, r2)) :
 Calls Try.prog 29 #[.slice A0 l0.length c0, .slice A1 l1.length c1] w fun e w' => ∃ v0_ : Value, e = .returned (.tuple #[v0_, .bool r2]) ∧ Kd.R (Kd.int .i64) 3 w' w.heap.size (fun _ => True) v0_ r1 ∧ Below w.heap.size w w' := by
 unfold impl_FormulasBest.f at h; split at h
 ·
  rename_i hh
  injection h with h
  have := impl_FormulasBest_calls l0 l1 A0 c0 A1 c1 w hr0 hc0 hr1 hc1 hh.1 hh.2; rw [h] at this; exact this
 ·
  cases h

end Go.Proofs.Ytnemcppllfmioaa.PFnReadUsed
namespace Go.Proofs.Ytnemcppllfmioaa.PFnReadUsed
open Go.RowKit Go.Proofs.YtnemcppllfmioaaW.PrintWords Go.Proofs.YtnemcppllfmioaaW.PrintLast Go.Proofs.YtnemcppllfmioaaW.PrintMore
attribute [local go_sem] max2_int min2_int max_two min_two max_three min_three max_four min_four   -- for this text's walks alone
set_option linter.unusedVariables false
set_option linter.unusedSimpArgs false

def spec_l6fSteps.l0 : Nat → List Int → Int → Option (Bool)
 | 0, _, _ => none
 | k + 1, x0, x3 => if x3 < (x0.length : Int) then (if 0 ≤ x3 then ((spec_l6In.f (rd x0 x3) (-20) 20).bind fun t155 => (if t155 = true then (spec_l6fSteps.l0 k x0 (wrap64 (x3 + 1))) else (some false))) else (none)) else (some (decide ((x0.length : Int) < 24)))
def spec_l6fSteps.f (k : Nat) (l0 : List Int) : Option (Bool) := spec_l6fSteps.l0 k l0 0
set_option maxHeartbeats 8000000 in
set_option maxRecDepth 100000 in
theorem spec_l6fSteps.calls (k : Nat) (A0 : Option Addr) (c0 : Nat) (l0 : List Int) (r : Bool) (w : World) (hr0 : Kd.C (Kd.int .i64) w A0 l0.length l0) (hc0 : l0.length ≤ c0) (h : spec_l6fSteps.f k l0 = some r) :
 Calls Try.prog 107 #[.slice A0 l0.length c0] w fun e w' => e = .returned (.bool r) ∧ Drawn0 w w' := by
 have HR0 := Aside0.mk hr0; have HC0 := Aside0.mk hc0; clear hr0 hc0; have H : (spec_l6fSteps.l0 k l0 0) = some r := h; clear h; have H' := Aside0.mk H; clear H; go_enter Try.func107, Try.ntmps107
 go_wp2; go_loopg [3] k (fun kq v3 w' => ∃ (x3_1 : Int), v3 = .int .i64 x3_1 ∧ Aside0 (spec_l6fSteps.l0 kq l0 x3_1 = some r) ∧ Aside0 (kq ≤ k) ∧ Drawn0 w w')
 case atStart => exact ⟨(0), (by first | rfl | (simp; done) | (simp [*]; done)), H', ⟨Nat.le_refl _⟩, by repeat (first | exact Drawn0.refl _ | apply Drawn0.step)⟩
 case round =>
  clear H'; try clear c1
  obtain ⟨x3_1, rfl, HA, HK1, ⟨m1, rfl⟩⟩ := hrel; cases gk with
  | zero => exact absurd HA.out (by simp [spec_l6fSteps.l0])
  | succ k1 =>
   have H := HA.out; clear HA; simp only [spec_l6fSteps.l0] at H; by_cases c2 : x3_1 < (l0.length : Int)
   ·
    rw [if_pos c2] at H; have c2b0 : decide (x3_1 < (l0.length : Int)) = true := decide_eq_true c2; clear c2; by_cases c3 : 0 ≤ x3_1
    ·
     rw [if_pos c3] at H; have c3b0 : decide (0 ≤ x3_1) = true := decide_eq_true c3; clear c3; replace H := Option.bind_eq_some_iff.mp H; obtain ⟨t155, A40, H⟩ := H; replace H : (if t155 = true then (spec_l6fSteps.l0 k1 l0 (wrap64 (x3_1 + 1))) else (some false)) = some r := H; have A4 := Aside0.mk A40; clear A40; by_cases c5 : t155 = true
     ·
      subst c5; have H1 : (spec_l6fSteps.l0 k1 l0 (wrap64 (x3_1 + 1))) = some r := by rw [if_pos rfl] at H; exact H
      clear H; have H := H1; clear H1; have H' := Aside0.mk H; clear H; have p154 : 0 ≤ (x3_1 : Int) := of_decide_eq_true (by first | (with_reducible assumption) | assumption); have q154 : x3_1 < (l0.length : Int) := of_decide_eq_true (by first | (with_reducible assumption) | assumption); obtain ⟨ad154, e154, hx154_0⟩ := Kd.at_int HR0.out x3_1 p154 q154; cases e154; replace p154 := eq_true p154; replace q154 := eq_true q154; go_wp2_with (first | ((with_reducible refine gate_callee (f := 62) rfl ?_); refine goesL_ (some 14) rfl rfl Try.func62 (by kernel_rfl) rfl #[.int .i64 (rd l0 x3_1), .int .i64 (-20), .int .i64 20] rfl (by (try simp only [List.map_toArray, List.map_cons, List.map_nil]); first | done | rfl | (simp only [List.length_drop, List.length_take]; rfl)) ?_; (with_reducible refine (spec_l6In.calls (rd l0 x3_1) (-20) 20 true _ A4.out).mono ?_); rintro e w' ⟨rfl, ⟨nd, rfl⟩⟩; refine ⟨_, rfl, ?_⟩))
      go_roundg k1
      case measure => have := HK1.out; omega
      case rel => exact ⟨(wrap64 (x3_1 + 1)), (by first | rfl | (simp; done) | (simp [*]; done)), H', ⟨by have := HK1.out; omega⟩, by repeat (first | exact Drawn0.refl _ | apply Drawn0.step)⟩
     ·
      replace c5 := Bool.eq_false_iff.mpr c5; subst c5; have H1 : (some false) = some r := by rw [if_neg (show ¬ (false = true) by decide)] at H; exact H
      clear H; have H := H1; clear H1; obtain rfl := Option.some.inj H; have p154 : 0 ≤ (x3_1 : Int) := of_decide_eq_true (by first | (with_reducible assumption) | assumption); have q154 : x3_1 < (l0.length : Int) := of_decide_eq_true (by first | (with_reducible assumption) | assumption); obtain ⟨ad154, e154, hx154_0⟩ := Kd.at_int HR0.out x3_1 p154 q154; cases e154; replace p154 := eq_true p154; replace q154 := eq_true q154; go_wp2_with (first | ((with_reducible refine gate_callee (f := 62) rfl ?_); refine goesL_ (some 14) rfl rfl Try.func62 (by kernel_rfl) rfl #[.int .i64 (rd l0 x3_1), .int .i64 (-20), .int .i64 20] rfl (by (try simp only [List.map_toArray, List.map_cons, List.map_nil]); first | done | rfl | (simp only [List.length_drop, List.length_take]; rfl)) ?_; (with_reducible refine (spec_l6In.calls (rd l0 x3_1) (-20) 20 false _ A4.out).mono ?_); rintro e w' ⟨rfl, ⟨nd, rfl⟩⟩; refine ⟨_, rfl, ?_⟩))
      go_ret
      exact ⟨by first | rfl | (simp; done) | (simp [*]; done), by repeat (first | exact Drawn0.refl _ | apply Drawn0.step)⟩
    ·
     rw [if_neg c3] at H; exact absurd H (by simp)
   ·
    rw [if_neg c2] at H; have c2b0 : decide (x3_1 < (l0.length : Int)) = false := decide_eq_false c2; clear c2; obtain rfl := Option.some.inj H; go_wp2; go_ret
    exact ⟨by first | rfl | (simp; done) | (simp [*]; done), by repeat (first | exact Drawn0.refl _ | apply Drawn0.step)⟩

end Go.Proofs.Ytnemcppllfmioaa.PFnReadUsed
namespace Go.Proofs.Ytnemcppllfmioaa.PFnReadUsed
open Go.RowKit Go.Proofs.YtnemcppllfmioaaW.PrintWords Go.Proofs.YtnemcppllfmioaaW.PrintLast Go.Proofs.YtnemcppllfmioaaW.PrintMore
attribute [local go_sem] max2_int min2_int max_two min_two max_three min_three max_four min_four   -- for this text's walks alone
set_option linter.unusedVariables false
set_option linter.unusedSimpArgs false

def spec_l6fOk.f (k : Nat) (l0 : List (S55)) (l1 : List Int) : Option (Bool) := (spec_FormulasValid.f k l0).bind fun t156 => (if t156 = true then ((spec_l6fSteps.f k l1).bind fun t157 => (some t157)) else (some false))
set_option maxHeartbeats 8000000 in
set_option maxRecDepth 100000 in
theorem spec_l6fOk.calls (k : Nat) (A0 : Option Addr) (c0 : Nat) (l0 : List (S55)) (A1 : Option Addr) (c1 : Nat) (l1 : List Int) (r : Bool) (w : World) (hr0 : Kd.C k55 w A0 l0.length l0) (hc0 : l0.length ≤ c0) (hr1 : Kd.C (Kd.int .i64) w A1 l1.length l1) (hc1 : l1.length ≤ c1) (h : spec_l6fOk.f k l0 l1 = some r) :
 Calls Try.prog 81 #[.slice A0 l0.length c0, .slice A1 l1.length c1] w fun e w' => e = .returned (.bool r) ∧ Below w.heap.size w w' := by
 have HR0 := Aside0.mk hr0; have HC0 := Aside0.mk hc0; clear hr0 hc0; have HR1 := Aside0.mk hr1; have HC1 := Aside0.mk hc1; clear hr1 hc1; have HB := Aside0.mk (Below.refl w.heap.size w); have H : ((spec_FormulasValid.f k l0).bind fun t156 => (if t156 = true then ((spec_l6fSteps.f k l1).bind fun t157 => (some t157)) else (some false))) = some r := h; clear h; replace H := Option.bind_eq_some_iff.mp H; obtain ⟨t156, A30, H⟩ := H; replace H : (if t156 = true then ((spec_l6fSteps.f k l1).bind fun t157 => (some t157)) else (some false)) = some r := H; have A3 := Aside0.mk A30; clear A30; by_cases c4 : t156 = true
 ·
  subst c4; have H1 : ((spec_l6fSteps.f k l1).bind fun t157 => (some t157)) = some r := by rw [if_pos rfl] at H; exact H
  clear H; have H := H1; clear H1; replace H := Option.bind_eq_some_iff.mp H; obtain ⟨t157, A50, H⟩ := H; replace H : (some t157) = some r := H; have A5 := Aside0.mk A50; clear A50; obtain rfl := Option.some.inj H; go_enter Try.func81, Try.ntmps81
  go_wp2_with (first | ((with_reducible refine gate_callee (f := 68) rfl ?_); refine goesL_ (some 6) rfl rfl Try.func68 (by kernel_rfl) rfl #[.slice A0 l0.length c0] rfl (by (try simp only [List.map_toArray, List.map_cons, List.map_nil]); first | done | rfl | (simp only [List.length_drop, List.length_take]; rfl)) ?_; (with_reducible refine (spec_FormulasValid.calls k _ _ l0 true _ ?side1 ?side2 A3.out).mono ?_); (case side1 => repeat (first | exact HR0.out | (with_reducible refine Kd.C_alloc ?_ _) | (with_reducible refine Kd.C_drewN ?_ _) | (with_reducible refine Kd.C_drew ?_))); (case side2 => exact HC0.out); rintro e w6 ⟨rfl, hb⟩; refine ⟨_, rfl, ?_⟩; have n0_ := Aside0.mk (below_step (by repeat (first | (with_reducible first | exact HB.out | apply below_alloc | apply pw_below_drewN | apply below_drew1) | exact HB.out)) hb); clear HB; have HB := n0_; clear n0_; (try clear hb); (try clear hb2); (try clear hk); (try clear hi)) | (go_at_call 107; (with_reducible refine (spec_l6fSteps.calls k _ _ l1 t157 _ ?side1 ?side2 A5.out).mono ?_); (case side1 => repeat (first | exact (Kd.C_below HR1.out HB.out) | (with_reducible refine Kd.C_alloc ?_ _) | (with_reducible refine Kd.C_drewN ?_ _) | (with_reducible refine Kd.C_drew ?_))); (case side2 => exact HC1.out); rintro e w' ⟨rfl, ⟨nd, rfl⟩⟩))
  go_ret
  exact ⟨by first | rfl | (simp [errW_none, errW_some] <;> rfl) | (simp [*, errW_none, errW_some] <;> rfl), by repeat (first | (with_reducible first | exact HB.out | apply below_alloc | apply pw_below_drewN | apply below_drew1) | exact HB.out)⟩
 ·
  replace c4 := Bool.eq_false_iff.mpr c4; subst c4; have H1 : (some false) = some r := by rw [if_neg (show ¬ (false = true) by decide)] at H; exact H
  clear H; have H := H1; clear H1; obtain rfl := Option.some.inj H; go_enter Try.func81, Try.ntmps81
  go_wp2_with (first | ((with_reducible refine gate_callee (f := 68) rfl ?_); refine goesL_ (some 6) rfl rfl Try.func68 (by kernel_rfl) rfl #[.slice A0 l0.length c0] rfl (by (try simp only [List.map_toArray, List.map_cons, List.map_nil]); first | done | rfl | (simp only [List.length_drop, List.length_take]; rfl)) ?_; (with_reducible refine (spec_FormulasValid.calls k _ _ l0 false _ ?side1 ?side2 A3.out).mono ?_); (case side1 => repeat (first | exact HR0.out | (with_reducible refine Kd.C_alloc ?_ _) | (with_reducible refine Kd.C_drewN ?_ _) | (with_reducible refine Kd.C_drew ?_))); (case side2 => exact HC0.out); rintro e w7 ⟨rfl, hb⟩; refine ⟨_, rfl, ?_⟩; have n0_ := Aside0.mk (below_step (by repeat (first | (with_reducible first | exact HB.out | apply below_alloc | apply pw_below_drewN | apply below_drew1) | exact HB.out)) hb); clear HB; have HB := n0_; clear n0_; (try clear hb); (try clear hb2); (try clear hk); (try clear hi)))
  go_ret
  exact ⟨by first | rfl | (simp [errW_none, errW_some] <;> rfl) | (simp [*, errW_none, errW_some] <;> rfl), by repeat (first | (with_reducible first | exact HB.out | apply below_alloc | apply pw_below_drewN | apply below_drew1) | exact HB.out)⟩

end Go.Proofs.Ytnemcppllfmioaa.PFnReadUsed
namespace Go.Proofs.Ytnemcppllfmioaa.PFnReadUsed
open Go.RowKit Go.Proofs.YtnemcppllfmioaaW.PrintWords Go.Proofs.YtnemcppllfmioaaW.PrintLast Go.Proofs.YtnemcppllfmioaaW.PrintMore
attribute [local go_sem] max2_int min2_int max_two min_two max_three min_three max_four min_four   -- for this text's walks alone
set_option linter.unusedVariables false
set_option linter.unusedSimpArgs false

def spec_l6fAt.f (k : Nat) (l0_0 : List Int) (a0_1 : Int) (l1 : List Int) (a2 : Int) : Option (Bool) := if (wrap64 (a2 + (l0_0.length : Int))) ≤ (l1.length : Int) then (if 0 ≤ a2 then (if a2 ≤ (wrap64 (a2 + (l0_0.length : Int))) then ((spec_l2Same.f k ((l1.take ((wrap64 (a2 + (l0_0.length : Int))) : Int).toNat).drop (a2 : Int).toNat) l0_0).bind fun t160 => (some t160)) else (none)) else (none)) else (some false)
set_option maxHeartbeats 8000000 in
set_option maxRecDepth 100000 in
theorem spec_l6fAt.calls (k : Nat) (A0_0 : Option Addr) (c0_0 : Nat) (l0_0 : List Int) (a0_1 : Int) (A1 : Option Addr) (c1 : Nat) (l1 : List Int) (a2 : Int) (r : Bool) (w : World) (hr0_0 : Kd.C (Kd.int .i64) w A0_0 l0_0.length l0_0) (hc0_0 : l0_0.length ≤ c0_0) (hr1 : Kd.C (Kd.int .i64) w A1 l1.length l1) (hc1 : l1.length ≤ c1) (h : spec_l6fAt.f k l0_0 a0_1 l1 a2 = some r) :
 Calls Try.prog 83 #[.agg #[.slice A0_0 l0_0.length c0_0, .int .i64 a0_1], .slice A1 l1.length c1, .int .i64 a2] w fun e w' => e = .returned (.bool r) ∧ Below w.heap.size w w' := by
 have hu55 := Try.underlying55; have HR0_0 := Aside0.mk hr0_0; have HC0_0 := Aside0.mk hc0_0; clear hr0_0 hc0_0; have HR1 := Aside0.mk hr1; have HC1 := Aside0.mk hc1; clear hr1 hc1; have HB := Aside0.mk (Below.refl w.heap.size w); have H : (if (wrap64 (a2 + (l0_0.length : Int))) ≤ (l1.length : Int) then (if 0 ≤ a2 then (if a2 ≤ (wrap64 (a2 + (l0_0.length : Int))) then ((spec_l2Same.f k ((l1.take ((wrap64 (a2 + (l0_0.length : Int))) : Int).toNat).drop (a2 : Int).toNat) l0_0).bind fun t160 => (some t160)) else (none)) else (none)) else (some false)) = some r := h; clear h; by_cases c4 : (wrap64 (a2 + (l0_0.length : Int))) ≤ (l1.length : Int)
 ·
  rw [if_pos c4] at H; have c4b0 : decide ((wrap64 (a2 + (l0_0.length : Int))) ≤ (l1.length : Int)) = true := decide_eq_true c4; clear c4; by_cases c5 : 0 ≤ a2
  ·
   rw [if_pos c5] at H; have c5b0 := eq_true c5; have c5b1 : decide (0 ≤ a2) = true := decide_eq_true c5; clear c5; by_cases c6 : a2 ≤ (wrap64 (a2 + (l0_0.length : Int)))
   ·
    rw [if_pos c6] at H; have c6b0 := eq_true c6; have c6b1 : decide (a2 ≤ (wrap64 (a2 + (l0_0.length : Int)))) = true := decide_eq_true c6; have c7b0 := eq_true (of_decide_eq_true (by first | (with_reducible assumption) | assumption) : (wrap64 (a2 + (l0_0.length : Int))) ≤ (l1.length : Int)); replace H := Option.bind_eq_some_iff.mp H; obtain ⟨t160, A80, H⟩ := H; replace H : (some t160) = some r := H; have A8 := Aside0.mk A80; clear A80; obtain rfl := Option.some.inj H; go_enter Try.func83, Try.ntmps83
    go_wp2_with (first | ((with_reducible refine gate_dst (N := 3) rfl ?_); refine box_event ?hg (N := 3) ?hd (cs := #[.slice A0_0 l0_0.length c0_0, .int .i64 a0_1]) (t := 55) ?hr ?_; (case hd => rfl); (case hg => rfl); (case hr => first | (go_simp; done) | (go_simp; rfl)); intro gb158 hg w9 hbox hb; have n0_ := Aside0.mk (below_step (by repeat (first | (with_reducible first | exact HB.out | apply below_alloc | apply pw_below_drewN | apply below_drew1) | exact HB.out)) hb); have n1_ := Aside0.mk (hbox); have n2_ := Aside0.mk ((by rw [hg]; exact (below_size (by repeat (first | (with_reducible first | exact HB.out | apply below_alloc | apply pw_below_drewN | apply below_drew1) | exact HB.out))) : w.heap.size ≤ gb158)); have n3_ := Aside0.mk ((by rw [hg]; exact (below_size (by repeat (first | (with_reducible first | exact HB.out | apply below_alloc | apply pw_below_drewN | apply below_drew1) | exact HB.out))) : w.heap.size ≤ gb158)); clear HB; have HB := n0_; have BK158 := n1_; have GW158 := n2_; have GE158 := n3_; clear n0_ n1_ n2_ n3_; clear hb hbox hg; have hcz10_0 : w9.cell? ⟨gb158, 0, none⟩ = some (.slice A0_0 l0_0.length c0_0) := (blk_cell BK158.out 0).trans rfl; have hcz10_1 : w9.cell? ⟨gb158, 1, none⟩ = some (.int .i64 a0_1) := (blk_cell BK158.out 1).trans rfl; have hfz10_0 := blk_frozen BK158.out 0; have hfz10_1 := blk_frozen BK158.out 1; obtain ⟨i011, hi011, _, hsz11, _⟩ := info_parts info3; obtain ⟨A11, hcut11, hA11, hC11⟩ := print_mid_of (P := Try.prog) (Value.int .i64) 0 46 3 .i64 .i64 Try.underlying46 hi011 hsz11 A1 c1 l1 a2 (wrap64 (a2 + (l0_0.length : Int))) (of_decide_eq_true (by first | (with_reducible assumption) | assumption)) (by first | omega | exact of_decide_eq_true (by first | (with_reducible assumption) | assumption)) (of_decide_eq_true (by first | (with_reducible assumption) | assumption)) HC1.out; have HR159 := Aside0.mk (Kd.C_of_reads (h1 := fun _ => rfl) (hA11 _ (Kd.reads_of_C HR1.out))); have HC159 := Aside0.mk hC11; clear hA11 hC11 hi011 hsz11; generalize ((l1.take ((wrap64 (a2 + (l0_0.length : Int))) : Int).toNat).drop (a2 : Int).toNat) = TT11 at hcut11 HR159 HC159 A8) | (go_at_call 102; (with_reducible refine (spec_l2Same.calls k _ _ TT11 _ _ l0_0 t160 _ ?side1 ?side2 ?side3 ?side4 A8.out).mono ?_); (case side1 => repeat (first | exact (Kd.C_below HR159.out HB.out) | (with_reducible refine Kd.C_alloc ?_ _) | (with_reducible refine Kd.C_drewN ?_ _) | (with_reducible refine Kd.C_drew ?_))); (case side2 => exact HC159.out); (case side3 => repeat (first | exact (Kd.C_below HR0_0.out HB.out) | (with_reducible refine Kd.C_alloc ?_ _) | (with_reducible refine Kd.C_drewN ?_ _) | (with_reducible refine Kd.C_drew ?_))); (case side4 => exact HC0_0.out); rintro e w' ⟨rfl, ⟨nd, rfl⟩⟩; (try first | exact ⟨rfl, _, World.drewN_drewN _ _ _⟩ | exact ⟨rfl, _, Eq.trans (World.drewN_drewN _ _ _) (congrArg (World.drewN _) (Nat.add_assoc _ _ _))⟩)))
    repeat (go_quiet (first | ((with_reducible refine gate_dst (N := 3) rfl ?_); refine box_event ?hg (N := 3) ?hd (cs := #[.slice A0_0 l0_0.length c0_0, .int .i64 a0_1]) (t := 55) ?hr ?_; (case hd => rfl); (case hg => rfl); (case hr => first | (go_simp; done) | (go_simp; rfl)); intro gb158 hg w9 hbox hb; have n0_ := Aside0.mk (below_step (by repeat (first | (with_reducible first | exact HB.out | apply below_alloc | apply pw_below_drewN | apply below_drew1) | exact HB.out)) hb); have n1_ := Aside0.mk (hbox); have n2_ := Aside0.mk ((by rw [hg]; exact (below_size (by repeat (first | (with_reducible first | exact HB.out | apply below_alloc | apply pw_below_drewN | apply below_drew1) | exact HB.out))) : w.heap.size ≤ gb158)); have n3_ := Aside0.mk ((by rw [hg]; exact (below_size (by repeat (first | (with_reducible first | exact HB.out | apply below_alloc | apply pw_below_drewN | apply below_drew1) | exact HB.out))) : w.heap.size ≤ gb158)); clear HB; have HB := n0_; have BK158 := n1_; have GW158 := n2_; have GE158 := n3_; clear n0_ n1_ n2_ n3_; clear hb hbox hg; have hcz10_0 : w9.cell? ⟨gb158, 0, none⟩ = some (.slice A0_0 l0_0.length c0_0) := (blk_cell BK158.out 0).trans rfl; have hcz10_1 : w9.cell? ⟨gb158, 1, none⟩ = some (.int .i64 a0_1) := (blk_cell BK158.out 1).trans rfl; have hfz10_0 := blk_frozen BK158.out 0; have hfz10_1 := blk_frozen BK158.out 1; obtain ⟨i011, hi011, _, hsz11, _⟩ := info_parts info3; obtain ⟨A11, hcut11, hA11, hC11⟩ := print_mid_of (P := Try.prog) (Value.int .i64) 0 46 3 .i64 .i64 Try.underlying46 hi011 hsz11 A1 c1 l1 a2 (wrap64 (a2 + (l0_0.length : Int))) (of_decide_eq_true (by first | (with_reducible assumption) | assumption)) (by first | omega | exact of_decide_eq_true (by first | (with_reducible assumption) | assumption)) (of_decide_eq_true (by first | (with_reducible assumption) | assumption)) HC1.out; have HR159 := Aside0.mk (Kd.C_of_reads (h1 := fun _ => rfl) (hA11 _ (Kd.reads_of_C HR1.out))); have HC159 := Aside0.mk hC11; clear hA11 hC11 hi011 hsz11; generalize ((l1.take ((wrap64 (a2 + (l0_0.length : Int))) : Int).toNat).drop (a2 : Int).toNat) = TT11 at hcut11 HR159 HC159 A8) | (go_at_call 102; (with_reducible refine (spec_l2Same.calls k _ _ TT11 _ _ l0_0 t160 _ ?side1 ?side2 ?side3 ?side4 A8.out).mono ?_); (case side1 => repeat (first | exact (Kd.C_below HR159.out HB.out) | (with_reducible refine Kd.C_alloc ?_ _) | (with_reducible refine Kd.C_drewN ?_ _) | (with_reducible refine Kd.C_drew ?_))); (case side2 => exact HC159.out); (case side3 => repeat (first | exact (Kd.C_below HR0_0.out HB.out) | (with_reducible refine Kd.C_alloc ?_ _) | (with_reducible refine Kd.C_drewN ?_ _) | (with_reducible refine Kd.C_drew ?_))); (case side4 => exact HC0_0.out); rintro e w' ⟨rfl, ⟨nd, rfl⟩⟩; (try first | exact ⟨rfl, _, World.drewN_drewN _ _ _⟩ | exact ⟨rfl, _, Eq.trans (World.drewN_drewN _ _ _) (congrArg (World.drewN _) (Nat.add_assoc _ _ _))⟩))); try go_wp2_with (first | ((with_reducible refine gate_dst (N := 3) rfl ?_); refine box_event ?hg (N := 3) ?hd (cs := #[.slice A0_0 l0_0.length c0_0, .int .i64 a0_1]) (t := 55) ?hr ?_; (case hd => rfl); (case hg => rfl); (case hr => first | (go_simp; done) | (go_simp; rfl)); intro gb158 hg w9 hbox hb; have n0_ := Aside0.mk (below_step (by repeat (first | (with_reducible first | exact HB.out | apply below_alloc | apply pw_below_drewN | apply below_drew1) | exact HB.out)) hb); have n1_ := Aside0.mk (hbox); have n2_ := Aside0.mk ((by rw [hg]; exact (below_size (by repeat (first | (with_reducible first | exact HB.out | apply below_alloc | apply pw_below_drewN | apply below_drew1) | exact HB.out))) : w.heap.size ≤ gb158)); have n3_ := Aside0.mk ((by rw [hg]; exact (below_size (by repeat (first | (with_reducible first | exact HB.out | apply below_alloc | apply pw_below_drewN | apply below_drew1) | exact HB.out))) : w.heap.size ≤ gb158)); clear HB; have HB := n0_; have BK158 := n1_; have GW158 := n2_; have GE158 := n3_; clear n0_ n1_ n2_ n3_; clear hb hbox hg; have hcz10_0 : w9.cell? ⟨gb158, 0, none⟩ = some (.slice A0_0 l0_0.length c0_0) := (blk_cell BK158.out 0).trans rfl; have hcz10_1 : w9.cell? ⟨gb158, 1, none⟩ = some (.int .i64 a0_1) := (blk_cell BK158.out 1).trans rfl; have hfz10_0 := blk_frozen BK158.out 0; have hfz10_1 := blk_frozen BK158.out 1; obtain ⟨i011, hi011, _, hsz11, _⟩ := info_parts info3; obtain ⟨A11, hcut11, hA11, hC11⟩ := print_mid_of (P := Try.prog) (Value.int .i64) 0 46 3 .i64 .i64 Try.underlying46 hi011 hsz11 A1 c1 l1 a2 (wrap64 (a2 + (l0_0.length : Int))) (of_decide_eq_true (by first | (with_reducible assumption) | assumption)) (by first | omega | exact of_decide_eq_true (by first | (with_reducible assumption) | assumption)) (of_decide_eq_true (by first | (with_reducible assumption) | assumption)) HC1.out; have HR159 := Aside0.mk (Kd.C_of_reads (h1 := fun _ => rfl) (hA11 _ (Kd.reads_of_C HR1.out))); have HC159 := Aside0.mk hC11; clear hA11 hC11 hi011 hsz11; generalize ((l1.take ((wrap64 (a2 + (l0_0.length : Int))) : Int).toNat).drop (a2 : Int).toNat) = TT11 at hcut11 HR159 HC159 A8) | (go_at_call 102; (with_reducible refine (spec_l2Same.calls k _ _ TT11 _ _ l0_0 t160 _ ?side1 ?side2 ?side3 ?side4 A8.out).mono ?_); (case side1 => repeat (first | exact (Kd.C_below HR159.out HB.out) | (with_reducible refine Kd.C_alloc ?_ _) | (with_reducible refine Kd.C_drewN ?_ _) | (with_reducible refine Kd.C_drew ?_))); (case side2 => exact HC159.out); (case side3 => repeat (first | exact (Kd.C_below HR0_0.out HB.out) | (with_reducible refine Kd.C_alloc ?_ _) | (with_reducible refine Kd.C_drewN ?_ _) | (with_reducible refine Kd.C_drew ?_))); (case side4 => exact HC0_0.out); rintro e w' ⟨rfl, ⟨nd, rfl⟩⟩; (try first | exact ⟨rfl, _, World.drewN_drewN _ _ _⟩ | exact ⟨rfl, _, Eq.trans (World.drewN_drewN _ _ _) (congrArg (World.drewN _) (Nat.add_assoc _ _ _))⟩))))
    go_ret
    exact ⟨by first | rfl | (simp [errW_none, errW_some] <;> rfl) | (simp [*, errW_none, errW_some] <;> rfl), by repeat (first | (with_reducible first | exact HB.out | apply below_alloc | apply pw_below_drewN | apply below_drew1 | refine below_set ?_ GE158.out) | exact HB.out)⟩
   ·
    rw [if_neg c6] at H; exact absurd H (by simp)
  ·
   rw [if_neg c5] at H; exact absurd H (by simp)
 ·
  rw [if_neg c4] at H; have c4b0 : decide ((wrap64 (a2 + (l0_0.length : Int))) ≤ (l1.length : Int)) = false := decide_eq_false c4; clear c4; obtain rfl := Option.some.inj H; go_enter Try.func83, Try.ntmps83
  go_wp2_with (first | ((with_reducible refine gate_dst (N := 3) rfl ?_); refine box_event ?hg (N := 3) ?hd (cs := #[.slice A0_0 l0_0.length c0_0, .int .i64 a0_1]) (t := 55) ?hr ?_; (case hd => rfl); (case hg => rfl); (case hr => first | (go_simp; done) | (go_simp; rfl)); intro gb158 hg w12 hbox hb; have n0_ := Aside0.mk (below_step (by repeat (first | (with_reducible first | exact HB.out | apply below_alloc | apply pw_below_drewN | apply below_drew1) | exact HB.out)) hb); have n1_ := Aside0.mk (hbox); have n2_ := Aside0.mk ((by rw [hg]; exact (below_size (by repeat (first | (with_reducible first | exact HB.out | apply below_alloc | apply pw_below_drewN | apply below_drew1) | exact HB.out))) : w.heap.size ≤ gb158)); have n3_ := Aside0.mk ((by rw [hg]; exact (below_size (by repeat (first | (with_reducible first | exact HB.out | apply below_alloc | apply pw_below_drewN | apply below_drew1) | exact HB.out))) : w.heap.size ≤ gb158)); clear HB; have HB := n0_; have BK158 := n1_; have GW158 := n2_; have GE158 := n3_; clear n0_ n1_ n2_ n3_; clear hb hbox hg; have hcz13_0 : w12.cell? ⟨gb158, 0, none⟩ = some (.slice A0_0 l0_0.length c0_0) := (blk_cell BK158.out 0).trans rfl; have hcz13_1 : w12.cell? ⟨gb158, 1, none⟩ = some (.int .i64 a0_1) := (blk_cell BK158.out 1).trans rfl; have hfz13_0 := blk_frozen BK158.out 0; have hfz13_1 := blk_frozen BK158.out 1))
  repeat (go_quiet (first | ((with_reducible refine gate_dst (N := 3) rfl ?_); refine box_event ?hg (N := 3) ?hd (cs := #[.slice A0_0 l0_0.length c0_0, .int .i64 a0_1]) (t := 55) ?hr ?_; (case hd => rfl); (case hg => rfl); (case hr => first | (go_simp; done) | (go_simp; rfl)); intro gb158 hg w12 hbox hb; have n0_ := Aside0.mk (below_step (by repeat (first | (with_reducible first | exact HB.out | apply below_alloc | apply pw_below_drewN | apply below_drew1) | exact HB.out)) hb); have n1_ := Aside0.mk (hbox); have n2_ := Aside0.mk ((by rw [hg]; exact (below_size (by repeat (first | (with_reducible first | exact HB.out | apply below_alloc | apply pw_below_drewN | apply below_drew1) | exact HB.out))) : w.heap.size ≤ gb158)); have n3_ := Aside0.mk ((by rw [hg]; exact (below_size (by repeat (first | (with_reducible first | exact HB.out | apply below_alloc | apply pw_below_drewN | apply below_drew1) | exact HB.out))) : w.heap.size ≤ gb158)); clear HB; have HB := n0_; have BK158 := n1_; have GW158 := n2_; have GE158 := n3_; clear n0_ n1_ n2_ n3_; clear hb hbox hg; have hcz13_0 : w12.cell? ⟨gb158, 0, none⟩ = some (.slice A0_0 l0_0.length c0_0) := (blk_cell BK158.out 0).trans rfl; have hcz13_1 : w12.cell? ⟨gb158, 1, none⟩ = some (.int .i64 a0_1) := (blk_cell BK158.out 1).trans rfl; have hfz13_0 := blk_frozen BK158.out 0; have hfz13_1 := blk_frozen BK158.out 1)); try go_wp2_with (first | ((with_reducible refine gate_dst (N := 3) rfl ?_); refine box_event ?hg (N := 3) ?hd (cs := #[.slice A0_0 l0_0.length c0_0, .int .i64 a0_1]) (t := 55) ?hr ?_; (case hd => rfl); (case hg => rfl); (case hr => first | (go_simp; done) | (go_simp; rfl)); intro gb158 hg w12 hbox hb; have n0_ := Aside0.mk (below_step (by repeat (first | (with_reducible first | exact HB.out | apply below_alloc | apply pw_below_drewN | apply below_drew1) | exact HB.out)) hb); have n1_ := Aside0.mk (hbox); have n2_ := Aside0.mk ((by rw [hg]; exact (below_size (by repeat (first | (with_reducible first | exact HB.out | apply below_alloc | apply pw_below_drewN | apply below_drew1) | exact HB.out))) : w.heap.size ≤ gb158)); have n3_ := Aside0.mk ((by rw [hg]; exact (below_size (by repeat (first | (with_reducible first | exact HB.out | apply below_alloc | apply pw_below_drewN | apply below_drew1) | exact HB.out))) : w.heap.size ≤ gb158)); clear HB; have HB := n0_; have BK158 := n1_; have GW158 := n2_; have GE158 := n3_; clear n0_ n1_ n2_ n3_; clear hb hbox hg; have hcz13_0 : w12.cell? ⟨gb158, 0, none⟩ = some (.slice A0_0 l0_0.length c0_0) := (blk_cell BK158.out 0).trans rfl; have hcz13_1 : w12.cell? ⟨gb158, 1, none⟩ = some (.int .i64 a0_1) := (blk_cell BK158.out 1).trans rfl; have hfz13_0 := blk_frozen BK158.out 0; have hfz13_1 := blk_frozen BK158.out 1)))
  go_ret
  exact ⟨by first | rfl | (simp [errW_none, errW_some] <;> rfl) | (simp [*, errW_none, errW_some] <;> rfl), by repeat (first | (with_reducible first | exact HB.out | apply below_alloc | apply pw_below_drewN | apply below_drew1 | refine below_set ?_ GE158.out) | exact HB.out)⟩

end Go.Proofs.Ytnemcppllfmioaa.PFnReadUsed
namespace Go.Proofs.Ytnemcppllfmioaa.PFnReadUsed
open Go.RowKit Go.Proofs.YtnemcppllfmioaaW.PrintWords Go.Proofs.YtnemcppllfmioaaW.PrintLast Go.Proofs.YtnemcppllfmioaaW.PrintMore
attribute [local go_sem] max2_int min2_int max_two min_two max_three min_three max_four min_four   -- for this text's walks alone
set_option linter.unusedVariables false
set_option linter.unusedSimpArgs false

mutual
def spec_l6fWays.l0 : Nat → List (S55) → List Int → List Int → Int → Option (List Int)
 | 0, _, _, _, _ => none
 | k + 1, x0, x1, x6, x7 => if x7 ≥ 0 then (spec_l6fWays.l1 k x0 x1 x6 x7 0) else (some x6)
def spec_l6fWays.l1 : Nat → List (S55) → List Int → List Int → Int → Int → Option (List Int)
 | 0, _, _, _, _, _ => none
 | k + 1, x0, x1, x6, x7, x8 => if x8 < (x0.length : Int) then (if 0 ≤ x8 then ((spec_l6fAt.f k ((rd_T55 x0 x8).f0) ((rd_T55 x0 x8).f1) x1 x7).bind fun t166 => (if t166 = true then (if 0 ≤ x7 then (if x7 < (x6.length : Int) then (if 0 ≤ (wrap64 (x7 + (((rd_T55 x0 x8).f0).length : Int))) then (if (wrap64 (x7 + (((rd_T55 x0 x8).f0).length : Int))) < (x6.length : Int) then (spec_l6fWays.l1 k x0 x1 (x6.set (x7 : Int).toNat (wrap64 ((rd x6 x7) + (rd x6 (wrap64 (x7 + (((rd_T55 x0 x8).f0).length : Int))))))) x7 (wrap64 (x8 + 1))) else (none)) else (none)) else (none)) else (none)) else (spec_l6fWays.l1 k x0 x1 x6 x7 (wrap64 (x8 + 1))))) else (none)) else (spec_l6fWays.l0 k x0 x1 x6 (wrap64 (x7 - 1)))
end
def spec_l6fWays.f (k : Nat) (l0 : List (S55)) (l1 : List Int) : Option (List Int) := if 0 ≤ (wrap64 ((l1.length : Int) + 1)) then (if (wrap64 ((l1.length : Int) + 1) : Int).toNat ≤ 35184372088832 then ((some (List.replicate (wrap64 ((l1.length : Int) + 1) : Int).toNat 0 : List Int)).bind fun y161 => (if 0 ≤ (l1.length : Int) then (if (l1.length : Int) < (y161.length : Int) then (spec_l6fWays.l0 k l0 l1 (y161.set ((l1.length : Int) : Int).toNat 1) (wrap64 ((l1.length : Int) - 1))) else (none)) else (none))) else (none)) else (none)
def spec_l6fWays.T11 : Bool × List (List Nat × List Nat) := (true, [([], []), ([], []), ([], []), ([], []), ([2, 3], [2, 3]), ([4], [4]), ([], []), ([], []), ([], []), ([], []), ([8, 9], [8, 9]), ([10], [10]), ([11], [11]), ([12], [12]), ([7, 13], [7, 13]), ([6, 14], [6, 14]), ([15], [15]), ([5, 16], [5, 16]), ([0, 1, 0, 1, 2, 3, 4, 5, 6, 7, 8, 9, 10, 11, 12, 13, 14, 15, 16, 17], [0, 1]), ([18, 17, 0, 1, 2, 3, 4, 5, 6, 7, 8, 9, 10, 11, 12, 13, 14, 15, 16, 17], [17, 18])])
def spec_l6fWays.B11 : List Nat := [0, 0, 0, 0, 12, 28, 0, 0, 0, 0, 768, 1792, 3840, 7936, 16256, 32704, 65472, 131068, 262143, 524287]
theorem spec_l6fWays.tab11 : rtab .any (opsOf Try.f84 11) = spec_l6fWays.T11 := by kernel_rfl
theorem spec_l6fWays.bits11 : waitsOk spec_l6fWays.T11.2 spec_l6fWays.B11 = true := by kernel_rfl
set_option maxHeartbeats 8000000 in
set_option maxRecDepth 100000 in
theorem spec_l6fWays.calls (k : Nat) (A0 : Option Addr) (c0 : Nat) (l0 : List (S55)) (A1 : Option Addr) (c1 : Nat) (l1 : List Int) (r : List Int) (w : World) (hr0 : Kd.C k55 w A0 l0.length l0) (hc0 : l0.length ≤ c0) (hr1 : Kd.C (Kd.int .i64) w A1 l1.length l1) (hc1 : l1.length ≤ c1) (h : spec_l6fWays.f k l0 l1 = some r) :
 Calls Try.prog 84 #[.slice A0 l0.length c0, .slice A1 l1.length c1] w fun e w' => ∃ v0_ : Value, e = .returned (v0_) ∧ Kd.R (Kd.int .i64) 3 w' w.heap.size (fun _ => True) v0_ r ∧ Below w.heap.size w w' := by
 have hu55 := Try.underlying55; have HR0 := Aside0.mk hr0; have HC0 := Aside0.mk hc0; clear hr0 hc0; have HR1 := Aside0.mk hr1; have HC1 := Aside0.mk hc1; clear hr1 hc1; have HB := Aside0.mk (Below.refl w.heap.size w); have H : (if 0 ≤ (wrap64 ((l1.length : Int) + 1)) then (if (wrap64 ((l1.length : Int) + 1) : Int).toNat ≤ 35184372088832 then ((some (List.replicate (wrap64 ((l1.length : Int) + 1) : Int).toNat 0 : List Int)).bind fun y161 => (if 0 ≤ (l1.length : Int) then (if (l1.length : Int) < (y161.length : Int) then (spec_l6fWays.l0 k l0 l1 (y161.set ((l1.length : Int) : Int).toNat 1) (wrap64 ((l1.length : Int) - 1))) else (none)) else (none))) else (none)) else (none)) = some r := h; clear h; obtain ⟨ji3, hji3⟩ : ∃ j_ : Int, (wrap64 ((l1.length : Int) + 1)) = j_ := ⟨_, rfl⟩
 replace H : (if 0 ≤ (ji3) then (if (ji3 : Int).toNat ≤ 35184372088832 then ((some (List.replicate (ji3 : Int).toNat 0 : List Int)).bind fun y161 => (if 0 ≤ (l1.length : Int) then (if (l1.length : Int) < (y161.length : Int) then (spec_l6fWays.l0 k l0 l1 (y161.set ((l1.length : Int) : Int).toNat 1) (wrap64 ((l1.length : Int) - 1))) else (none)) else (none))) else (none)) else (none)) = some r := by first | (rw [hji3] at H; exact H) | (simp only [hji3] at H ⊢; exact H)
 have hji3w : (IntKind.i64.wrap ((l1.length : Int) + 1)) = ji3 := (i64_w _).trans hji3; by_cases c4 : 0 ≤ (ji3)
 ·
  rw [if_pos c4] at H; have c4b0 := eq_true c4; have c4b1 : decide (0 ≤ (ji3)) = true := decide_eq_true c4; clear c4; by_cases c5 : (ji3 : Int).toNat ≤ 35184372088832
  ·
   rw [if_pos c5] at H; have c5b0 := eq_true c5; have c5b1 : decide ((ji3 : Int).toNat ≤ 35184372088832) = true := decide_eq_true c5; clear c5; obtain ⟨y161, hy161⟩ : ∃ y_ : List Int, y_ = (List.replicate (ji3 : Int).toNat 0) := ⟨_, rfl⟩
   replace H : (if 0 ≤ (l1.length : Int) then (if (l1.length : Int) < (y161.length : Int) then (spec_l6fWays.l0 k l0 l1 (y161.set ((l1.length : Int) : Int).toNat 1) (wrap64 ((l1.length : Int) - 1))) else (none)) else (none)) = some r := by first | (rw [hy161]; with_reducible exact H) | (have H2_ := (Option.bind_some _ _).symm.trans H; rw [hy161]; with_reducible exact H2_) | (have H2_ := (Option.bind_some _ _).symm.trans H; with_reducible exact H2_) | with_reducible exact H | (rw [hy161]; exact H) | exact H
   have Ny161 := Aside0.mk hy161; clear hy161; by_cases c6 : 0 ≤ (l1.length : Int)
   ·
    rw [if_pos c6] at H; have c6b0 : decide (0 ≤ (l1.length : Int)) = true := decide_eq_true c6; have c6b1 : decide (0 ≤ l1.length) = true := decide_eq_true (by omega); clear c6; by_cases c7 : (l1.length : Int) < (y161.length : Int)
    ·
     rw [if_pos c7] at H; have c7b0 : decide ((l1.length : Int) < (y161.length : Int)) = true := decide_eq_true c7; have c7b1 : decide (l1.length < y161.length) = true := decide_eq_true (Int.ofNat_lt.mp c7); clear c7; obtain ⟨y164, hy164⟩ : ∃ y_ : List Int, y_ = (y161.set ((l1.length : Int) : Int).toNat 1) := ⟨_, rfl⟩
     replace H : (spec_l6fWays.l0 k l0 l1 y164 (wrap64 ((l1.length : Int) - 1))) = some r := by first | (rw [hy164]; with_reducible exact H) | (have H2_ := (Option.bind_some _ _).symm.trans H; rw [hy164]; with_reducible exact H2_) | (have H2_ := (Option.bind_some _ _).symm.trans H; with_reducible exact H2_) | with_reducible exact H | (rw [hy164]; exact H) | exact H
     have Ny164 := Aside0.mk hy164; clear hy164; have H' := Aside0.mk H; clear H; go_enter Try.func84, Try.ntmps84
     go_wp2_with (first | ((with_reducible refine gate_dst (N := 13) rfl ?_); refine Kd.R_make (Kd.int .i64) _ 3 rfl (N := 13) rfl 46 _ _ rfl ji3 rfl rfl Try.underlying46 (.int .i64 0) 8 info3 rfl (by decide) (by omega) 0 (ok := fun _ => True) (okp := fun _ => True) rfl (fun _ hk => hk) trivial (of_decide_eq_true (by first | (with_reducible assumption) | assumption)) (Nat.le_trans (Nat.mul_le_mul_right _ (of_decide_eq_true (by first | (with_reducible assumption) | assumption) : ji3.toNat ≤ 35184372088832)) (by omega)) (Below.refl _ _) (Nat.le_refl _) ?_; intro v162 w9 ho10 hb hg_ hnew_; clear hg_ hnew_; (first | rw [← Ny161.out] at ho10 | (simp only [Int.reduceToNat] at ho10; rw [← Ny161.out] at ho10)); have n0_ := Aside0.mk (Kd.R_lower ho10 (below_size (by repeat (first | (with_reducible first | exact HB.out | apply below_alloc | apply pw_below_drewN | apply below_drew1) | exact HB.out)))); have n1_ := Aside0.mk (below_step (by repeat (first | (with_reducible first | exact HB.out | apply below_alloc | apply pw_below_drewN | apply below_drew1) | exact HB.out)) hb); clear HB; have HO163 := n0_; have HB := n1_; clear n0_ n1_; clear hb ho10; have p8 : 0 ≤ ((l1.length : Int) : Int) := of_decide_eq_true (by first | (with_reducible assumption) | assumption); have q8 : ((l1.length : Int) : Int) < ((y161.length : Int) : Int) := of_decide_eq_true (by first | (with_reducible assumption) | assumption); obtain ⟨go8, co8, eo8, gb8, gl8, cl8, HG8⟩ := Kd.R_form HO163.out (by omega); (first | cases eo8 | (injection eo8 with ea_ en_ ec_; (first | subst ea_ | (injection ea_ with ea_; subst ea_)); subst ec_; clear en_)); have GB8 := Aside0.mk gb8; have GG8 := Aside0.mk HG8; clear gb8 gl8 HG8; obtain ⟨hx8_0, hf8_0⟩ := Kd.R_celln 0 HO163.out ((l1.length : Int) : Int) p8 q8; replace p8 := eq_true p8; replace q8 := eq_true q8; obtain ⟨hy11_, hz11_⟩ := Kd.R_celln 0 HO163.out ((l1.length : Int) : Int) (of_decide_eq_true (by first | (with_reducible assumption) | assumption)) (of_decide_eq_true (by first | (with_reducible assumption) | assumption)); (try simp only [Go.IntWalk.toNatUp] at hy11_ hz11_); have HP11 := Kd.R_putg HO163.out ((l1.length : Int) : Int) 1) | ((with_reducible refine gate_store (t := 3) (p := 16) rfl ?_); refine store_event (t := 3) (p := 16) (v := ?vo_w12) (w1 := (w9.setCell ⟨go8, ((l1.length : Int) : Int).toNat, none⟩ (.int .i64 1))) ?hg ?ho ?hn ?hr ?_; (case ho => rfl); (case hg => rfl); (case hn => rfl); (case hr => first | (go_simp; done) | (go_simp; rfl)); intro w12 hw; have hg : w9.grownBy w12 (some go8) := (by rw [hw]; exact HP11.2); have hp_ : Kd.R (Kd.int .i64) 3 w12 w.heap.size (fun _ => True) (.slice (some ⟨go8, 0, none⟩) y161.length co8) y164 := (by rw [hw, Ny164.out]; exact HP11.1); clear HP11; have n0_ := Aside0.mk (hp_); have n1_ := Aside0.mk ((by rw [hw]; exact below_set (HB.out) GB8.out : Below w.heap.size w w12)); clear HO163; clear HB; have HO163 := n0_; have HB := n1_; clear n0_ n1_; clear hg hw hp_))
     go_loopg [7] k (fun kq v7 w' => ∃ (x6_1 : List Int) (x7_1 : Int), v7 = .int .i64 x7_1 ∧ Aside0 (spec_l6fWays.l0 kq l0 l1 x6_1 x7_1 = some r) ∧ Aside0 (kq ≤ k) ∧ Aside0 (Kd.R (Kd.int .i64) 3 w' w.heap.size (fun _ => True) (.slice (some ⟨go8, 0, none⟩) y161.length co8) x6_1) ∧ Aside0 (Below w.heap.size w w'))
     case atStart => exact ⟨(y164), (wrap64 ((l1.length : Int) - 1)), (by first | rfl | (simp; done) | (simp [*]; done)), H', ⟨Nat.le_refl _⟩, ⟨by (with_reducible repeat (first | apply Kd.R_alloc | apply Kd.R_drewN | apply Kd.R_drew)); exact HO163.out⟩, ⟨by repeat (first | (with_reducible first | exact HB.out | apply below_alloc | apply pw_below_drewN | apply below_drew1) | exact HB.out)⟩⟩
     case round =>
      clear H'; try clear c1
      try clear p2
      try clear c4
      try clear c4b0
      try clear c4b1
      try clear c5
      try clear c5b0
      try clear c5b1
      try clear c6
      try clear c6b0
      try clear c6b1
      try clear p6
      try clear c7
      try clear c7b0
      try clear c7b1
      try clear c8
      try clear p8
      try clear q8
      try clear hx8
      try clear hf8
      try clear hx8_0
      try clear p8
      try clear q8
      obtain ⟨x6_1, x7_1, rfl, HA, HK1, HO_6, HB⟩ := hrel; have hl6_1 := (Kd.R_reads' HO_6.out).1; rw [hl6_1] at HO_6; (try simp only [hl6_1])
      cases gk with
      | zero => exact absurd HA.out (by simp [spec_l6fWays.l0])
      | succ k1 =>
       have H := HA.out; clear HA; simp only [spec_l6fWays.l0] at H; by_cases c13 : x7_1 ≥ 0
       ·
        rw [if_pos c13] at H; have c13b0 : decide (0 ≤ x7_1) = true := decide_eq_true c13; clear c13; have H' := Aside0.mk H; clear H; go_wp2; go_loopg [8] k1 (fun kq v8 w' => ∃ (x6_2 : List Int) (x8_2 : Int), v8 = .int .i64 x8_2 ∧ Aside0 (spec_l6fWays.l1 kq l0 l1 x6_2 x7_1 x8_2 = some r) ∧ Aside0 (kq ≤ k1) ∧ Aside0 (Kd.R (Kd.int .i64) 3 w' w.heap.size (fun _ => True) (.slice (some ⟨go8, 0, none⟩) x6_1.length co8) x6_2) ∧ Aside0 (Below w.heap.size w w'))
        case atStart => exact ⟨(x6_1), (0), (by first | rfl | (simp; done) | (simp [*]; done)), H', ⟨Nat.le_refl _⟩, ⟨by (try simp only [hl6_1]); (with_reducible repeat (first | apply Kd.R_alloc | apply Kd.R_drewN | apply Kd.R_drew)); exact HO_6.out⟩, ⟨by repeat (first | (with_reducible first | exact HB.out | apply below_alloc | apply pw_below_drewN | apply below_drew1) | exact HB.out)⟩⟩
        case round =>
         clear H'; try clear c1
         try clear p2
         try clear c4
         try clear c4b0
         try clear c4b1
         try clear c5
         try clear c5b0
         try clear c5b1
         try clear c6
         try clear c6b0
         try clear c6b1
         try clear p6
         try clear c7
         try clear c7b0
         try clear c7b1
         try clear c8
         try clear p8
         try clear q8
         try clear hx8
         try clear hf8
         try clear c13
         try clear c13b0
         try clear hx8_0
         try clear p2
         try clear p6
         try clear p8
         try clear q8
         obtain ⟨x6_2, x8_2, rfl, HA, HK2, HO_6, HB⟩ := hrel; have hl6_2 := (Kd.R_reads' HO_6.out).1; rw [hl6_2] at HO_6; (try simp only [hl6_2])
         cases gk with
         | zero => exact absurd HA.out (by simp [spec_l6fWays.l1])
         | succ k2 =>
          have H := HA.out; clear HA; simp only [spec_l6fWays.l1] at H; by_cases c14 : x8_2 < (l0.length : Int)
          ·
           rw [if_pos c14] at H; have c14b0 : decide (x8_2 < (l0.length : Int)) = true := decide_eq_true c14; clear c14; by_cases c15 : 0 ≤ x8_2
           ·
            rw [if_pos c15] at H; have c15b0 : decide (0 ≤ x8_2) = true := decide_eq_true c15; clear c15; replace H := Option.bind_eq_some_iff.mp H; obtain ⟨t166, A160, H⟩ := H; replace H : (if t166 = true then (if 0 ≤ x7_1 then (if x7_1 < (x6_2.length : Int) then (if 0 ≤ (wrap64 (x7_1 + (((rd_T55 l0 x8_2).f0).length : Int))) then (if (wrap64 (x7_1 + (((rd_T55 l0 x8_2).f0).length : Int))) < (x6_2.length : Int) then (spec_l6fWays.l1 k2 l0 l1 (x6_2.set (x7_1 : Int).toNat (wrap64 ((rd x6_2 x7_1) + (rd x6_2 (wrap64 (x7_1 + (((rd_T55 l0 x8_2).f0).length : Int))))))) x7_1 (wrap64 (x8_2 + 1))) else (none)) else (none)) else (none)) else (none)) else (spec_l6fWays.l1 k2 l0 l1 x6_2 x7_1 (wrap64 (x8_2 + 1)))) = some r := H; have A16 := Aside0.mk A160; clear A160; by_cases c17 : t166 = true
            ·
             subst c17; have H1 : (if 0 ≤ x7_1 then (if x7_1 < (x6_2.length : Int) then (if 0 ≤ (wrap64 (x7_1 + (((rd_T55 l0 x8_2).f0).length : Int))) then (if (wrap64 (x7_1 + (((rd_T55 l0 x8_2).f0).length : Int))) < (x6_2.length : Int) then (spec_l6fWays.l1 k2 l0 l1 (x6_2.set (x7_1 : Int).toNat (wrap64 ((rd x6_2 x7_1) + (rd x6_2 (wrap64 (x7_1 + (((rd_T55 l0 x8_2).f0).length : Int))))))) x7_1 (wrap64 (x8_2 + 1))) else (none)) else (none)) else (none)) else (none)) = some r := by rw [if_pos rfl] at H; exact H
             clear H; have H := H1; clear H1; by_cases c18 : 0 ≤ x7_1
             ·
              rw [if_pos c18] at H; have c18b0 : decide (0 ≤ x7_1) = true := decide_eq_true c18; clear c18; by_cases c19 : x7_1 < (x6_2.length : Int)
              ·
               rw [if_pos c19] at H; have c19b0 : decide (x7_1 < (x6_2.length : Int)) = true := decide_eq_true c19; clear c19; obtain ⟨ji20, hji20⟩ : ∃ j_ : Int, (wrap64 (x7_1 + (((rd_T55 l0 x8_2).f0).length : Int))) = j_ := ⟨_, rfl⟩
               replace H : (if 0 ≤ (ji20) then (if (ji20) < (x6_2.length : Int) then (spec_l6fWays.l1 k2 l0 l1 (x6_2.set (x7_1 : Int).toNat (wrap64 ((rd x6_2 x7_1) + (rd x6_2 (ji20))))) x7_1 (wrap64 (x8_2 + 1))) else (none)) else (none)) = some r := by first | (rw [hji20] at H; exact H) | (simp only [hji20] at H ⊢; exact H)
               (try rw [hji20] at A16)
               have hji20w : (IntKind.i64.wrap (x7_1 + (((rd_T55 l0 x8_2).f0).length : Int))) = ji20 := (i64_w _).trans hji20; by_cases c21 : 0 ≤ (ji20)
               ·
                rw [if_pos c21] at H; have c21b0 : decide (0 ≤ (ji20)) = true := decide_eq_true c21; clear c21; by_cases c22 : (ji20) < (x6_2.length : Int)
                ·
                 rw [if_pos c22] at H; have c22b0 : decide ((ji20) < (x6_2.length : Int)) = true := decide_eq_true c22; clear c22; obtain ⟨y170, hy170⟩ : ∃ y_ : List Int, y_ = (x6_2.set (x7_1 : Int).toNat (wrap64 ((rd x6_2 x7_1) + (rd x6_2 (ji20))))) := ⟨_, rfl⟩
                 replace H : (spec_l6fWays.l1 k2 l0 l1 y170 x7_1 (wrap64 (x8_2 + 1))) = some r := by first | (rw [hy170]; with_reducible exact H) | (have H2_ := (Option.bind_some _ _).symm.trans H; rw [hy170]; with_reducible exact H2_) | (have H2_ := (Option.bind_some _ _).symm.trans H; with_reducible exact H2_) | with_reducible exact H | (rw [hy170]; exact H) | exact H
                 have Ny170 := Aside0.mk hy170; clear hy170; have H' := Aside0.mk H; clear H; have p165 : 0 ≤ (x8_2 : Int) := of_decide_eq_true (by first | (with_reducible assumption) | assumption); have q165 : x8_2 < (l0.length : Int) := of_decide_eq_true (by first | (with_reducible assumption) | assumption); obtain ⟨ad165, A165_0, c165_0, e165, hx165_0, hx165_1, hl165_0, hi165_0⟩ := at_T55 HR0.out x8_2 p165 q165; cases e165; replace hx165_0 := (HB.out.cell (World.block_lt_of_cell? w _ hx165_0)).trans hx165_0; replace hx165_1 := (HB.out.cell (World.block_lt_of_cell? w _ hx165_1)).trans hx165_1; have HR165_0 := Aside0.mk hi165_0; have HC165_0 := Aside0.mk hl165_0; clear hi165_0 hl165_0; replace p165 := eq_true p165; replace q165 := eq_true q165; try go_wp2_with (first | ((with_reducible refine gate_callee (f := 83) rfl ?_); refine goesL_ (some 35) rfl rfl Try.func83 (by kernel_rfl) rfl #[.agg #[.slice A165_0 ((rd_T55 l0 x8_2).f0).length c165_0, .int .i64 ((rd_T55 l0 x8_2).f1)], .slice A1 l1.length c1, .int .i64 x7_1] rfl (by (try simp only [List.map_toArray, List.map_cons, List.map_nil]); first | done | rfl | (simp only [List.length_drop, List.length_take]; rfl)) ?_; (with_reducible refine (spec_l6fAt.calls k2 _ _ ((rd_T55 l0 x8_2).f0) ((rd_T55 l0 x8_2).f1) _ _ l1 x7_1 true _ ?side1 ?side2 ?side3 ?side4 A16.out).mono ?_); (case side1 => repeat (first | exact (Kd.C_below HR165_0.out HB.out) | (with_reducible refine Kd.C_alloc ?_ _) | (with_reducible refine Kd.C_drewN ?_ _) | (with_reducible refine Kd.C_drew ?_))); (case side2 => exact HC165_0.out); (case side3 => repeat (first | exact (Kd.C_below HR1.out HB.out) | (with_reducible refine Kd.C_alloc ?_ _) | (with_reducible refine Kd.C_drewN ?_ _) | (with_reducible refine Kd.C_drew ?_))); (case side4 => exact HC1.out); rintro e w24 ⟨rfl, hb⟩; refine ⟨_, rfl, ?_⟩; have n0_ := Aside0.mk (Kd.R_below (by (with_reducible repeat (first | apply Kd.R_alloc | apply Kd.R_drewN | apply Kd.R_drew)); exact HO_6.out) hb); have n1_ := Aside0.mk (below_step (by repeat (first | (with_reducible first | exact HB.out | apply below_alloc | apply pw_below_drewN | apply below_drew1) | exact HB.out)) hb); clear HO_6; clear HB; have HO_6 := n0_; have HB := n1_; clear n0_ n1_; (try clear hb); (try clear hb2); (try clear hk); (try clear hi)))
                 have n0_ := Aside0.mk (Kd.R_drew HO_6.out); have n1_ := Aside0.mk (below_drew1 HB.out); clear HO_6; clear HB; have HO_6 := n0_; have HB := n1_; clear n0_ n1_; have p167 : 0 ≤ (x7_1 : Int) := of_decide_eq_true (by first | (with_reducible assumption) | assumption); have q167 : x7_1 < (x6_2.length : Int) := of_decide_eq_true (by first | (with_reducible assumption) | assumption); obtain ⟨ad167, e167, hx167_0⟩ := Kd.at_int (Kd.R_reads' HO_6.out).2.2 x7_1 p167 q167; obtain rfl : (⟨go8, 0, none⟩ : Addr) = ad167 := (by injection e167)
                 (first | simp only [add_plain] at hx167_0 | simp only [add_at] at hx167_0 | simp only [Addr.add, Nat.zero_add] at hx167_0 | skip)
                 replace p167 := eq_true p167; replace q167 := eq_true q167; have p168 : 0 ≤ (x8_2 : Int) := of_decide_eq_true (by first | (with_reducible assumption) | assumption); have q168 : x8_2 < (l0.length : Int) := of_decide_eq_true (by first | (with_reducible assumption) | assumption); obtain ⟨ad168, A168_0, c168_0, e168, hx168_0, hx168_1, hl168_0, hi168_0⟩ := at_T55 HR0.out x8_2 p168 q168; have hw168_1 := hx168_1; have hw168_0 := hx168_0; obtain rfl : ad165 = ad168 := (by injection e168)
                 replace hx168_0 := (HB.out.cell (World.block_lt_of_cell? w _ hx168_0)).trans hx168_0; replace hx168_1 := (HB.out.cell (World.block_lt_of_cell? w _ hx168_1)).trans hx168_1; have HR168_0 := Aside0.mk hi168_0; have HC168_0 := Aside0.mk hl168_0; clear hi168_0 hl168_0; replace p168 := eq_true p168; replace q168 := eq_true q168; have p169 : 0 ≤ ((ji20) : Int) := of_decide_eq_true (by first | (with_reducible assumption) | assumption); have q169 : (ji20) < (x6_2.length : Int) := of_decide_eq_true (by first | (with_reducible assumption) | assumption); obtain ⟨ad169, e169, hx169_0⟩ := Kd.at_int (Kd.R_reads' HO_6.out).2.2 (ji20) p169 q169; obtain rfl : (⟨go8, 0, none⟩ : Addr) = ad169 := (by injection e169)
                 (first | simp only [add_plain] at hx169_0 | simp only [add_at] at hx169_0 | simp only [Addr.add, Nat.zero_add] at hx169_0 | skip)
                 replace p169 := eq_true p169; replace q169 := eq_true q169; have p23 : 0 ≤ (x7_1 : Int) := of_decide_eq_true (by first | (with_reducible assumption) | assumption); have q23 : (x7_1 : Int) < ((x6_2.length : Int) : Int) := of_decide_eq_true (by first | (with_reducible assumption) | assumption); obtain ⟨hx23_0, hf23_0⟩ := Kd.R_celln 0 HO_6.out (x7_1 : Int) p23 q23; replace p23 := eq_true p23; replace q23 := eq_true q23; have HP26 := Kd.R_putn HO_6.out (x7_1 : Int) (wrap64 ((rd x6_2 x7_1) + (rd x6_2 (ji20)))); rw [← Ny170.out] at HP26; have HQ26 := Aside0.mk HP26; clear HP26; refine start_ (n := 20) (S := fun w' => w'.cell? ⟨go8, (x7_1).toNat, none⟩ = some (.int .i64 (rd x6_2 x7_1)) ∧ w'.cell? (ad165.add ((x8_2).toNat * 2)) = some (.slice A168_0 ((rd_T55 l0 x8_2).f0).length c168_0) ∧ w'.cell? ⟨(ad165.add ((x8_2).toNat * 2)).block, (ad165.add ((x8_2).toNat * 2)).off + 1, none⟩ = some (.int .i64 ((rd_T55 l0 x8_2).f1)) ∧ w'.cell? ⟨go8, ((ji20)).toNat, none⟩ = some (.int .i64 (rd x6_2 (ji20)))) (ds := [19]) (rowB 20 0) (by kernel_rfl) rfl rfl ⟨hx167_0, ((HB.out.cell (World.block_lt_of_cell? w _ hw168_0)).trans hw168_0), ((HB.out.cell (World.block_lt_of_cell? w _ hw168_1)).trans hw168_1), hx169_0⟩ (fun hHeld => ?_); refine with_tabW spec_l6fWays.tab11 spec_l6fWays.bits11 (fun HT_ HW_ => ?_); generalize w24.drew = w25 at HO_6 HB HQ26 HR168_0 hf23_0 hx167_0 hx168_0 hx168_1 hx169_0 hx23_0 hHeld ⊢; refine pure_ (i := 0) (N := some 36) (v := ?_) (a' := ?_) (rowB 20 1) rfl rfl (any_of HT_.out (by kernel_rfl)) (fun _ _ _ h => h) (Or.inl ⟨by rfl, ?_⟩) ?_ ?_; rotate_left; (· intro w'; go_simp; with_reducible rfl); rotate_left; (· simp only [Act.put, List.setIfInBounds_toArray, List.set_cons_zero, List.set_cons_succ, i64_w, i32_w]; rfl); refine pure_ (i := 1) (N := some 37) (v := ?_) (a' := ?_) (rowB 20 3) rfl rfl (any_of HT_.out (by kernel_rfl)) (fun _ _ _ h => h) (Or.inl ⟨by rfl, ?_⟩) ?_ ?_; rotate_left; (· intro w'; go_simp; with_reducible rfl); rotate_left; (· simp only [Act.put, List.setIfInBounds_toArray, List.set_cons_zero, List.set_cons_succ, i64_w, i32_w]; rfl); refine pure_ (i := 2) (N := some 38) (v := ?_) (a' := ?_) (rowB 20 7) rfl rfl (any_of HT_.out (by kernel_rfl)) (fun _ _ _ h => h) (Or.inl ⟨by rfl, ?_⟩) ?_ ?_; rotate_left; (· intro w'; go_simp; with_reducible rfl); rotate_left; (· simp only [Act.put, List.setIfInBounds_toArray, List.set_cons_zero, List.set_cons_succ, i64_w, i32_w]; rfl); refine pure_ (i := 3) (N := some 39) (v := ?_) (a' := ?_) (rowB 20 15) rfl rfl (any_of HT_.out (by kernel_rfl)) (fun _ _ _ h => h) (Or.inl ⟨by rfl, ?_⟩) ?_ ?_; rotate_left; (· intro w'; go_simp; with_reducible rfl); rotate_left; (· simp only [Act.put, List.setIfInBounds_toArray, List.set_cons_zero, List.set_cons_succ, i64_w, i32_w]; rfl); refine pure_ (i := 4) (N := some 40) (v := ?_) (a' := ?_) (rowB 20 31) rfl rfl (any_of HT_.out (by kernel_rfl)) (fun _ _ _ h => h) (Or.inl ⟨by rfl, ?_⟩) ?_ ?_; rotate_left; (· intro w'; go_simp; with_reducible rfl); rotate_left; (· simp only [Act.put, List.setIfInBounds_toArray, List.set_cons_zero, List.set_cons_succ, i64_w, i32_w]; rfl); refine pure_ (i := 6) (N := some 42) (v := ?_) (a' := ?_) (rowB 20 95) rfl rfl (any_of HT_.out (by kernel_rfl)) (fun _ _ _ h => h) (Or.inl ⟨by rfl, ?_⟩) ?_ ?_; rotate_left; (· intro w'; go_simp; with_reducible rfl); rotate_left; (· simp only [Act.put, List.setIfInBounds_toArray, List.set_cons_zero, List.set_cons_succ, i64_w, i32_w]; rfl); refine pure_ (i := 7) (N := some 43) (v := ?_) (a' := ?_) (rowB 20 223) rfl rfl (any_of HT_.out (by kernel_rfl)) (fun _ _ _ h => h) (Or.inl ⟨by rfl, ?_⟩) ?_ ?_; rotate_left; (· intro w'; go_simp; with_reducible rfl); rotate_left; (· simp only [Act.put, List.setIfInBounds_toArray, List.set_cons_zero, List.set_cons_succ, i64_w, i32_w]; rfl); refine pure_ (i := 8) (N := some 44) (v := ?_) (a' := ?_) (rowB 20 479) rfl rfl (any_of HT_.out (by kernel_rfl)) (fun _ _ _ h => h) (Or.inl ⟨by rfl, ?_⟩) ?_ ?_; rotate_left; (· intro w'; go_simp; with_reducible rfl); rotate_left; (· simp only [Act.put, List.setIfInBounds_toArray, List.set_cons_zero, List.set_cons_succ, i64_w, i32_w]; rfl); refine pure_ (i := 9) (N := some 45) (v := ?_) (a' := ?_) (rowB 20 991) rfl rfl (any_of HT_.out (by kernel_rfl)) (fun _ _ _ h => h) (Or.inl ⟨by rfl, ?_⟩) ?_ ?_; rotate_left; (· intro w'; go_simp; with_reducible rfl); rotate_left; (· simp only [Act.put, List.setIfInBounds_toArray, List.set_cons_zero, List.set_cons_succ, i64_w, i32_w]; rfl); refine pure_ (i := 10) (N := some 46) (v := ?_) (a' := ?_) (rowB 20 2015) rfl rfl (any_of HT_.out (by kernel_rfl)) (fun _ _ _ h => h) (Or.inl ⟨by rfl, ?_⟩) ?_ ?_; rotate_left; (· intro w'; go_simp; with_reducible rfl); rotate_left; (· simp only [Act.put, List.setIfInBounds_toArray, List.set_cons_zero, List.set_cons_succ, i64_w, i32_w]; rfl); refine pure_ (i := 11) (N := some 47) (v := ?_) (a' := ?_) (rowB 20 4063) rfl rfl (any_of HT_.out (by kernel_rfl)) (fun _ _ _ h => h) (Or.inl ⟨by rfl, ?_⟩) ?_ ?_; rotate_left; (· intro w'; go_simp; with_reducible rfl); rotate_left; (· simp only [Act.put, List.setIfInBounds_toArray, List.set_cons_zero, List.set_cons_succ, i64_w, i32_w]; rfl); refine take_ (i := 5) (N := some 41) (v := ?_) (a' := ?_) (rowB 20 4095) rfl rfl (take_ofW HT_.out HW_.out (by kernel_rfl)) (fun _ _ _ h => h) (Or.inl ⟨by rfl, ?_⟩) hHeld ?_ ?_; rotate_left; (· rintro w' ⟨s0, s1, s2, s3⟩; go_simp; with_reducible rfl); rotate_left; (· simp only [Act.put, List.setIfInBounds_toArray, List.set_cons_zero, List.set_cons_succ, i64_w, i32_w]; rfl); refine take_ (i := 12) (N := some 48) (v := ?_) (a' := ?_) (rowB 20 8191) rfl rfl (take_ofW HT_.out HW_.out (by kernel_rfl)) (fun _ _ _ h => h) (Or.inl ⟨by rfl, ?_⟩) hHeld ?_ ?_; rotate_left; (· rintro w' ⟨s0, s1, s2, s3⟩; go_simp; with_reducible rfl); rotate_left; (· simp only [Act.put, List.setIfInBounds_toArray, List.set_cons_zero, List.set_cons_succ, i64_w, i32_w]; rfl); refine pure_ (i := 13) (N := some 49) (v := ?_) (a' := ?_) (rowB 20 16383) rfl rfl (any_of HT_.out (by kernel_rfl)) (fun _ _ _ h => h) (Or.inl ⟨by rfl, ?_⟩) ?_ ?_; rotate_left; (· intro w'; go_simp; with_reducible rfl); rotate_left; (· simp only [Act.put, List.setIfInBounds_toArray, List.set_cons_zero, List.set_cons_succ, i64_w, i32_w]; rfl); refine pure_ (i := 14) (N := some 50) (v := ?_) (a' := ?_) (rowB 20 32767) rfl rfl (any_of HT_.out (by kernel_rfl)) (fun _ _ _ h => h) (Or.inl ⟨by rfl, ?_⟩) ?_ ?_; rotate_left; (· intro w'; go_simp; with_reducible rfl); rotate_left; (· simp only [Act.put, List.setIfInBounds_toArray, List.set_cons_zero, List.set_cons_succ, i64_w, i32_w]; rfl); refine pure_ (i := 15) (N := some 51) (v := ?_) (a' := ?_) (rowB 20 65535) rfl rfl (any_of HT_.out (by kernel_rfl)) (fun _ _ _ h => h) (Or.inl ⟨by rfl, ?_⟩) ?_ ?_; rotate_left; (· intro w'; go_simp; with_reducible rfl); rotate_left; (· simp only [Act.put, List.setIfInBounds_toArray, List.set_cons_zero, List.set_cons_succ, i64_w, i32_w]; rfl); refine take_ (i := 16) (N := some 52) (v := ?_) (a' := ?_) (rowB 20 131071) rfl rfl (take_ofW HT_.out HW_.out (by kernel_rfl)) (fun _ _ _ h => h) (Or.inl ⟨by rfl, ?_⟩) hHeld ?_ ?_; rotate_left; (· rintro w' ⟨s0, s1, s2, s3⟩; go_simp; with_reducible rfl); rotate_left; (· simp only [Act.put, List.setIfInBounds_toArray, List.set_cons_zero, List.set_cons_succ, i64_w, i32_w]; rfl); refine pure_ (i := 17) (N := some 53) (v := ?_) (a' := ?_) (rowB 20 262143) rfl rfl (any_of HT_.out (by kernel_rfl)) (fun _ _ _ h => h) (Or.inl ⟨by rfl, ?_⟩) ?_ ?_; rotate_left; (· intro w'; go_simp; with_reducible rfl); rotate_left; (· simp only [Act.put, List.setIfInBounds_toArray, List.set_cons_zero, List.set_cons_succ, i64_w, i32_w]; rfl); refine pure_ (i := 18) (N := some 54) (v := ?_) (a' := ?_) (rowB 20 524287) rfl rfl (any_of HT_.out (by kernel_rfl)) (fun _ _ _ h => h) (Or.inl ⟨by rfl, ?_⟩) ?_ ?_; rotate_left; (· intro w'; go_simp; with_reducible rfl); rotate_left; (· simp only [Act.put, List.setIfInBounds_toArray, List.set_cons_zero, List.set_cons_succ, i64_w, i32_w]; rfl); refine last_ (i := 19) (N := none) (rowB 20 1048575) rfl rfl (one_of HT_.out (by kernel_rfl)) (by decide) (fun K hK => ?_); refine skip_ (w1 := ?_) (by rfl) rfl ?_ ?_; rotate_left; (· go_simp; rfl); refine hK.out _ _ ?_; clear hK K; refine done_ (done_of HT_.out (by kernel_rfl)) ?_; try go_wp2
                 (try simp only [← hl6_2])
                 go_roundg k2
                 case measure => have := HK1.out; have := HK2.out; omega
                 case rel => exact ⟨(y170), (wrap64 (x8_2 + 1)), (by first | rfl | (simp; done) | (simp [*]; done)), H', ⟨by have := HK1.out; have := HK2.out; omega⟩, ⟨by (try simp only [hl6_1]); (try simp only [hl6_2]); (with_reducible repeat (first | apply Kd.R_alloc | apply Kd.R_drewN | apply Kd.R_drew)); exact HQ26.out⟩, ⟨by repeat (first | (with_reducible first | exact HB.out | apply below_alloc | apply pw_below_drewN | apply below_drew1 | refine below_set ?_ GB8.out) | exact HB.out)⟩⟩
                ·
                 rw [if_neg c22] at H; exact absurd H (by simp)
               ·
                rw [if_neg c21] at H; exact absurd H (by simp)
              ·
               rw [if_neg c19] at H; exact absurd H (by simp)
             ·
              rw [if_neg c18] at H; exact absurd H (by simp)
            ·
             replace c17 := Bool.eq_false_iff.mpr c17; subst c17; have H1 : (spec_l6fWays.l1 k2 l0 l1 x6_2 x7_1 (wrap64 (x8_2 + 1))) = some r := by rw [if_neg (show ¬ (false = true) by decide)] at H; exact H
             clear H; have H := H1; clear H1; have H' := Aside0.mk H; clear H; have p165 : 0 ≤ (x8_2 : Int) := of_decide_eq_true (by first | (with_reducible assumption) | assumption); have q165 : x8_2 < (l0.length : Int) := of_decide_eq_true (by first | (with_reducible assumption) | assumption); obtain ⟨ad165, A165_0, c165_0, e165, hx165_0, hx165_1, hl165_0, hi165_0⟩ := at_T55 HR0.out x8_2 p165 q165; cases e165; replace hx165_0 := (HB.out.cell (World.block_lt_of_cell? w _ hx165_0)).trans hx165_0; replace hx165_1 := (HB.out.cell (World.block_lt_of_cell? w _ hx165_1)).trans hx165_1; have HR165_0 := Aside0.mk hi165_0; have HC165_0 := Aside0.mk hl165_0; clear hi165_0 hl165_0; replace p165 := eq_true p165; replace q165 := eq_true q165; go_wp2_with (first | ((with_reducible refine gate_callee (f := 83) rfl ?_); refine goesL_ (some 35) rfl rfl Try.func83 (by kernel_rfl) rfl #[.agg #[.slice A165_0 ((rd_T55 l0 x8_2).f0).length c165_0, .int .i64 ((rd_T55 l0 x8_2).f1)], .slice A1 l1.length c1, .int .i64 x7_1] rfl (by (try simp only [List.map_toArray, List.map_cons, List.map_nil]); first | done | rfl | (simp only [List.length_drop, List.length_take]; rfl)) ?_; (with_reducible refine (spec_l6fAt.calls k2 _ _ ((rd_T55 l0 x8_2).f0) ((rd_T55 l0 x8_2).f1) _ _ l1 x7_1 false _ ?side1 ?side2 ?side3 ?side4 A16.out).mono ?_); (case side1 => repeat (first | exact (Kd.C_below HR165_0.out HB.out) | (with_reducible refine Kd.C_alloc ?_ _) | (with_reducible refine Kd.C_drewN ?_ _) | (with_reducible refine Kd.C_drew ?_))); (case side2 => exact HC165_0.out); (case side3 => repeat (first | exact (Kd.C_below HR1.out HB.out) | (with_reducible refine Kd.C_alloc ?_ _) | (with_reducible refine Kd.C_drewN ?_ _) | (with_reducible refine Kd.C_drew ?_))); (case side4 => exact HC1.out); rintro e w27 ⟨rfl, hb⟩; refine ⟨_, rfl, ?_⟩; have n0_ := Aside0.mk (Kd.R_below (by (with_reducible repeat (first | apply Kd.R_alloc | apply Kd.R_drewN | apply Kd.R_drew)); exact HO_6.out) hb); have n1_ := Aside0.mk (below_step (by repeat (first | (with_reducible first | exact HB.out | apply below_alloc | apply pw_below_drewN | apply below_drew1) | exact HB.out)) hb); clear HO_6; clear HB; have HO_6 := n0_; have HB := n1_; clear n0_ n1_; (try clear hb); (try clear hb2); (try clear hk); (try clear hi)))
             (try simp only [← hl6_2])
             go_roundg k2
             case measure => have := HK1.out; have := HK2.out; omega
             case rel => exact ⟨(x6_2), (wrap64 (x8_2 + 1)), (by first | rfl | (simp; done) | (simp [*]; done)), H', ⟨by have := HK1.out; have := HK2.out; omega⟩, ⟨by (try simp only [hl6_1]); (try simp only [hl6_2]); (with_reducible repeat (first | apply Kd.R_alloc | apply Kd.R_drewN | apply Kd.R_drew)); exact HO_6.out⟩, ⟨by repeat (first | (with_reducible first | exact HB.out | apply below_alloc | apply pw_below_drewN | apply below_drew1) | exact HB.out)⟩⟩
           ·
            rw [if_neg c15] at H; exact absurd H (by simp)
          ·
           rw [if_neg c14] at H; have c14b0 : decide (x8_2 < (l0.length : Int)) = false := decide_eq_false c14; clear c14; have H' := Aside0.mk H; clear H; go_wp2; (try simp only [← hl6_1, ← hl6_2])
           go_roundg k2
           case measure => have := HK1.out; have := HK2.out; omega
           case rel => exact ⟨(x6_2), (wrap64 (x7_1 - 1)), (by first | rfl | (simp; done) | (simp [*]; done)), H', ⟨by have := HK1.out; have := HK2.out; omega⟩, ⟨by (try simp only [hl6_1]); (try simp only [hl6_2]); (with_reducible repeat (first | apply Kd.R_alloc | apply Kd.R_drewN | apply Kd.R_drew)); exact HO_6.out⟩, ⟨by repeat (first | (with_reducible first | exact HB.out | apply below_alloc | apply pw_below_drewN | apply below_drew1) | exact HB.out)⟩⟩
       ·
        rw [if_neg c13] at H; have c13b0 : decide (0 ≤ x7_1) = false := decide_eq_false c13; clear c13; obtain rfl := Option.some.inj H; go_wp2; go_ret
        exact ⟨_, by first | rfl | (simp [errW_none, errW_some] <;> rfl) | (simp only [← hji3]; first | rfl | (simp [errW_none, errW_some] <;> rfl)) | (simp [*, errW_none, errW_some] <;> rfl), by (with_reducible repeat (first | apply Kd.R_alloc | apply Kd.R_drewN | apply Kd.R_drew)); exact HO_6.out, by repeat (first | (with_reducible first | exact HB.out | apply below_alloc | apply pw_below_drewN | apply below_drew1) | exact HB.out)⟩
    ·
     rw [if_neg c7] at H; exact absurd H (by simp)
   ·
    rw [if_neg c6] at H; exact absurd H (by simp)
  ·
   rw [if_neg c5] at H; exact absurd H (by simp)
 ·
  rw [if_neg c4] at H; exact absurd H (by simp)

end Go.Proofs.Ytnemcppllfmioaa.PFnReadUsed
namespace Go.Proofs.Ytnemcppllfmioaa.PFnReadUsed
open Go.RowKit Go.Proofs.YtnemcppllfmioaaW.PrintWords Go.Proofs.YtnemcppllfmioaaW.PrintLast Go.Proofs.YtnemcppllfmioaaW.PrintMore
attribute [local go_sem] max2_int min2_int max_two min_two max_three min_three max_four min_four   -- for this text's walks alone
set_option linter.unusedVariables false
set_option linter.unusedSimpArgs false

mutual
def spec_l6fFrom.l0 : Nat → List (S55) → List Int → List Int → Int → Option (List Int)
 | 0, _, _, _, _ => none
 | k + 1, x0, x1, x5, x6 => if x6 < (x1.length : Int) then (spec_l6fFrom.l1 k x0 x1 x5 x6 0) else (some x5)
def spec_l6fFrom.l1 : Nat → List (S55) → List Int → List Int → Int → Int → Option (List Int)
 | 0, _, _, _, _, _ => none
 | k + 1, x0, x1, x5, x6, x7 => if x7 < (x0.length : Int) then (if 0 ≤ x7 then ((spec_l6fAt.f k ((rd_T55 x0 x7).f0) ((rd_T55 x0 x7).f1) x1 x6).bind fun t176 => (if t176 = true then (if 0 ≤ (wrap64 (x6 + (((rd_T55 x0 x7).f0).length : Int))) then (if (wrap64 (x6 + (((rd_T55 x0 x7).f0).length : Int))) < (x5.length : Int) then (if 0 ≤ x6 then (if x6 < (x5.length : Int) then (spec_l6fFrom.l1 k x0 x1 (x5.set ((wrap64 (x6 + (((rd_T55 x0 x7).f0).length : Int))) : Int).toNat (wrap64 ((rd x5 (wrap64 (x6 + (((rd_T55 x0 x7).f0).length : Int)))) + (rd x5 x6)))) x6 (wrap64 (x7 + 1))) else (none)) else (none)) else (none)) else (none)) else (spec_l6fFrom.l1 k x0 x1 x5 x6 (wrap64 (x7 + 1))))) else (none)) else (spec_l6fFrom.l0 k x0 x1 x5 (wrap64 (x6 + 1)))
end
def spec_l6fFrom.f (k : Nat) (l0 : List (S55)) (l1 : List Int) : Option (List Int) := if 0 ≤ (wrap64 ((l1.length : Int) + 1)) then (if (wrap64 ((l1.length : Int) + 1) : Int).toNat ≤ 35184372088832 then ((some (List.replicate (wrap64 ((l1.length : Int) + 1) : Int).toNat 0 : List Int)).bind fun y171 => (if 0 < (y171.length : Int) then (spec_l6fFrom.l0 k l0 l1 (y171.set (0 : Int).toNat 1) 0) else (none))) else (none)) else (none)
def spec_l6fFrom.T10 : Bool × List (List Nat × List Nat) := (true, [([], []), ([], []), ([], []), ([], []), ([2, 3], [2, 3]), ([4], [4]), ([5], [5]), ([6], [6]), ([1, 7], [1, 7]), ([], []), ([], []), ([], []), ([], []), ([11, 12], [11, 12]), ([13], [13]), ([14], [14]), ([15], [15]), ([10, 16], [10, 16]), ([9, 17], [9, 17]), ([18], [18]), ([], []), ([], []), ([20, 21], [20, 21]), ([22], [22]), ([19, 23], [19, 23]), ([0, 8, 0, 1, 2, 3, 4, 5, 6, 7, 8, 9, 10, 11, 12, 13, 14, 15, 16, 17, 18, 19, 20, 21, 22, 23, 24], [0, 8]), ([25, 24, 0, 1, 2, 3, 4, 5, 6, 7, 8, 9, 10, 11, 12, 13, 14, 15, 16, 17, 18, 19, 20, 21, 22, 23, 24], [24, 25])])
def spec_l6fFrom.B10 : List Nat := [0, 0, 0, 0, 12, 28, 60, 124, 254, 0, 0, 0, 0, 6144, 14336, 30720, 63488, 130048, 261632, 523776, 0, 0, 3145728, 7340032, 16776704, 33554431, 67108863]
theorem spec_l6fFrom.tab10 : rtab .any (opsOf Try.f85 10) = spec_l6fFrom.T10 := by kernel_rfl
theorem spec_l6fFrom.bits10 : waitsOk spec_l6fFrom.T10.2 spec_l6fFrom.B10 = true := by kernel_rfl
set_option maxHeartbeats 8000000 in
set_option maxRecDepth 100000 in
theorem spec_l6fFrom.calls (k : Nat) (A0 : Option Addr) (c0 : Nat) (l0 : List (S55)) (A1 : Option Addr) (c1 : Nat) (l1 : List Int) (r : List Int) (w : World) (hr0 : Kd.C k55 w A0 l0.length l0) (hc0 : l0.length ≤ c0) (hr1 : Kd.C (Kd.int .i64) w A1 l1.length l1) (hc1 : l1.length ≤ c1) (h : spec_l6fFrom.f k l0 l1 = some r) :
 Calls Try.prog 85 #[.slice A0 l0.length c0, .slice A1 l1.length c1] w fun e w' => ∃ v0_ : Value, e = .returned (v0_) ∧ Kd.R (Kd.int .i64) 3 w' w.heap.size (fun _ => True) v0_ r ∧ Below w.heap.size w w' := by
 have hu55 := Try.underlying55; have HR0 := Aside0.mk hr0; have HC0 := Aside0.mk hc0; clear hr0 hc0; have HR1 := Aside0.mk hr1; have HC1 := Aside0.mk hc1; clear hr1 hc1; have HB := Aside0.mk (Below.refl w.heap.size w); have H : (if 0 ≤ (wrap64 ((l1.length : Int) + 1)) then (if (wrap64 ((l1.length : Int) + 1) : Int).toNat ≤ 35184372088832 then ((some (List.replicate (wrap64 ((l1.length : Int) + 1) : Int).toNat 0 : List Int)).bind fun y171 => (if 0 < (y171.length : Int) then (spec_l6fFrom.l0 k l0 l1 (y171.set (0 : Int).toNat 1) 0) else (none))) else (none)) else (none)) = some r := h; clear h; obtain ⟨ji3, hji3⟩ : ∃ j_ : Int, (wrap64 ((l1.length : Int) + 1)) = j_ := ⟨_, rfl⟩
 replace H : (if 0 ≤ (ji3) then (if (ji3 : Int).toNat ≤ 35184372088832 then ((some (List.replicate (ji3 : Int).toNat 0 : List Int)).bind fun y171 => (if 0 < (y171.length : Int) then (spec_l6fFrom.l0 k l0 l1 (y171.set (0 : Int).toNat 1) 0) else (none))) else (none)) else (none)) = some r := by first | (rw [hji3] at H; exact H) | (simp only [hji3] at H ⊢; exact H)
 have hji3w : (IntKind.i64.wrap ((l1.length : Int) + 1)) = ji3 := (i64_w _).trans hji3; by_cases c4 : 0 ≤ (ji3)
 ·
  rw [if_pos c4] at H; have c4b0 := eq_true c4; have c4b1 : decide (0 ≤ (ji3)) = true := decide_eq_true c4; clear c4; by_cases c5 : (ji3 : Int).toNat ≤ 35184372088832
  ·
   rw [if_pos c5] at H; have c5b0 := eq_true c5; have c5b1 : decide ((ji3 : Int).toNat ≤ 35184372088832) = true := decide_eq_true c5; clear c5; obtain ⟨y171, hy171⟩ : ∃ y_ : List Int, y_ = (List.replicate (ji3 : Int).toNat 0) := ⟨_, rfl⟩
   replace H : (if 0 < (y171.length : Int) then (spec_l6fFrom.l0 k l0 l1 (y171.set (0 : Int).toNat 1) 0) else (none)) = some r := by first | (rw [hy171]; with_reducible exact H) | (have H2_ := (Option.bind_some _ _).symm.trans H; rw [hy171]; with_reducible exact H2_) | (have H2_ := (Option.bind_some _ _).symm.trans H; with_reducible exact H2_) | with_reducible exact H | (rw [hy171]; exact H) | exact H
   have Ny171 := Aside0.mk hy171; clear hy171; by_cases c6 : 0 < (y171.length : Int)
   ·
    rw [if_pos c6] at H; have c6b0 : decide (0 < (y171.length : Int)) = true := decide_eq_true c6; have c6b1 : decide (0 < y171.length) = true := decide_eq_true (by omega); clear c6; obtain ⟨y174, hy174⟩ : ∃ y_ : List Int, y_ = (y171.set (0 : Int).toNat 1) := ⟨_, rfl⟩
    replace H : (spec_l6fFrom.l0 k l0 l1 y174 0) = some r := by first | (rw [hy174]; with_reducible exact H) | (have H2_ := (Option.bind_some _ _).symm.trans H; rw [hy174]; with_reducible exact H2_) | (have H2_ := (Option.bind_some _ _).symm.trans H; with_reducible exact H2_) | with_reducible exact H | (rw [hy174]; exact H) | exact H
    have Ny174 := Aside0.mk hy174; clear hy174; have H' := Aside0.mk H; clear H; go_enter Try.func85, Try.ntmps85
    go_wp2_with (first | ((with_reducible refine gate_dst (N := 11) rfl ?_); refine Kd.R_make (Kd.int .i64) _ 3 rfl (N := 11) rfl 46 _ _ rfl ji3 rfl rfl Try.underlying46 (.int .i64 0) 8 info3 rfl (by decide) (by omega) 0 (ok := fun _ => True) (okp := fun _ => True) rfl (fun _ hk => hk) trivial (of_decide_eq_true (by first | (with_reducible assumption) | assumption)) (Nat.le_trans (Nat.mul_le_mul_right _ (of_decide_eq_true (by first | (with_reducible assumption) | assumption) : ji3.toNat ≤ 35184372088832)) (by omega)) (Below.refl _ _) (Nat.le_refl _) ?_; intro v172 w8 ho9 hb hg_ hnew_; clear hg_ hnew_; (first | rw [← Ny171.out] at ho9 | (simp only [Int.reduceToNat] at ho9; rw [← Ny171.out] at ho9)); have n0_ := Aside0.mk (Kd.R_lower ho9 (below_size (by repeat (first | (with_reducible first | exact HB.out | apply below_alloc | apply pw_below_drewN | apply below_drew1) | exact HB.out)))); have n1_ := Aside0.mk (below_step (by repeat (first | (with_reducible first | exact HB.out | apply below_alloc | apply pw_below_drewN | apply below_drew1) | exact HB.out)) hb); clear HB; have HO173 := n0_; have HB := n1_; clear n0_ n1_; clear hb ho9; have p7 : 0 ≤ (0 : Int) := (by omega); have q7 : (0 : Int) < ((y171.length : Int) : Int) := of_decide_eq_true (by first | (with_reducible assumption) | assumption); have qi7 : (0 < y171.length) = True := eq_true (by omega); obtain ⟨go7, co7, eo7, gb7, gl7, cl7, HG7⟩ := Kd.R_form HO173.out (by omega); (first | cases eo7 | (injection eo7 with ea_ en_ ec_; (first | subst ea_ | (injection ea_ with ea_; subst ea_)); subst ec_; clear en_)); have GB7 := Aside0.mk gb7; have GG7 := Aside0.mk HG7; clear gb7 gl7 HG7; obtain ⟨hx7_0, hf7_0⟩ := Kd.R_celln 0 HO173.out (0 : Int) p7 q7; (try rw [show ((0 : Int)).toNat = 0 from rfl] at hx7_0); (try simp only [Nat.reduceMul, Nat.zero_mul, Nat.zero_add, Nat.reduceAdd] at hx7_0); (try rw [show ((0 : Int)).toNat = 0 from rfl] at hf7_0); (try simp only [Nat.reduceMul, Nat.zero_mul, Nat.zero_add, Nat.reduceAdd] at hf7_0); replace p7 := eq_true p7; replace q7 := eq_true q7; obtain ⟨hy10_, hz10_⟩ := Kd.R_celln 0 HO173.out (0 : Int) (by omega) (of_decide_eq_true (by first | (with_reducible assumption) | assumption)); (try simp only [Int.reduceToNat, Int.toNat_zero, Int.toNat_ofNat, Nat.reduceMul, Nat.zero_mul, Nat.zero_add] at hy10_ hz10_); (try rw [show ((0 : Int)).toNat = 0 from rfl] at hy10_); (try rw [show ((0 : Int)).toNat = 0 from rfl] at hz10_); have HP10 := Kd.R_putg HO173.out (0 : Int) 1) | ((with_reducible refine gate_store (t := 3) (p := 13) rfl ?_); refine store_event (t := 3) (p := 13) (v := ?vo_w11) (w1 := (w8.setCell ⟨go7, (0 : Int).toNat, none⟩ (.int .i64 1))) ?hg ?ho ?hn ?hr ?_; (case ho => rfl); (case hg => rfl); (case hn => rfl); (case hr => first | (go_simp; done) | (go_simp; rfl)); intro w11 hw; have hg : w8.grownBy w11 (some go7) := (by rw [hw]; exact HP10.2); have hp_ : Kd.R (Kd.int .i64) 3 w11 w.heap.size (fun _ => True) (.slice (some ⟨go7, 0, none⟩) y171.length co7) y174 := (by rw [hw, Ny174.out]; exact HP10.1); clear HP10; have n0_ := Aside0.mk (hp_); have n1_ := Aside0.mk ((by rw [hw]; exact below_set (HB.out) GB7.out : Below w.heap.size w w11)); clear HO173; clear HB; have HO173 := n0_; have HB := n1_; clear n0_ n1_; clear hg hw hp_))
    go_loopg [6] k (fun kq v6 w' => ∃ (x5_1 : List Int) (x6_1 : Int), v6 = .int .i64 x6_1 ∧ Aside0 (spec_l6fFrom.l0 kq l0 l1 x5_1 x6_1 = some r) ∧ Aside0 (kq ≤ k) ∧ Aside0 (Kd.R (Kd.int .i64) 3 w' w.heap.size (fun _ => True) (.slice (some ⟨go7, 0, none⟩) y171.length co7) x5_1) ∧ Aside0 (Below w.heap.size w w'))
    case atStart => exact ⟨(y174), (0), (by first | rfl | (simp; done) | (simp [*]; done)), H', ⟨Nat.le_refl _⟩, ⟨by (with_reducible repeat (first | apply Kd.R_alloc | apply Kd.R_drewN | apply Kd.R_drew)); exact HO173.out⟩, ⟨by repeat (first | (with_reducible first | exact HB.out | apply below_alloc | apply pw_below_drewN | apply below_drew1) | exact HB.out)⟩⟩
    case round =>
     clear H'; try clear c1
     try clear p2
     try clear c4
     try clear c4b0
     try clear c4b1
     try clear c5
     try clear c5b0
     try clear c5b1
     try clear c6
     try clear c6b0
     try clear c6b1
     try clear p6
     try clear p7
     try clear q7
     try clear hx7
     try clear qi7
     try clear hf7
     try clear c8
     try clear hx7_0
     try clear p7
     try clear q7
     obtain ⟨x5_1, x6_1, rfl, HA, HK1, HO_5, HB⟩ := hrel; have hl5_1 := (Kd.R_reads' HO_5.out).1; rw [hl5_1] at HO_5; (try simp only [hl5_1])
     cases gk with
     | zero => exact absurd HA.out (by simp [spec_l6fFrom.l0])
     | succ k1 =>
      have H := HA.out; clear HA; simp only [spec_l6fFrom.l0] at H; by_cases c12 : x6_1 < (l1.length : Int)
      ·
       rw [if_pos c12] at H; have c12b0 : decide (x6_1 < (l1.length : Int)) = true := decide_eq_true c12; clear c12; have H' := Aside0.mk H; clear H; go_wp2; go_loopg [7] k1 (fun kq v7 w' => ∃ (x5_2 : List Int) (x7_2 : Int), v7 = .int .i64 x7_2 ∧ Aside0 (spec_l6fFrom.l1 kq l0 l1 x5_2 x6_1 x7_2 = some r) ∧ Aside0 (kq ≤ k1) ∧ Aside0 (Kd.R (Kd.int .i64) 3 w' w.heap.size (fun _ => True) (.slice (some ⟨go7, 0, none⟩) x5_1.length co7) x5_2) ∧ Aside0 (Below w.heap.size w w'))
       case atStart => exact ⟨(x5_1), (0), (by first | rfl | (simp; done) | (simp [*]; done)), H', ⟨Nat.le_refl _⟩, ⟨by (try simp only [hl5_1]); (with_reducible repeat (first | apply Kd.R_alloc | apply Kd.R_drewN | apply Kd.R_drew)); exact HO_5.out⟩, ⟨by repeat (first | (with_reducible first | exact HB.out | apply below_alloc | apply pw_below_drewN | apply below_drew1) | exact HB.out)⟩⟩
       case round =>
        clear H'; try clear c1
        try clear p2
        try clear c4
        try clear c4b0
        try clear c4b1
        try clear c5
        try clear c5b0
        try clear c5b1
        try clear c6
        try clear c6b0
        try clear c6b1
        try clear p6
        try clear p7
        try clear q7
        try clear hx7
        try clear qi7
        try clear hf7
        try clear c8
        try clear c12
        try clear c12b0
        try clear hx7_0
        try clear p2
        try clear p6
        try clear p7
        try clear q7
        obtain ⟨x5_2, x7_2, rfl, HA, HK2, HO_5, HB⟩ := hrel; have hl5_2 := (Kd.R_reads' HO_5.out).1; rw [hl5_2] at HO_5; (try simp only [hl5_2])
        cases gk with
        | zero => exact absurd HA.out (by simp [spec_l6fFrom.l1])
        | succ k2 =>
         have H := HA.out; clear HA; simp only [spec_l6fFrom.l1] at H; by_cases c13 : x7_2 < (l0.length : Int)
         ·
          rw [if_pos c13] at H; have c13b0 : decide (x7_2 < (l0.length : Int)) = true := decide_eq_true c13; clear c13; by_cases c14 : 0 ≤ x7_2
          ·
           rw [if_pos c14] at H; have c14b0 : decide (0 ≤ x7_2) = true := decide_eq_true c14; clear c14; replace H := Option.bind_eq_some_iff.mp H; obtain ⟨t176, A150, H⟩ := H; replace H : (if t176 = true then (if 0 ≤ (wrap64 (x6_1 + (((rd_T55 l0 x7_2).f0).length : Int))) then (if (wrap64 (x6_1 + (((rd_T55 l0 x7_2).f0).length : Int))) < (x5_2.length : Int) then (if 0 ≤ x6_1 then (if x6_1 < (x5_2.length : Int) then (spec_l6fFrom.l1 k2 l0 l1 (x5_2.set ((wrap64 (x6_1 + (((rd_T55 l0 x7_2).f0).length : Int))) : Int).toNat (wrap64 ((rd x5_2 (wrap64 (x6_1 + (((rd_T55 l0 x7_2).f0).length : Int)))) + (rd x5_2 x6_1)))) x6_1 (wrap64 (x7_2 + 1))) else (none)) else (none)) else (none)) else (none)) else (spec_l6fFrom.l1 k2 l0 l1 x5_2 x6_1 (wrap64 (x7_2 + 1)))) = some r := H; have A15 := Aside0.mk A150; clear A150; by_cases c16 : t176 = true
           ·
            subst c16; have H1 : (if 0 ≤ (wrap64 (x6_1 + (((rd_T55 l0 x7_2).f0).length : Int))) then (if (wrap64 (x6_1 + (((rd_T55 l0 x7_2).f0).length : Int))) < (x5_2.length : Int) then (if 0 ≤ x6_1 then (if x6_1 < (x5_2.length : Int) then (spec_l6fFrom.l1 k2 l0 l1 (x5_2.set ((wrap64 (x6_1 + (((rd_T55 l0 x7_2).f0).length : Int))) : Int).toNat (wrap64 ((rd x5_2 (wrap64 (x6_1 + (((rd_T55 l0 x7_2).f0).length : Int)))) + (rd x5_2 x6_1)))) x6_1 (wrap64 (x7_2 + 1))) else (none)) else (none)) else (none)) else (none)) = some r := by rw [if_pos rfl] at H; exact H
            clear H; have H := H1; clear H1; obtain ⟨ji17, hji17⟩ : ∃ j_ : Int, (wrap64 (x6_1 + (((rd_T55 l0 x7_2).f0).length : Int))) = j_ := ⟨_, rfl⟩
            replace H : (if 0 ≤ (ji17) then (if (ji17) < (x5_2.length : Int) then (if 0 ≤ x6_1 then (if x6_1 < (x5_2.length : Int) then (spec_l6fFrom.l1 k2 l0 l1 (x5_2.set ((ji17) : Int).toNat (wrap64 ((rd x5_2 (ji17)) + (rd x5_2 x6_1)))) x6_1 (wrap64 (x7_2 + 1))) else (none)) else (none)) else (none)) else (none)) = some r := by first | (rw [hji17] at H; exact H) | (simp only [hji17] at H ⊢; exact H)
            (try rw [hji17] at A15)
            have hji17w : (IntKind.i64.wrap (x6_1 + (((rd_T55 l0 x7_2).f0).length : Int))) = ji17 := (i64_w _).trans hji17; by_cases c18 : 0 ≤ (ji17)
            ·
             rw [if_pos c18] at H; have c18b0 : decide (0 ≤ (ji17)) = true := decide_eq_true c18; clear c18; by_cases c19 : (ji17) < (x5_2.length : Int)
             ·
              rw [if_pos c19] at H; have c19b0 : decide ((ji17) < (x5_2.length : Int)) = true := decide_eq_true c19; clear c19; by_cases c20 : 0 ≤ x6_1
              ·
               rw [if_pos c20] at H; have c20b0 : decide (0 ≤ x6_1) = true := decide_eq_true c20; clear c20; by_cases c21 : x6_1 < (x5_2.length : Int)
               ·
                rw [if_pos c21] at H; have c21b0 : decide (x6_1 < (x5_2.length : Int)) = true := decide_eq_true c21; clear c21; obtain ⟨y181, hy181⟩ : ∃ y_ : List Int, y_ = (x5_2.set ((ji17) : Int).toNat (wrap64 ((rd x5_2 (ji17)) + (rd x5_2 x6_1)))) := ⟨_, rfl⟩
                replace H : (spec_l6fFrom.l1 k2 l0 l1 y181 x6_1 (wrap64 (x7_2 + 1))) = some r := by first | (rw [hy181]; with_reducible exact H) | (have H2_ := (Option.bind_some _ _).symm.trans H; rw [hy181]; with_reducible exact H2_) | (have H2_ := (Option.bind_some _ _).symm.trans H; with_reducible exact H2_) | with_reducible exact H | (rw [hy181]; exact H) | exact H
                have Ny181 := Aside0.mk hy181; clear hy181; have H' := Aside0.mk H; clear H; have p175 : 0 ≤ (x7_2 : Int) := of_decide_eq_true (by first | (with_reducible assumption) | assumption); have q175 : x7_2 < (l0.length : Int) := of_decide_eq_true (by first | (with_reducible assumption) | assumption); obtain ⟨ad175, A175_0, c175_0, e175, hx175_0, hx175_1, hl175_0, hi175_0⟩ := at_T55 HR0.out x7_2 p175 q175; cases e175; replace hx175_0 := (HB.out.cell (World.block_lt_of_cell? w _ hx175_0)).trans hx175_0; replace hx175_1 := (HB.out.cell (World.block_lt_of_cell? w _ hx175_1)).trans hx175_1; have HR175_0 := Aside0.mk hi175_0; have HC175_0 := Aside0.mk hl175_0; clear hi175_0 hl175_0; replace p175 := eq_true p175; replace q175 := eq_true q175; try go_wp2_with (first | ((with_reducible refine gate_callee (f := 83) rfl ?_); refine goesL_ (some 32) rfl rfl Try.func83 (by kernel_rfl) rfl #[.agg #[.slice A175_0 ((rd_T55 l0 x7_2).f0).length c175_0, .int .i64 ((rd_T55 l0 x7_2).f1)], .slice A1 l1.length c1, .int .i64 x6_1] rfl (by (try simp only [List.map_toArray, List.map_cons, List.map_nil]); first | done | rfl | (simp only [List.length_drop, List.length_take]; rfl)) ?_; (with_reducible refine (spec_l6fAt.calls k2 _ _ ((rd_T55 l0 x7_2).f0) ((rd_T55 l0 x7_2).f1) _ _ l1 x6_1 true _ ?side1 ?side2 ?side3 ?side4 A15.out).mono ?_); (case side1 => repeat (first | exact (Kd.C_below HR175_0.out HB.out) | (with_reducible refine Kd.C_alloc ?_ _) | (with_reducible refine Kd.C_drewN ?_ _) | (with_reducible refine Kd.C_drew ?_))); (case side2 => exact HC175_0.out); (case side3 => repeat (first | exact (Kd.C_below HR1.out HB.out) | (with_reducible refine Kd.C_alloc ?_ _) | (with_reducible refine Kd.C_drewN ?_ _) | (with_reducible refine Kd.C_drew ?_))); (case side4 => exact HC1.out); rintro e w23 ⟨rfl, hb⟩; refine ⟨_, rfl, ?_⟩; have n0_ := Aside0.mk (Kd.R_below (by (with_reducible repeat (first | apply Kd.R_alloc | apply Kd.R_drewN | apply Kd.R_drew)); exact HO_5.out) hb); have n1_ := Aside0.mk (below_step (by repeat (first | (with_reducible first | exact HB.out | apply below_alloc | apply pw_below_drewN | apply below_drew1) | exact HB.out)) hb); clear HO_5; clear HB; have HO_5 := n0_; have HB := n1_; clear n0_ n1_; (try clear hb); (try clear hb2); (try clear hk); (try clear hi)))
                have n0_ := Aside0.mk (Kd.R_drew HO_5.out); have n1_ := Aside0.mk (below_drew1 HB.out); clear HO_5; clear HB; have HO_5 := n0_; have HB := n1_; clear n0_ n1_; have p177 : 0 ≤ (x7_2 : Int) := of_decide_eq_true (by first | (with_reducible assumption) | assumption); have q177 : x7_2 < (l0.length : Int) := of_decide_eq_true (by first | (with_reducible assumption) | assumption); obtain ⟨ad177, A177_0, c177_0, e177, hx177_0, hx177_1, hl177_0, hi177_0⟩ := at_T55 HR0.out x7_2 p177 q177; have hw177_1 := hx177_1; have hw177_0 := hx177_0; obtain rfl : ad175 = ad177 := (by injection e177)
                replace hx177_0 := (HB.out.cell (World.block_lt_of_cell? w _ hx177_0)).trans hx177_0; replace hx177_1 := (HB.out.cell (World.block_lt_of_cell? w _ hx177_1)).trans hx177_1; have HR177_0 := Aside0.mk hi177_0; have HC177_0 := Aside0.mk hl177_0; clear hi177_0 hl177_0; replace p177 := eq_true p177; replace q177 := eq_true q177; have p178 : 0 ≤ (x7_2 : Int) := of_decide_eq_true (by first | (with_reducible assumption) | assumption); have q178 : x7_2 < (l0.length : Int) := of_decide_eq_true (by first | (with_reducible assumption) | assumption); obtain ⟨ad178, A178_0, c178_0, e178, hx178_0, hx178_1, hl178_0, hi178_0⟩ := at_T55 HR0.out x7_2 p178 q178; have hw178_1 := hx178_1; have hw178_0 := hx178_0; obtain rfl : ad175 = ad178 := (by injection e178)
                replace hx178_0 := (HB.out.cell (World.block_lt_of_cell? w _ hx178_0)).trans hx178_0; replace hx178_1 := (HB.out.cell (World.block_lt_of_cell? w _ hx178_1)).trans hx178_1; have HR178_0 := Aside0.mk hi178_0; have HC178_0 := Aside0.mk hl178_0; clear hi178_0 hl178_0; replace p178 := eq_true p178; replace q178 := eq_true q178; have ea_ := Option.some.inj (hx177_0.symm.trans hx178_0); injection ea_ with ea_ en_ ec_
                subst ea_; subst ec_; clear en_; have p179 : 0 ≤ ((ji17) : Int) := of_decide_eq_true (by first | (with_reducible assumption) | assumption); have q179 : (ji17) < (x5_2.length : Int) := of_decide_eq_true (by first | (with_reducible assumption) | assumption); obtain ⟨ad179, e179, hx179_0⟩ := Kd.at_int (Kd.R_reads' HO_5.out).2.2 (ji17) p179 q179; obtain rfl : (⟨go7, 0, none⟩ : Addr) = ad179 := (by injection e179)
                (first | simp only [add_plain] at hx179_0 | simp only [add_at] at hx179_0 | simp only [Addr.add, Nat.zero_add] at hx179_0 | skip)
                replace p179 := eq_true p179; replace q179 := eq_true q179; have p180 : 0 ≤ (x6_1 : Int) := of_decide_eq_true (by first | (with_reducible assumption) | assumption); have q180 : x6_1 < (x5_2.length : Int) := of_decide_eq_true (by first | (with_reducible assumption) | assumption); obtain ⟨ad180, e180, hx180_0⟩ := Kd.at_int (Kd.R_reads' HO_5.out).2.2 x6_1 p180 q180; obtain rfl : (⟨go7, 0, none⟩ : Addr) = ad180 := (by injection e180)
                (first | simp only [add_plain] at hx180_0 | simp only [add_at] at hx180_0 | simp only [Addr.add, Nat.zero_add] at hx180_0 | skip)
                replace p180 := eq_true p180; replace q180 := eq_true q180; have p22 : 0 ≤ ((ji17) : Int) := of_decide_eq_true (by first | (with_reducible assumption) | assumption); have q22 : ((ji17) : Int) < ((x5_2.length : Int) : Int) := of_decide_eq_true (by first | (with_reducible assumption) | assumption); obtain ⟨hx22_0, hf22_0⟩ := Kd.R_celln 0 HO_5.out ((ji17) : Int) p22 q22; replace p22 := eq_true p22; replace q22 := eq_true q22; have HP25 := Kd.R_putn HO_5.out ((ji17) : Int) (wrap64 ((rd x5_2 (ji17)) + (rd x5_2 x6_1))); rw [← Ny181.out] at HP25; have HQ25 := Aside0.mk HP25; clear HP25; refine start_ (n := 27) (S := fun w' => w'.cell? (ad175.add ((x7_2).toNat * 2)) = some (.slice A177_0 ((rd_T55 l0 x7_2).f0).length c177_0) ∧ w'.cell? ⟨(ad175.add ((x7_2).toNat * 2)).block, (ad175.add ((x7_2).toNat * 2)).off + 1, none⟩ = some (.int .i64 ((rd_T55 l0 x7_2).f1)) ∧ w'.cell? (ad175.add ((x7_2).toNat * 2)) = some (.slice A177_0 ((rd_T55 l0 x7_2).f0).length c177_0) ∧ w'.cell? ⟨(ad175.add ((x7_2).toNat * 2)).block, (ad175.add ((x7_2).toNat * 2)).off + 1, none⟩ = some (.int .i64 ((rd_T55 l0 x7_2).f1)) ∧ w'.cell? ⟨go7, ((ji17)).toNat, none⟩ = some (.int .i64 (rd x5_2 (ji17))) ∧ w'.cell? ⟨go7, (x6_1).toNat, none⟩ = some (.int .i64 (rd x5_2 x6_1))) (ds := [26]) (rowB 27 0) (by kernel_rfl) rfl rfl ⟨((HB.out.cell (World.block_lt_of_cell? w _ hw177_0)).trans hw177_0), ((HB.out.cell (World.block_lt_of_cell? w _ hw177_1)).trans hw177_1), ((HB.out.cell (World.block_lt_of_cell? w _ hw178_0)).trans hw178_0), ((HB.out.cell (World.block_lt_of_cell? w _ hw178_1)).trans hw178_1), hx179_0, hx180_0⟩ (fun hHeld => ?_); refine with_tabW spec_l6fFrom.tab10 spec_l6fFrom.bits10 (fun HT_ HW_ => ?_); generalize w23.drew = w24 at HO_5 HB HQ25 HR177_0 HR178_0 hf22_0 hx177_0 hx177_1 hx178_0 hx178_1 hx179_0 hx180_0 hx22_0 hHeld ⊢; refine pure_ (i := 0) (N := some 33) (v := ?_) (a' := ?_) (rowB 27 1) rfl rfl (any_of HT_.out (by kernel_rfl)) (fun _ _ _ h => h) (Or.inl ⟨by rfl, ?_⟩) ?_ ?_; rotate_left; (· intro w'; go_simp; with_reducible rfl); rotate_left; (· simp only [Act.put, List.setIfInBounds_toArray, List.set_cons_zero, List.set_cons_succ, i64_w, i32_w]; rfl); refine pure_ (i := 1) (N := some 34) (v := ?_) (a' := ?_) (rowB 27 3) rfl rfl (any_of HT_.out (by kernel_rfl)) (fun _ _ _ h => h) (Or.inl ⟨by rfl, ?_⟩) ?_ ?_; rotate_left; (· intro w'; go_simp; with_reducible rfl); rotate_left; (· simp only [Act.put, List.setIfInBounds_toArray, List.set_cons_zero, List.set_cons_succ, i64_w, i32_w]; rfl); refine pure_ (i := 2) (N := some 35) (v := ?_) (a' := ?_) (rowB 27 7) rfl rfl (any_of HT_.out (by kernel_rfl)) (fun _ _ _ h => h) (Or.inl ⟨by rfl, ?_⟩) ?_ ?_; rotate_left; (· intro w'; go_simp; with_reducible rfl); rotate_left; (· simp only [Act.put, List.setIfInBounds_toArray, List.set_cons_zero, List.set_cons_succ, i64_w, i32_w]; rfl); refine pure_ (i := 3) (N := some 36) (v := ?_) (a' := ?_) (rowB 27 15) rfl rfl (any_of HT_.out (by kernel_rfl)) (fun _ _ _ h => h) (Or.inl ⟨by rfl, ?_⟩) ?_ ?_; rotate_left; (· intro w'; go_simp; with_reducible rfl); rotate_left; (· simp only [Act.put, List.setIfInBounds_toArray, List.set_cons_zero, List.set_cons_succ, i64_w, i32_w]; rfl); refine pure_ (i := 4) (N := some 37) (v := ?_) (a' := ?_) (rowB 27 31) rfl rfl (any_of HT_.out (by kernel_rfl)) (fun _ _ _ h => h) (Or.inl ⟨by rfl, ?_⟩) ?_ ?_; rotate_left; (· intro w'; go_simp; with_reducible rfl); rotate_left; (· simp only [Act.put, List.setIfInBounds_toArray, List.set_cons_zero, List.set_cons_succ, i64_w, i32_w]; rfl); refine pure_ (i := 5) (N := some 38) (v := ?_) (a' := ?_) (rowB 27 63) rfl rfl (any_of HT_.out (by kernel_rfl)) (fun _ _ _ h => h) (Or.inl ⟨by rfl, ?_⟩) ?_ ?_; rotate_left; (· intro w'; go_simp; with_reducible rfl); rotate_left; (· simp only [Act.put, List.setIfInBounds_toArray, List.set_cons_zero, List.set_cons_succ, i64_w, i32_w]; rfl); refine pure_ (i := 9) (N := some 42) (v := ?_) (a' := ?_) (rowB 27 575) rfl rfl (any_of HT_.out (by kernel_rfl)) (fun _ _ _ h => h) (Or.inl ⟨by rfl, ?_⟩) ?_ ?_; rotate_left; (· intro w'; go_simp; with_reducible rfl); rotate_left; (· simp only [Act.put, List.setIfInBounds_toArray, List.set_cons_zero, List.set_cons_succ, i64_w, i32_w]; rfl); refine pure_ (i := 10) (N := some 43) (v := ?_) (a' := ?_) (rowB 27 1599) rfl rfl (any_of HT_.out (by kernel_rfl)) (fun _ _ _ h => h) (Or.inl ⟨by rfl, ?_⟩) ?_ ?_; rotate_left; (· intro w'; go_simp; with_reducible rfl); rotate_left; (· simp only [Act.put, List.setIfInBounds_toArray, List.set_cons_zero, List.set_cons_succ, i64_w, i32_w]; rfl); refine pure_ (i := 11) (N := some 44) (v := ?_) (a' := ?_) (rowB 27 3647) rfl rfl (any_of HT_.out (by kernel_rfl)) (fun _ _ _ h => h) (Or.inl ⟨by rfl, ?_⟩) ?_ ?_; rotate_left; (· intro w'; go_simp; with_reducible rfl); rotate_left; (· simp only [Act.put, List.setIfInBounds_toArray, List.set_cons_zero, List.set_cons_succ, i64_w, i32_w]; rfl); refine pure_ (i := 12) (N := some 45) (v := ?_) (a' := ?_) (rowB 27 7743) rfl rfl (any_of HT_.out (by kernel_rfl)) (fun _ _ _ h => h) (Or.inl ⟨by rfl, ?_⟩) ?_ ?_; rotate_left; (· intro w'; go_simp; with_reducible rfl); rotate_left; (· simp only [Act.put, List.setIfInBounds_toArray, List.set_cons_zero, List.set_cons_succ, i64_w, i32_w]; rfl); refine pure_ (i := 13) (N := some 46) (v := ?_) (a' := ?_) (rowB 27 15935) rfl rfl (any_of HT_.out (by kernel_rfl)) (fun _ _ _ h => h) (Or.inl ⟨by rfl, ?_⟩) ?_ ?_; rotate_left; (· intro w'; go_simp; with_reducible rfl); rotate_left; (· simp only [Act.put, List.setIfInBounds_toArray, List.set_cons_zero, List.set_cons_succ, i64_w, i32_w]; rfl); refine pure_ (i := 14) (N := some 47) (v := ?_) (a' := ?_) (rowB 27 32319) rfl rfl (any_of HT_.out (by kernel_rfl)) (fun _ _ _ h => h) (Or.inl ⟨by rfl, ?_⟩) ?_ ?_; rotate_left; (· intro w'; go_simp; with_reducible rfl); rotate_left; (· simp only [Act.put, List.setIfInBounds_toArray, List.set_cons_zero, List.set_cons_succ, i64_w, i32_w]; rfl); refine pure_ (i := 20) (N := some 53) (v := ?_) (a' := ?_) (rowB 27 1080895) rfl rfl (any_of HT_.out (by kernel_rfl)) (fun _ _ _ h => h) (Or.inl ⟨by rfl, ?_⟩) ?_ ?_; rotate_left; (· intro w'; go_simp; with_reducible rfl); rotate_left; (· simp only [Act.put, List.setIfInBounds_toArray, List.set_cons_zero, List.set_cons_succ, i64_w, i32_w]; rfl); refine pure_ (i := 21) (N := some 54) (v := ?_) (a' := ?_) (rowB 27 3178047) rfl rfl (any_of HT_.out (by kernel_rfl)) (fun _ _ _ h => h) (Or.inl ⟨by rfl, ?_⟩) ?_ ?_; rotate_left; (· intro w'; go_simp; with_reducible rfl); rotate_left; (· simp only [Act.put, List.setIfInBounds_toArray, List.set_cons_zero, List.set_cons_succ, i64_w, i32_w]; rfl); refine pure_ (i := 22) (N := some 55) (v := ?_) (a' := ?_) (rowB 27 7372351) rfl rfl (any_of HT_.out (by kernel_rfl)) (fun _ _ _ h => h) (Or.inl ⟨by rfl, ?_⟩) ?_ ?_; rotate_left; (· intro w'; go_simp; with_reducible rfl); rotate_left; (· simp only [Act.put, List.setIfInBounds_toArray, List.set_cons_zero, List.set_cons_succ, i64_w, i32_w]; rfl); refine take_ (i := 6) (N := some 39) (v := ?_) (a' := ?_) (rowB 27 7372415) rfl rfl (take_ofW HT_.out HW_.out (by kernel_rfl)) (fun _ _ _ h => h) (Or.inl ⟨by rfl, ?_⟩) hHeld ?_ ?_; rotate_left; (· rintro w' ⟨s0, s1, s2, s3, s4, s5⟩; go_simp; with_reducible rfl); rotate_left; (· simp only [Act.put, List.setIfInBounds_toArray, List.set_cons_zero, List.set_cons_succ, i64_w, i32_w]; rfl); refine pure_ (i := 7) (N := some 40) (v := ?_) (a' := ?_) (rowB 27 7372543) rfl rfl (any_of HT_.out (by kernel_rfl)) (fun _ _ _ h => h) (Or.inl ⟨by rfl, ?_⟩) ?_ ?_; rotate_left; (· intro w'; go_simp; with_reducible rfl); rotate_left; (· simp only [Act.put, List.setIfInBounds_toArray, List.set_cons_zero, List.set_cons_succ, i64_w, i32_w]; rfl); refine pure_ (i := 8) (N := some 41) (v := ?_) (a' := ?_) (rowB 27 7372799) rfl rfl (any_of HT_.out (by kernel_rfl)) (fun _ _ _ h => h) (Or.inl ⟨by rfl, ?_⟩) ?_ ?_; rotate_left; (· intro w'; go_simp; with_reducible rfl); rotate_left; (· simp only [Act.put, List.setIfInBounds_toArray, List.set_cons_zero, List.set_cons_succ, i64_w, i32_w]; rfl); refine take_ (i := 15) (N := some 48) (v := ?_) (a' := ?_) (rowB 27 7405567) rfl rfl (take_ofW HT_.out HW_.out (by kernel_rfl)) (fun _ _ _ h => h) (Or.inl ⟨by rfl, ?_⟩) hHeld ?_ ?_; rotate_left; (· rintro w' ⟨s0, s1, s2, s3, s4, s5⟩; go_simp; with_reducible rfl); rotate_left; (· simp only [Act.put, List.setIfInBounds_toArray, List.set_cons_zero, List.set_cons_succ, i64_w, i32_w]; rfl); refine pure_ (i := 16) (N := some 49) (v := ?_) (a' := ?_) (rowB 27 7471103) rfl rfl (any_of HT_.out (by kernel_rfl)) (fun _ _ _ h => h) (Or.inl ⟨by rfl, ?_⟩) ?_ ?_; rotate_left; (· intro w'; go_simp; with_reducible rfl); rotate_left; (· simp only [Act.put, List.setIfInBounds_toArray, List.set_cons_zero, List.set_cons_succ, i64_w, i32_w]; rfl); refine pure_ (i := 17) (N := some 50) (v := ?_) (a' := ?_) (rowB 27 7602175) rfl rfl (any_of HT_.out (by kernel_rfl)) (fun _ _ _ h => h) (Or.inl ⟨by rfl, ?_⟩) ?_ ?_; rotate_left; (· intro w'; go_simp; with_reducible rfl); rotate_left; (· simp only [Act.put, List.setIfInBounds_toArray, List.set_cons_zero, List.set_cons_succ, i64_w, i32_w]; rfl); refine pure_ (i := 18) (N := some 51) (v := ?_) (a' := ?_) (rowB 27 7864319) rfl rfl (any_of HT_.out (by kernel_rfl)) (fun _ _ _ h => h) (Or.inl ⟨by rfl, ?_⟩) ?_ ?_; rotate_left; (· intro w'; go_simp; with_reducible rfl); rotate_left; (· simp only [Act.put, List.setIfInBounds_toArray, List.set_cons_zero, List.set_cons_succ, i64_w, i32_w]; rfl); refine take_ (i := 19) (N := some 52) (v := ?_) (a' := ?_) (rowB 27 8388607) rfl rfl (take_ofW HT_.out HW_.out (by kernel_rfl)) (fun _ _ _ h => h) (Or.inl ⟨by rfl, ?_⟩) hHeld ?_ ?_; rotate_left; (· rintro w' ⟨s0, s1, s2, s3, s4, s5⟩; go_simp; with_reducible rfl); rotate_left; (· simp only [Act.put, List.setIfInBounds_toArray, List.set_cons_zero, List.set_cons_succ, i64_w, i32_w]; rfl); refine take_ (i := 23) (N := some 56) (v := ?_) (a' := ?_) (rowB 27 16777215) rfl rfl (take_ofW HT_.out HW_.out (by kernel_rfl)) (fun _ _ _ h => h) (Or.inl ⟨by rfl, ?_⟩) hHeld ?_ ?_; rotate_left; (· rintro w' ⟨s0, s1, s2, s3, s4, s5⟩; go_simp; with_reducible rfl); rotate_left; (· simp only [Act.put, List.setIfInBounds_toArray, List.set_cons_zero, List.set_cons_succ, i64_w, i32_w]; rfl); refine pure_ (i := 24) (N := some 57) (v := ?_) (a' := ?_) (rowB 27 33554431) rfl rfl (any_of HT_.out (by kernel_rfl)) (fun _ _ _ h => h) (Or.inl ⟨by rfl, ?_⟩) ?_ ?_; rotate_left; (· intro w'; go_simp; with_reducible rfl); rotate_left; (· simp only [Act.put, List.setIfInBounds_toArray, List.set_cons_zero, List.set_cons_succ, i64_w, i32_w]; rfl); refine pure_ (i := 25) (N := some 58) (v := ?_) (a' := ?_) (rowB 27 67108863) rfl rfl (any_of HT_.out (by kernel_rfl)) (fun _ _ _ h => h) (Or.inl ⟨by rfl, ?_⟩) ?_ ?_; rotate_left; (· intro w'; go_simp; with_reducible rfl); rotate_left; (· simp only [Act.put, List.setIfInBounds_toArray, List.set_cons_zero, List.set_cons_succ, i64_w, i32_w]; rfl); refine last_ (i := 26) (N := none) (rowB 27 134217727) rfl rfl (one_of HT_.out (by kernel_rfl)) (by decide) (fun K hK => ?_); refine skip_ (w1 := ?_) (by rfl) rfl ?_ ?_; rotate_left; (· go_simp; rfl); refine hK.out _ _ ?_; clear hK K; refine done_ (done_of HT_.out (by kernel_rfl)) ?_; try go_wp2
                (try simp only [← hl5_2])
                go_roundg k2
                case measure => have := HK1.out; have := HK2.out; omega
                case rel => exact ⟨(y181), (wrap64 (x7_2 + 1)), (by first | rfl | (simp; done) | (simp [*]; done)), H', ⟨by have := HK1.out; have := HK2.out; omega⟩, ⟨by (try simp only [hl5_1]); (try simp only [hl5_2]); (with_reducible repeat (first | apply Kd.R_alloc | apply Kd.R_drewN | apply Kd.R_drew)); exact HQ25.out⟩, ⟨by repeat (first | (with_reducible first | exact HB.out | apply below_alloc | apply pw_below_drewN | apply below_drew1 | refine below_set ?_ GB7.out) | exact HB.out)⟩⟩
               ·
                rw [if_neg c21] at H; exact absurd H (by simp)
              ·
               rw [if_neg c20] at H; exact absurd H (by simp)
             ·
              rw [if_neg c19] at H; exact absurd H (by simp)
            ·
             rw [if_neg c18] at H; exact absurd H (by simp)
           ·
            replace c16 := Bool.eq_false_iff.mpr c16; subst c16; have H1 : (spec_l6fFrom.l1 k2 l0 l1 x5_2 x6_1 (wrap64 (x7_2 + 1))) = some r := by rw [if_neg (show ¬ (false = true) by decide)] at H; exact H
            clear H; have H := H1; clear H1; have H' := Aside0.mk H; clear H; have p175 : 0 ≤ (x7_2 : Int) := of_decide_eq_true (by first | (with_reducible assumption) | assumption); have q175 : x7_2 < (l0.length : Int) := of_decide_eq_true (by first | (with_reducible assumption) | assumption); obtain ⟨ad175, A175_0, c175_0, e175, hx175_0, hx175_1, hl175_0, hi175_0⟩ := at_T55 HR0.out x7_2 p175 q175; cases e175; replace hx175_0 := (HB.out.cell (World.block_lt_of_cell? w _ hx175_0)).trans hx175_0; replace hx175_1 := (HB.out.cell (World.block_lt_of_cell? w _ hx175_1)).trans hx175_1; have HR175_0 := Aside0.mk hi175_0; have HC175_0 := Aside0.mk hl175_0; clear hi175_0 hl175_0; replace p175 := eq_true p175; replace q175 := eq_true q175; go_wp2_with (first | ((with_reducible refine gate_callee (f := 83) rfl ?_); refine goesL_ (some 32) rfl rfl Try.func83 (by kernel_rfl) rfl #[.agg #[.slice A175_0 ((rd_T55 l0 x7_2).f0).length c175_0, .int .i64 ((rd_T55 l0 x7_2).f1)], .slice A1 l1.length c1, .int .i64 x6_1] rfl (by (try simp only [List.map_toArray, List.map_cons, List.map_nil]); first | done | rfl | (simp only [List.length_drop, List.length_take]; rfl)) ?_; (with_reducible refine (spec_l6fAt.calls k2 _ _ ((rd_T55 l0 x7_2).f0) ((rd_T55 l0 x7_2).f1) _ _ l1 x6_1 false _ ?side1 ?side2 ?side3 ?side4 A15.out).mono ?_); (case side1 => repeat (first | exact (Kd.C_below HR175_0.out HB.out) | (with_reducible refine Kd.C_alloc ?_ _) | (with_reducible refine Kd.C_drewN ?_ _) | (with_reducible refine Kd.C_drew ?_))); (case side2 => exact HC175_0.out); (case side3 => repeat (first | exact (Kd.C_below HR1.out HB.out) | (with_reducible refine Kd.C_alloc ?_ _) | (with_reducible refine Kd.C_drewN ?_ _) | (with_reducible refine Kd.C_drew ?_))); (case side4 => exact HC1.out); rintro e w26 ⟨rfl, hb⟩; refine ⟨_, rfl, ?_⟩; have n0_ := Aside0.mk (Kd.R_below (by (with_reducible repeat (first | apply Kd.R_alloc | apply Kd.R_drewN | apply Kd.R_drew)); exact HO_5.out) hb); have n1_ := Aside0.mk (below_step (by repeat (first | (with_reducible first | exact HB.out | apply below_alloc | apply pw_below_drewN | apply below_drew1) | exact HB.out)) hb); clear HO_5; clear HB; have HO_5 := n0_; have HB := n1_; clear n0_ n1_; (try clear hb); (try clear hb2); (try clear hk); (try clear hi)))
            (try simp only [← hl5_2])
            go_roundg k2
            case measure => have := HK1.out; have := HK2.out; omega
            case rel => exact ⟨(x5_2), (wrap64 (x7_2 + 1)), (by first | rfl | (simp; done) | (simp [*]; done)), H', ⟨by have := HK1.out; have := HK2.out; omega⟩, ⟨by (try simp only [hl5_1]); (try simp only [hl5_2]); (with_reducible repeat (first | apply Kd.R_alloc | apply Kd.R_drewN | apply Kd.R_drew)); exact HO_5.out⟩, ⟨by repeat (first | (with_reducible first | exact HB.out | apply below_alloc | apply pw_below_drewN | apply below_drew1) | exact HB.out)⟩⟩
          ·
           rw [if_neg c14] at H; exact absurd H (by simp)
         ·
          rw [if_neg c13] at H; have c13b0 : decide (x7_2 < (l0.length : Int)) = false := decide_eq_false c13; clear c13; have H' := Aside0.mk H; clear H; go_wp2; (try simp only [← hl5_1, ← hl5_2])
          go_roundg k2
          case measure => have := HK1.out; have := HK2.out; omega
          case rel => exact ⟨(x5_2), (wrap64 (x6_1 + 1)), (by first | rfl | (simp; done) | (simp [*]; done)), H', ⟨by have := HK1.out; have := HK2.out; omega⟩, ⟨by (try simp only [hl5_1]); (try simp only [hl5_2]); (with_reducible repeat (first | apply Kd.R_alloc | apply Kd.R_drewN | apply Kd.R_drew)); exact HO_5.out⟩, ⟨by repeat (first | (with_reducible first | exact HB.out | apply below_alloc | apply pw_below_drewN | apply below_drew1) | exact HB.out)⟩⟩
      ·
       rw [if_neg c12] at H; have c12b0 : decide (x6_1 < (l1.length : Int)) = false := decide_eq_false c12; clear c12; obtain rfl := Option.some.inj H; go_wp2; go_ret
       exact ⟨_, by first | rfl | (simp [errW_none, errW_some] <;> rfl) | (simp only [← hji3]; first | rfl | (simp [errW_none, errW_some] <;> rfl)) | (simp [*, errW_none, errW_some] <;> rfl), by (with_reducible repeat (first | apply Kd.R_alloc | apply Kd.R_drewN | apply Kd.R_drew)); exact HO_5.out, by repeat (first | (with_reducible first | exact HB.out | apply below_alloc | apply pw_below_drewN | apply below_drew1) | exact HB.out)⟩
   ·
    rw [if_neg c6] at H; exact absurd H (by simp)
  ·
   rw [if_neg c5] at H; exact absurd H (by simp)
 ·
  rw [if_neg c4] at H; exact absurd H (by simp)

end Go.Proofs.Ytnemcppllfmioaa.PFnReadUsed
