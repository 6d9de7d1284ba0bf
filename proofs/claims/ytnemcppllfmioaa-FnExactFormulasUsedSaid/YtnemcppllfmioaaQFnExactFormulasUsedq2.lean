/- Lemmas on the printed functions for the law FnExactFormulasUsed. -/
import Derived.Test.YtnemcppllfmioaaQFnExactFormulasUsedq0
import Derived.Test.YtnemcppllfmioaaQFnExactFormulasUsedq1
import Derived.Deep.RegionHeld3
import Derived.BigRegion
import Derived.Deep.Slices
import Derived.Laws.CopyOwn
namespace Go.Proofs.Ytnemcppllfmioaa.Pure
set_option linter.unusedVariables false
set_option linter.unusedSimpArgs false
open Go Go.RowKit Go.Proofs.Ytnemcppllfmioaa.PFnExactFormulasUsed Go.Proofs.YtnemcppllfmioaaW.PrintWords Go.Proofs.YtnemcppllfmioaaW.PrintLast Go.Proofs.YtnemcppllfmioaaW.PrintMore

/-! the reader, each formula with which a reading begins handed to a closure -/
set_option maxHeartbeats 8000000 in
set_option maxRecDepth 100000 in
theorem impl_read_eachU {L : List S55} {S : List Int} {A0 : Option Addr} {c0 : Nat} {A1 : Option Addr} {c1 : Nat} {w0 : World} {R M : Nat} (hr0 : Kd.C k55 w0 A0 L.length L) (hc0 : L.length ≤ c0) (hr1 : Kd.C (Kd.int .i64) w0 A1 S.length S) (hc1 : S.length ≤ c1)
    (hL : ∀ f ∈ L, 1 ≤ f.f0.length ∧ f.f0.length ≤ 5) (hLl : L.length ≤ 8) (hSl : S.length ≤ 23) (hM : w0.heap.size ≤ M) (hR : w0.heap.size ≤ R) (hRM : R ≠ M) {F1 F2 F3 F4 : Nat} (h0 : List (Int × OutC)) (I : World → List (Int × OutC) → Prop) (hI : ∀ w w' h, I w h → Kept w w' (fun k => ¬ SCb w k) → I w' h)
    (p : Nat) (hC : ∀ w h (i : Int) (o : OutC), RdSt w0 w L S A0 c0 A1 c1 R M → I w h → 0 ≤ i → i < (L.length : Int) → (∃ r, h ++ (i, o) :: r = h0 ++ rdCalls L (S.drop p)) → Calls Try.prog 86 #[.int .i64 i, .agg #[.int .i64 o.f0, .int .i64 o.f1, .int .i64 o.f2], .pointer (some ⟨F1, 0, none⟩), .pointer (some ⟨F2, 0, none⟩), .pointer (some ⟨F3, 0, none⟩), .pointer (some ⟨F4, 0, none⟩)] w fun e w' => e = .returned (.tuple #[]) ∧ RdSt w0 w' L S A0 c0 A1 c1 R M ∧ I w' (h ++ [(i, o)]) ∧ Kept w w' (SCb w))
    (w : World) (hp : p ≤ S.length) (hst : RdSt w0 w L S A0 c0 A1 c1 R M) (h0I : I w h0) :
    Calls Try.prog 78 #[.pointer (some ⟨R, 0, none⟩), .int .i64 (p : Int), (Value.func (Fn.func 86) #[] #[.pointer (some ⟨F1, 0, none⟩), .pointer (some ⟨F2, 0, none⟩), .pointer (some ⟨F3, 0, none⟩), .pointer (some ⟨F4, 0, none⟩)])] w fun e w' => e = .returned (outV (rdO L (S.drop p))) ∧ RdSt w0 w' L S A0 c0 A1 c1 R M ∧ I w' (h0 ++ rdCalls L (S.drop p)) := by
  have HR0 := Aside0.mk hr0
  have HC0 := Aside0.mk hc0
  have HR1 := Aside0.mk hr1
  have HC1 := Aside0.mk hc1
  have HLL := Aside0.mk hL
  have HMR := Aside0.mk (And.intro hM (And.intro hR hRM))
  clear hr0 hc0 hr1 hc1 hL hM hR hRM
  have hu1 := Try.underlying109
  have hu2 := Try.underlying55
  have hu3 := Try.underlying134
  have HII := Aside0.mk hI
  have HCC := Aside0.mk hC
  have HNIL := Aside0.mk (impl_read_nil HR0.out HC0.out HR1.out HC1.out HLL.out hLl hSl HMR.out.1 HMR.out.2.1 HMR.out.2.2)
  have H0I := Aside0.mk h0I
  clear hI hC h0I
  have HST := Aside0.mk hst
  have HP := Aside0.mk hp
  obtain ⟨F, hF, hF'⟩ := hst.memo
  have HF := Aside0.mk (And.intro hF hF')
  have cR0 : w.cell? ⟨R, 0, none⟩ = some (.slice A0 L.length c0) := (blk_cell hst.blk 0).trans rfl
  have cR1 : w.cell? ⟨R, 1, none⟩ = some (.slice A1 S.length c1) := (blk_cell hst.blk 1).trans rfl
  have cR2 : w.cell? ⟨R, 2, none⟩ = some (.map (some M)) := (blk_cell hst.blk 2).trans rfl
  clear hst hF hF'
  by_cases hps : p = S.length
  · subst hps
    refine (impl_read_end HR0.out HC0.out HR1.out HC1.out HLL.out hLl hSl HMR.out.1 HMR.out.2.1 HMR.out.2.2 w _ HST.out).mono ?_
    rintro e w' ⟨h1, h2, h3⟩
    refine ⟨h1, h2, ?_⟩
    have e : rdCalls L (S.drop S.length) = [] := by rw [List.drop_length]; rfl
    rw [e, List.append_nil]
    exact HII.out _ _ _ H0I.out (h3.mono (fun k hk => by subst hk; exact HST.out.nsc))
  have e1 : ((p : Int) == (S.length : Int)) = false := by rw [beq_eq_false_iff_ne]; omega
  have e1' : (p == S.length) = false := by rw [beq_eq_false_iff_ne]; exact hps
  have hne : S.drop p ≠ [] := by
    intro h
    have := congrArg List.length h
    rw [List.length_drop, List.length_nil] at this
    omega
  have HNE := Aside0.mk hne
  clear hne hps hp
  obtain ⟨x0, y0_, z0_, bk, hlk0⟩ : ∃ x y z b, (if true = true then Value.tuple #[(F (p : Int)).getD (.agg #[.int .i64 0, .int .i64 0, .int .i64 0]), .bool (F (p : Int)).isSome] else (F (p : Int)).getD (.agg #[.int .i64 0, .int .i64 0, .int .i64 0])) = .tuple #[.agg #[.int .i64 x, .int .i64 y, .int .i64 z], .bool b] := by
    cases hFp : F (p : Int) with
    | some v =>
      obtain ⟨p', _, _, h3⟩ := HF.out.2 _ _ hFp
      exact ⟨_, _, _, true, by rw [h3]; rfl⟩
    | none => exact ⟨0, 0, 0, false, rfl⟩
  have HFP := Aside0.mk hlk0
  clear hlk0
  have hcl : rdCalls L (S.drop p) = rdC (rdO L) (S.drop p) 0 L := if_neg HNE.out
  have HCL := Aside0.mk hcl
  clear hcl
  have hs := rdO_step (fun f hf => (HLL.out f hf).1) HNE.out
  have HS := Aside0.mk hs
  clear hs
  have hq : ∀ w, (binOp .eql 112 (Value.func (Fn.func 86) #[] #[.pointer (some ⟨F1, 0, none⟩), .pointer (some ⟨F2, 0, none⟩), .pointer (some ⟨F3, 0, none⟩), .pointer (some ⟨F4, 0, none⟩)]) .nilFunc).run Try.prog w = .ok (.bool false) w := fun _ => by kernel_rfl
  have hq2 : ∀ w, (binOp .neq 112 (Value.func (Fn.func 86) #[] #[.pointer (some ⟨F1, 0, none⟩), .pointer (some ⟨F2, 0, none⟩), .pointer (some ⟨F3, 0, none⟩), .pointer (some ⟨F4, 0, none⟩)]) .nilFunc).run Try.prog w = .ok (.bool true) w := fun _ => by kernel_rfl
  cases bk
  all_goals
   go_enter Try.func78, Try.ntmps78
   go_upto_region 3 with (first
     | ((with_reducible refine gate_dst (N := 6) rfl ?_); refine box_event ?hg (N := 6) ?hd (cs := #[.int .i64 0, .int .i64 0, .int .i64 0]) (t := 109) ?hr ?_; (case hd => rfl); (case hg => rfl); (case hr => first | (go_simp; done) | (go_simp; rfl)); intro g6 hg w6 hbox hb; have HK6 := Aside0.mk hbox; have HB6 := Aside0.mk hb; have N6 := Aside0.mk (show w.heap.size ≤ g6 from (by rw [hg]; exact Nat.le_refl _)); have cS1 := pw_cell_below hb cR1; have cS2 := pw_cell_below hb cR2; have cS0 := pw_cell_below hb cR0; have HL6 := Aside0.mk (MapFn.look (HF.out.1.move (hb.block _ HF.out.1.lt)) Try.underlying132 Try.underlying3 (z := .agg #[.int .i64 0, .int .i64 0, .int .i64 0]) (fun _ => by kernel_rfl) (p : Int) true); clear hg hbox hb))
   have hlk := HL6.out
   rw [HFP.out] at hlk
   go_upto_region 4 with (first
     | ((with_reducible refine gate_dst (N := 7) rfl ?_); refine box_event ?hg (N := 7) ?hd (cs := #[.int .i64 0, .int .i64 0, .int .i64 0]) (t := 109) ?hr ?_; (case hd => rfl); (case hg => rfl); (case hr => first | (go_simp; done) | (go_simp; rfl)); intro g7 hg w7 hbox hb; have HK7 := Aside0.mk hbox; have HB7 := Aside0.mk (below_step HB6.out hb); have HK6' := Aside0.mk (blk_below HK6.out hb); have NE := Aside0.mk (show g6 ≠ g7 from (by rw [hg]; exact Nat.ne_of_lt (blk_lt HK6.out))); have N7 := Aside0.mk (show w.heap.size ≤ g7 from (by rw [hg]; exact HB6.out.size)); have cz0 : w7.cell? ⟨g7, 0, none⟩ = some (.int .i64 0) := (blk_cell HK7.out 0).trans rfl; have cz1 : w7.cell? ⟨g7, 1, none⟩ = some (.int .i64 0) := (blk_cell HK7.out 1).trans rfl; have cz2 : w7.cell? ⟨g7, 2, none⟩ = some (.int .i64 0) := (blk_cell HK7.out 2).trans rfl; have fz0 := blk_frozen HK7.out 0; have fz1 := blk_frozen HK7.out 1; have fz2 := blk_frozen HK7.out 2; clear hg hbox hb))
   have W7 : Aside0 ((((w7.setCell ⟨g7, 0, none⟩ (.int .i64 x0)).setCell ⟨g7, 1, none⟩ (.int .i64 y0_)).setCell ⟨g7, 2, none⟩ (.int .i64 z0_)).heap[g7]? = some (.cells #[.int .i64 x0, .int .i64 y0_, .int .i64 z0_] 109 (0, 0))) := ⟨blk_put (cs := #[.int .i64 x0, .int .i64 y0_, .int .i64 0]) (blk_put (cs := #[.int .i64 x0, .int .i64 0, .int .i64 0]) (blk_put (cs := #[.int .i64 0, .int .i64 0, .int .i64 0]) HK7.out 0 _ rfl) 1 _ rfl) 2 _ rfl⟩
   have W6 : Aside0 ((((w7.setCell ⟨g7, 0, none⟩ (.int .i64 x0)).setCell ⟨g7, 1, none⟩ (.int .i64 y0_)).setCell ⟨g7, 2, none⟩ (.int .i64 z0_)).heap[g6]? = some (.cells #[.int .i64 0, .int .i64 0, .int .i64 0] 109 (0, 0))) := ⟨blk_far (blk_far (blk_far HK6'.out NE.out _) NE.out _) NE.out _⟩
   have HB9 : Aside0 (Below w.heap.size w (((w7.setCell ⟨g7, 0, none⟩ (.int .i64 x0)).setCell ⟨g7, 1, none⟩ (.int .i64 y0_)).setCell ⟨g7, 2, none⟩ (.int .i64 z0_))) := ⟨below_set (below_set (below_set HB7.out N7.out) N7.out) N7.out⟩
   clear HB7 HK7 HK6' HB6 HK6 cz0 cz1 cz2 fz0 fz1 fz2 cS0 cS1 cS2
   generalize (((w7.setCell ⟨g7, 0, none⟩ (.int .i64 x0)).setCell ⟨g7, 1, none⟩ (.int .i64 y0_)).setCell ⟨g7, 2, none⟩ (.int .i64 z0_)) = w9 at W7 W6 HB9 ⊢
   have cS0 := pw_cell_below HB9.out cR0
   have cS1 := pw_cell_below HB9.out cR1
   have cS2 := pw_cell_below HB9.out cR2
   have y0 : w9.cell? ⟨g6, 0, none⟩ = some (.int .i64 0) := (blk_cell W6.out 0).trans rfl
   have y1 : w9.cell? ⟨g6, 1, none⟩ = some (.int .i64 0) := (blk_cell W6.out 1).trans rfl
   have y2 : w9.cell? ⟨g6, 2, none⟩ = some (.int .i64 0) := (blk_cell W6.out 2).trans rfl
   have f0 := blk_frozen W6.out 0
   have f1 := blk_frozen W6.out 1
   have f2 := blk_frozen W6.out 2
   go_upto_region 7 with (first
     | ((with_reducible refine gate_dst (N := 9) rfl ?_); refine box_event ?hg (N := 9) ?hd (cs := #[.int .i64 0, .int .i64 0, .int .i64 0]) (t := 109) ?hr ?_; (case hd => rfl); (case hg => rfl); (case hr => first | (go_simp; done) | (go_simp; rfl)); intro g9 hg w10 hbox hb; have HK9 := Aside0.mk hbox; have HB10 := Aside0.mk (below_step HB9.out hb); have W6' := Aside0.mk (blk_below W6.out hb); have NE9 := Aside0.mk (show g6 ≠ g9 from (by rw [hg]; exact Nat.ne_of_lt (blk_lt W6.out))); have N9 := Aside0.mk (show w.heap.size ≤ g9 from (by rw [hg]; exact HB9.out.size)); have cz0 : w10.cell? ⟨g9, 0, none⟩ = some (.int .i64 0) := (blk_cell HK9.out 0).trans rfl; have cz1 : w10.cell? ⟨g9, 1, none⟩ = some (.int .i64 0) := (blk_cell HK9.out 1).trans rfl; have cz2 : w10.cell? ⟨g9, 2, none⟩ = some (.int .i64 0) := (blk_cell HK9.out 2).trans rfl; have fz0 := blk_frozen HK9.out 0; have fz1 := blk_frozen HK9.out 1; have fz2 := blk_frozen HK9.out 2; clear cS0 cS1 cS2; have cS0 := pw_cell_below HB10.out cR0; have cS1 := pw_cell_below HB10.out cR1; have cS2 := pw_cell_below HB10.out cR2; clear hg hbox hb))
   have W9 : Aside0 ((((w10.setCell ⟨g9, 0, none⟩ (.int .i64 0)).setCell ⟨g9, 1, none⟩ (.int .i64 0)).setCell ⟨g9, 2, none⟩ (.int .i64 0)).heap[g9]? = some (.cells #[.int .i64 0, .int .i64 0, .int .i64 0] 109 (0, 0))) := ⟨blk_put (cs := #[.int .i64 0, .int .i64 0, .int .i64 0]) (blk_put (cs := #[.int .i64 0, .int .i64 0, .int .i64 0]) (blk_put (cs := #[.int .i64 0, .int .i64 0, .int .i64 0]) HK9.out 0 _ rfl) 1 _ rfl) 2 _ rfl⟩
   have W6b : Aside0 ((((w10.setCell ⟨g9, 0, none⟩ (.int .i64 0)).setCell ⟨g9, 1, none⟩ (.int .i64 0)).setCell ⟨g9, 2, none⟩ (.int .i64 0)).heap[g6]? = some (.cells #[.int .i64 0, .int .i64 0, .int .i64 0] 109 (0, 0))) := ⟨blk_far (blk_far (blk_far W6'.out NE9.out _) NE9.out _) NE9.out _⟩
   have HB11 : Aside0 (Below w.heap.size w (((w10.setCell ⟨g9, 0, none⟩ (.int .i64 0)).setCell ⟨g9, 1, none⟩ (.int .i64 0)).setCell ⟨g9, 2, none⟩ (.int .i64 0))) := ⟨below_set (below_set (below_set HB10.out N9.out) N9.out) N9.out⟩
   clear HB10 HK9 W6' W6 W7 HB9 cz0 cz1 cz2 fz0 fz1 fz2 cS0 cS1 cS2 y0 y1 y2 f0 f1 f2
   generalize (((w10.setCell ⟨g9, 0, none⟩ (.int .i64 0)).setCell ⟨g9, 1, none⟩ (.int .i64 0)).setCell ⟨g9, 2, none⟩ (.int .i64 0)) = w11 at W9 W6b HB11 ⊢
   have cS0 := pw_cell_below HB11.out cR0
   have HST11 := Aside0.mk (HST.out.kept HB11.out)
   have HKP := Aside0.mk (HII.out _ _ _ H0I.out (Kept.of_below HB11.out _))
   clear HB11 HL6 hlk cR0 cR1 cR2
   go_wp2
   go_loopg [42] L.length (fun kq v42 w' => ∃ (i : Nat) (acc : OutC) (hist : List (Int × OutC)), v42 = .int .i64 (i : Int) ∧ Aside0 (kq = L.length - i ∧ i ≤ L.length ∧ rdA (rdO L) (S.drop p) (L.drop i) acc = rdO L (S.drop p) ∧ hist ++ rdC (rdO L) (S.drop p) (i : Int) (L.drop i) = h0 ++ rdCalls L (S.drop p)) ∧ Aside0 (w'.heap[g9]? = some (.cells #[.int .i64 acc.f0, .int .i64 acc.f1, .int .i64 acc.f2] 109 (0, 0)) ∧ w'.heap[g6]? = some (.cells #[.int .i64 0, .int .i64 0, .int .i64 0] 109 (0, 0))) ∧ Aside0 (RdSt w0 w' L S A0 c0 A1 c1 R M) ∧ Aside0 (I w' hist))
   case atStart => exact ⟨0, ⟨0, 0, 0⟩, h0, rfl, ⟨rfl, Nat.zero_le _, HS.out.symm, by rw [HCL.out, List.drop_zero]; rfl⟩, ⟨W9.out, W6b.out⟩, HST11, HKP⟩
   case round =>
     clear W9 W6b HST11 HKP cS0
     obtain ⟨i, acc, hist, rfl, HX, HG, HR, HKP⟩ := hrel
     by_cases hi : (i : Int) < (L.length : Int)
     · have d1 : decide ((i : Int) < (L.length : Int)) = true := decide_eq_true hi
       have p0 : (0 : Int) ≤ (i : Int) := by omega
       obtain ⟨ad, Af, cf, e0, ux0, ux1, hcf, hrf⟩ := at_T55 (Kd.C_below HR0.out HR.out.below) (i : Int) p0 hi
       subst e0
       obtain ⟨f, hf⟩ : ∃ f, f = rd_T55 L (i : Int) := ⟨_, rfl⟩
       rw [← hf] at ux0 ux1 hcf hrf
       simp only [Int.toNat_natCast] at ux0 ux1
       have hdr : L.drop i = f :: L.drop (i + 1) := by
         rw [List.drop_eq_getElem_cons (by omega), hf]
         unfold rd_T55
         rw [Int.toNat_natCast, List.getD_eq_getElem?_getD, List.getElem?_eq_getElem (by omega)]; rfl
       have hfl := HLL.out f (by rw [hf]; exact rd_mem p0 hi)
       have hX := HX.out.2.2.1
       have hY := HX.out.2.2.2
       rw [hdr] at hX
       simp only [rdA] at hX
       rw [hdr] at hY
       simp only [rdC] at hY
       obtain ⟨T, hT⟩ : ∃ T, T = S.drop p := ⟨_, rfl⟩
       have HTT := Aside0.mk hT
       have hTl : T.length = S.length - p := by rw [hT, List.length_drop]
       obtain ⟨i3, hi3, hz3, hs3, hy3⟩ := info_parts info3
       obtain ⟨At, ct, hcut, hrt, hct, _⟩ := cut_drop (Kd.int .i64) 46 3 Try.underlying46 hi3 hs3 (p : Int) HR1.out HC1.out (by omega) (by have := HP.out; omega)
       simp only [Int.toNat_natCast] at hcut hrt hct
       rw [← hT, ← hTl] at hrt
       rw [← hTl] at hcut hct
       rw [← hT] at hX hY
       obtain ⟨kb, hkb⟩ := Ev.rounds (impl_begins_ev T f.f0 (by omega))
       have HKB := Aside0.mk hkb
       have HRT := Aside0.mk hrt
       have HCT := Aside0.mk hct
       have HRF := Aside0.mk hrf
       have HCF := Aside0.mk hcf
       have HFL := Aside0.mk hfl
       have q0 := eq_true p0
       have q1 := eq_true hi
       have bi : i ≤ 1000000000000 := by omega
       have bp : p ≤ 23 := by have := HP.out; omega
       have bf : f.f0.length ≤ 5 := hfl.2
       have HIL := Aside0.mk (show i + 1 ≤ L.length by omega)
       have HSI := Aside0.mk (show p ≤ S.length by have := HP.out; omega)
       have HTL := Aside0.mk hTl
       have cR0 : wr.cell? ⟨R, 0, none⟩ = some (.slice (some ad) L.length c0) := (blk_cell HR.out.blk 0).trans rfl
       have cR1 : wr.cell? ⟨R, 1, none⟩ = some (.slice A1 S.length c1) := (blk_cell HR.out.blk 1).trans rfl
       have HXX := Aside0.mk hX
       have HYY := Aside0.mk hY
       clear hi p0 hf hdr hfl hX hY hT hTl hi3 hs3 hz3 hy3 hrt hct hrf hcf hkb i3
       go_upto_region 10 with (first
         | ((with_reducible refine gate_dst (N := 11) rfl ?_); refine box_event ?hg (N := 11) ?hd (cs := #[.slice none 0 0, .int .i64 0]) (t := 55) ?hr ?_; (case hd => rfl); (case hg => rfl); (case hr => first | (go_simp; done) | (go_simp; rfl)); intro g11 hg w12 hbox hb; have HK11 := Aside0.mk hbox; have HB12 := Aside0.mk hb; have N11 := Aside0.mk (show wr.heap.size ≤ g11 from (by rw [hg]; exact Nat.le_refl _)); have cz0 : w12.cell? ⟨g11, 0, none⟩ = some (.slice none 0 0) := (blk_cell HK11.out 0).trans rfl; have cz1 : w12.cell? ⟨g11, 1, none⟩ = some (.int .i64 0) := (blk_cell HK11.out 1).trans rfl; have fz0 := blk_frozen HK11.out 0; have fz1 := blk_frozen HK11.out 1; clear hg hbox hb))
       have WB : Aside0 (((w12.setCell ⟨g11, 0, none⟩ (.slice Af f.f0.length cf)).setCell ⟨g11, 1, none⟩ (.int .i64 f.f1)).heap[g11]? = some (.cells #[.slice Af f.f0.length cf, .int .i64 f.f1] 55 (0, 0))) := ⟨blk_put (cs := #[.slice Af f.f0.length cf, .int .i64 0]) (blk_put (cs := #[.slice none 0 0, .int .i64 0]) HK11.out 0 _ rfl) 1 _ rfl⟩
       have HBA : Aside0 (Below wr.heap.size wr ((w12.setCell ⟨g11, 0, none⟩ (.slice Af f.f0.length cf)).setCell ⟨g11, 1, none⟩ (.int .i64 f.f1))) := ⟨below_set (below_set HB12.out N11.out) N11.out⟩
       clear HK11 HB12 cz0 cz1 fz0 fz1 ux0 ux1
       generalize ((w12.setCell ⟨g11, 0, none⟩ (.slice Af f.f0.length cf)).setCell ⟨g11, 1, none⟩ (.int .i64 f.f1)) = wA at WB HBA ⊢
       have a0 := pw_cell_below HBA.out cR1
       have a1 : wA.cell? ⟨g11, 0, none⟩ = some (.slice Af f.f0.length cf) := (blk_cell WB.out 0).trans rfl
       clear cR0 cR1
       have HRA := Aside0.mk (HR.out.kept HBA.out)
       have HKA := Aside0.mk (HII.out _ _ _ HKP.out (Kept.of_below HBA.out _))
       have HGA := Aside0.mk (And.intro (blk_below HG.out.1 HBA.out) (blk_below HG.out.2 HBA.out))
       have HRTA := Aside0.mk (Kd.C_below HRT.out HRA.out.below)
       have HRFA := Aside0.mk (Kd.C_below HRF.out HBA.out)
       cases hb : isPre f.f0 T
       · rw [hb] at HKB HXX HYY
         have NX : Aside0 (L.length - (i + 1) < gk ∧ i + 1 ≤ L.length ∧ rdA (rdO L) T (L.drop (i + 1)) acc = rdO L T ∧ hist ++ rdC (rdO L) T ((i + 1 : Nat) : Int) (L.drop (i + 1)) = h0 ++ rdCalls L T) := ⟨by have := HX.out.1; have := HIL.out; omega, HIL.out, by have := HXX.out; simpa using this, by have := HYY.out; simpa using this⟩
         clear hb
         go_quiet ((go_at_call 72; ((with_reducible refine (impl_begins.calls kb _ _ T _ _ f.f0 false _ ?side1 ?side2 ?side3 ?side4 HKB.out).mono ?_); (case side1 => repeat (first | exact HRTA.out | (with_reducible refine Kd.C_drewN ?_ _))); (case side2 => exact HCT.out); (case side3 => repeat (first | exact HRFA.out | (with_reducible refine Kd.C_drewN ?_ _))); (case side4 => exact HCF.out); rintro e w' ⟨rfl, ⟨nd, rfl⟩⟩; (first | exact ⟨rfl, _, World.drewN_drewN _ _ _⟩ | exact ⟨rfl, _, Eq.trans (World.drewN_drewN _ _ _) (congrArg (World.drewN _) (Nat.add_assoc _ _ _))⟩))))
         go_wp2
         go_roundg (L.length - (i + 1))
         case measure => exact NX.out.1
         case rel => exact ⟨i + 1, acc, hist, by simp, ⟨rfl, NX.out.2.1, by rw [← HTT.out]; exact NX.out.2.2.1, by rw [← HTT.out]; exact NX.out.2.2.2⟩, HGA, ⟨HRA.out.kept (pw_below_drewN (Below.refl _ _) _)⟩, ⟨HII.out _ _ _ HKA.out (Kept.drewN (Kept.refl _ _) _)⟩⟩
       · rw [hb] at HKB HXX HYY
         have hpl := isPre_len hb
         have hp' : p + f.f0.length ≤ S.length := by have := HTL.out; have := HSI.out; omega
         obtain ⟨O, hO⟩ : ∃ O, O = rdO L (T.drop f.f0.length) := ⟨_, rfl⟩
         have hdd : S.drop (p + f.f0.length) = T.drop f.f0.length := by rw [HTT.out, List.drop_drop]
         have HC := Aside0.mk (show ∀ w, RdSt w0 w L S (some ad) c0 A1 c1 R M → Calls Try.prog 78 #[.pointer (some ⟨R, 0, none⟩), .int .i64 ((p : Int) + (f.f0.length : Int)), .nilFunc] w fun e w' => e = .returned (.agg #[.int .i64 O.f0, .int .i64 O.f1, .int .i64 O.f2]) ∧ RdSt w0 w' L S (some ad) c0 A1 c1 R M ∧ Kept w w' (fun k => k = M) from fun w h => by
           have h1 := HFL.out.1
           have h2 := HP.out
           have := HNIL.out S.length (p + f.f0.length) w hp' (by omega) h
           rw [hdd, ← hO, Int.natCast_add] at this
           exact this)
         have hX := HXX.out
         rw [if_pos rfl, ← hO] at hX
         have hY := HYY.out
         rw [if_pos rfl, ← hO] at hY
         have HX2 := Aside0.mk hX
         have HY2 := Aside0.mk hY
         clear hb hpl hO hdd hX hY hp'
         go_quiet ((go_at_call 72; ((with_reducible refine (impl_begins.calls kb _ _ T _ _ f.f0 true _ ?side1 ?side2 ?side3 ?side4 HKB.out).mono ?_); (case side1 => repeat (first | exact HRTA.out | (with_reducible refine Kd.C_drewN ?_ _))); (case side2 => exact HCT.out); (case side3 => repeat (first | exact HRFA.out | (with_reducible refine Kd.C_drewN ?_ _))); (case side4 => exact HCF.out); rintro e w' ⟨rfl, ⟨nd, rfl⟩⟩; (first | exact ⟨rfl, _, World.drewN_drewN _ _ _⟩ | exact ⟨rfl, _, Eq.trans (World.drewN_drewN _ _ _) (congrArg (World.drewN _) (Nat.add_assoc _ _ _))⟩))))
         go_upto_region 12 with (first
           | (go_at_call 78; refine (HC.out _ (HRA.out.kept (pw_below_drewN (Below.refl _ _) _))).mono ?_; rintro e wB ⟨rfl, hstB, hkB⟩; have HRB := Aside0.mk hstB; have hkB' : Kept wA wB (fun k => k = M) := hkB; have HKB2 := Aside0.mk hkB'; clear hstB hkB hkB')
           | ((with_reducible refine gate_dst (N := 12) rfl ?_); refine box_event ?hg (N := 12) ?hd (cs := #[.int .i64 0, .int .i64 0, .int .i64 0]) (t := 109) ?hr ?_; (case hd => rfl); (case hg => rfl); (case hr => first | (go_simp; done) | (go_simp; rfl)); intro g12 hg w13 hbox hb; have HK12 := Aside0.mk hbox; have HB13 := Aside0.mk hb; have N12 := Aside0.mk (show wB.heap.size ≤ g12 from (by rw [hg]; exact Nat.le_refl _)); have cz0 : w13.cell? ⟨g12, 0, none⟩ = some (.int .i64 0) := (blk_cell HK12.out 0).trans rfl; have cz1 : w13.cell? ⟨g12, 1, none⟩ = some (.int .i64 0) := (blk_cell HK12.out 1).trans rfl; have cz2 : w13.cell? ⟨g12, 2, none⟩ = some (.int .i64 0) := (blk_cell HK12.out 2).trans rfl; have fz0 := blk_frozen HK12.out 0; have fz1 := blk_frozen HK12.out 1; have fz2 := blk_frozen HK12.out 2; clear hg hbox hb))
         have E12 : Aside0 ((((w13.setCell ⟨g12, 0, none⟩ (.int .i64 O.f0)).setCell ⟨g12, 1, none⟩ (.int .i64 O.f1)).setCell ⟨g12, 2, none⟩ (.int .i64 O.f2)).heap[g12]? = some (.cells #[.int .i64 O.f0, .int .i64 O.f1, .int .i64 O.f2] 109 (0, 0))) := ⟨blk_put (cs := #[.int .i64 O.f0, .int .i64 O.f1, .int .i64 0]) (blk_put (cs := #[.int .i64 O.f0, .int .i64 0, .int .i64 0]) (blk_put (cs := #[.int .i64 0, .int .i64 0, .int .i64 0]) HK12.out 0 _ rfl) 1 _ rfl) 2 _ rfl⟩
         have HBC : Aside0 (Below wB.heap.size wB (((w13.setCell ⟨g12, 0, none⟩ (.int .i64 O.f0)).setCell ⟨g12, 1, none⟩ (.int .i64 O.f1)).setCell ⟨g12, 2, none⟩ (.int .i64 O.f2))) := ⟨below_set (below_set (below_set HB13.out N12.out) N12.out) N12.out⟩
         clear HK12 HB13 cz0 cz1 cz2 fz0 fz1 fz2 a0 a1
         generalize (((w13.setCell ⟨g12, 0, none⟩ (.int .i64 O.f0)).setCell ⟨g12, 1, none⟩ (.int .i64 O.f1)).setCell ⟨g12, 2, none⟩ (.int .i64 O.f2)) = wC at E12 HBC ⊢
         have n9 := HRA.out.ne HGA.out.1
         have n6 := HRA.out.ne HGA.out.2
         have n11 := HRA.out.ne WB.out
         have HGC := Aside0.mk (And.intro (blk_below (blk_kept HGA.out.1 HKB2.out n9) HBC.out) (blk_below (blk_kept HGA.out.2 HKB2.out n6) HBC.out))
         have WBC := Aside0.mk (blk_below (blk_kept WB.out HKB2.out n11) HBC.out)
         have HRC := Aside0.mk (HRB.out.kept HBC.out)
         have HKC := Aside0.mk (HII.out _ _ _ (HII.out _ _ _ HKA.out (HKB2.out.mono (fun k hk => by subst hk; exact HRA.out.nsc))) (Kept.of_below HBC.out _))
         clear n9 n6 n11
         have k0 : wC.cell? ⟨g12, 0, none⟩ = some (.int .i64 O.f0) := (blk_cell E12.out 0).trans rfl
         have k1 : wC.cell? ⟨g12, 1, none⟩ = some (.int .i64 O.f1) := (blk_cell E12.out 1).trans rfl
         have k2 : wC.cell? ⟨g12, 2, none⟩ = some (.int .i64 O.f2) := (blk_cell E12.out 2).trans rfl
         have k3 : wC.cell? ⟨g9, 0, none⟩ = some (.int .i64 acc.f0) := (blk_cell HGC.out.1 0).trans rfl
         have k4 : wC.cell? ⟨g9, 1, none⟩ = some (.int .i64 acc.f1) := (blk_cell HGC.out.1 1).trans rfl
         have k5 : wC.cell? ⟨g9, 2, none⟩ = some (.int .i64 acc.f2) := (blk_cell HGC.out.1 2).trans rfl
         have k6 : wC.cell? ⟨g11, 0, none⟩ = some (.slice Af f.f0.length cf) := (blk_cell WBC.out 0).trans rfl
         have k7 : wC.cell? ⟨g11, 1, none⟩ = some (.int .i64 f.f1) := (blk_cell WBC.out 1).trans rfl
         by_cases hz : O.f0 = 0
         · have hX := HX2.out
           rw [if_pos hz] at hX
           have hY := HY2.out
           rw [if_pos hz] at hY
           have NX : Aside0 (L.length - (i + 1) < gk ∧ i + 1 ≤ L.length ∧ rdA (rdO L) T (L.drop (i + 1)) acc = rdO L T ∧ hist ++ rdC (rdO L) T ((i + 1 : Nat) : Int) (L.drop (i + 1)) = h0 ++ rdCalls L T) := ⟨by have := HX.out.1; have := HIL.out; omega, HIL.out, hX, by simpa using hY⟩
           have hzz : (O.f0 == 0) = true := by rw [beq_iff_eq]; exact hz
           clear hX hY hz
           go_wp2
           go_roundg (L.length - (i + 1))
           case measure => exact NX.out.1
           case rel => exact ⟨i + 1, acc, hist, by simp, ⟨rfl, NX.out.2.1, by rw [← HTT.out]; exact NX.out.2.2.1, by rw [← HTT.out]; exact NX.out.2.2.2⟩, HGC, HRC, HKC⟩
         · have hX := HX2.out
           rw [if_neg hz] at hX
           have hY := HY2.out
           rw [if_neg hz] at hY
           have NX : Aside0 (L.length - (i + 1) < gk ∧ i + 1 ≤ L.length ∧ rdA (rdO L) T (L.drop (i + 1)) (outW acc f O) = rdO L T ∧ (hist ++ [((i : Int), O)]) ++ rdC (rdO L) T ((i + 1 : Nat) : Int) (L.drop (i + 1)) = h0 ++ rdCalls L T) := ⟨by have := HX.out.1; have := HIL.out; omega, HIL.out, hX, by rw [← hY]; simp⟩
           have hzz : (O.f0 == 0) = false := by rw [beq_eq_false_iff_ne]; exact hz
           clear hX hY hz
           have HCALL := Aside0.mk (HCC.out wC hist (i : Int) O HRC.out HKC.out (by omega) (by have := HIL.out; omega) ⟨rdC (rdO L) T ((i + 1 : Nat) : Int) (L.drop (i + 1)), by rw [← HTT.out, ← NX.out.2.2.2]; simp⟩)
           have s9 := nsc_of HGC.out.1 (by decide)
           have s6 := nsc_of HGC.out.2 (by decide)
           have s11 := nsc_of WBC.out (by decide)
           have s12 := nsc_of E12.out (by decide)
           go_upto_region 15 with (go_at_call 86; refine HCALL.out.mono ?_; rintro e wX ⟨rfl, hstX, hIX, hkX⟩; have HRX := Aside0.mk hstX; have HIX := Aside0.mk hIX; have HGX := Aside0.mk (And.intro (blk_kept HGC.out.1 hkX s9) (blk_kept HGC.out.2 hkX s6)); have WBX := Aside0.mk (blk_kept WBC.out hkX s11); have E12X := Aside0.mk (blk_kept E12.out hkX s12); clear hstX hIX hkX)
           clear k0 k1 k2 k3 k4 k5 k6 k7 s9 s6 s11 s12
           have k0 : wX.cell? ⟨g12, 0, none⟩ = some (.int .i64 O.f0) := (blk_cell E12X.out 0).trans rfl
           have k1 : wX.cell? ⟨g12, 1, none⟩ = some (.int .i64 O.f1) := (blk_cell E12X.out 1).trans rfl
           have k2 : wX.cell? ⟨g12, 2, none⟩ = some (.int .i64 O.f2) := (blk_cell E12X.out 2).trans rfl
           have k3 : wX.cell? ⟨g9, 0, none⟩ = some (.int .i64 acc.f0) := (blk_cell HGX.out.1 0).trans rfl
           have k4 : wX.cell? ⟨g9, 1, none⟩ = some (.int .i64 acc.f1) := (blk_cell HGX.out.1 1).trans rfl
           have k5 : wX.cell? ⟨g9, 2, none⟩ = some (.int .i64 acc.f2) := (blk_cell HGX.out.1 2).trans rfl
           have k6 : wX.cell? ⟨g11, 0, none⟩ = some (.slice Af f.f0.length cf) := (blk_cell WBX.out 0).trans rfl
           have k7 : wX.cell? ⟨g11, 1, none⟩ = some (.int .i64 f.f1) := (blk_cell WBX.out 1).trans rfl
           go_wp2_with (go_at_call 106; refine (impl_outcome_with_calls acc f Af f.f0.length cf O _).mono ?_; rintro e wD ⟨rfl, hbD⟩; have HBD := Aside0.mk hbD; have HGD := Aside0.mk (And.intro (blk_below HGX.out.1 hbD) (blk_below HGX.out.2 hbD)); have m0 : wD.cell? ⟨g9, 0, none⟩ = some (.int .i64 acc.f0) := (blk_cell HGD.out.1 0).trans rfl; have m1 : wD.cell? ⟨g9, 1, none⟩ = some (.int .i64 acc.f1) := (blk_cell HGD.out.1 1).trans rfl; have m2 : wD.cell? ⟨g9, 2, none⟩ = some (.int .i64 acc.f2) := (blk_cell HGD.out.1 2).trans rfl; have fm0 := blk_frozen HGD.out.1 0; have fm1 := blk_frozen HGD.out.1 1; have fm2 := blk_frozen HGD.out.1 2; clear hbD)
           go_roundg (L.length - (i + 1))
           case measure => exact NX.out.1
           case rel =>
             have nR : g9 ≠ R := blk_ne HGD.out.1 (HRX.out.kept HBD.out).blk (by decide)
             have nM : g9 ≠ M := (HRX.out.kept HBD.out).ne HGD.out.1
             have nB : w0.heap.size ≤ g9 := Nat.le_trans HST.out.below.size N9.out
             refine ⟨i + 1, outW acc f O, hist ++ [((i : Int), O)], by simp, ⟨rfl, NX.out.2.1, by rw [← HTT.out]; exact NX.out.2.2.1, by rw [← HTT.out]; exact NX.out.2.2.2⟩, ⟨blk_put (cs := #[.int .i64 (outW acc f O).f0, .int .i64 (outW acc f O).f1, .int .i64 acc.f2]) (blk_put (cs := #[.int .i64 (outW acc f O).f0, .int .i64 acc.f1, .int .i64 acc.f2]) (blk_put (cs := #[.int .i64 acc.f0, .int .i64 acc.f1, .int .i64 acc.f2]) HGD.out.1 0 _ rfl) 1 _ rfl) 2 _ rfl, ?_⟩, ⟨(((HRX.out.kept HBD.out).set nB nR nM _ _).set nB nR nM _ _).set nB nR nM _ _⟩, ⟨HII.out _ _ _ (HII.out _ _ _ HIX.out (Kept.of_below HBD.out _)) ((((Kept.refl _ _).setCell (.inl (nsc_of HGD.out.1 (by decide))) _).setCell (.inl (nsc_of HGD.out.1 (by decide))) _).setCell (.inl (nsc_of HGD.out.1 (by decide))) _)⟩⟩
             exact blk_far (blk_far (blk_far HGD.out.2 NE9.out _) NE9.out _) NE9.out _
     · have d1 : decide ((i : Int) < (L.length : Int)) = false := decide_eq_false hi
       have d1' : decide (i < L.length) = false := decide_eq_false (by omega)
       have hacc : acc = rdO L (S.drop p) := by
         have h1 := HX.out.2.2.1
         have h2 := HX.out.2.1
         rw [List.drop_eq_nil_of_le (show L.length ≤ i by omega)] at h1
         exact h1
       have HACC := Aside0.mk hacc
       have HEND : Aside0 (hist = h0 ++ rdCalls L (S.drop p)) := ⟨by
         have h1 := HX.out.2.2.2
         rw [List.drop_eq_nil_of_le (show L.length ≤ i by omega)] at h1
         simpa [rdC] using h1⟩
       have NSM := Aside0.mk HR.out.nsc
       obtain ⟨F2, hF2, hF2'⟩ := HR.out.memo
       obtain ⟨es, ck, hput, hmf⟩ := (MapFn.move (w' := wr.drew) hF2 rfl).put Try.underlying132 Try.underlying3 (p : Int) (outV acc)
       have HRM : Aside0 (RdSt w0 (ChangeMaps.setBlock wr.drew M (.map es ck)) L S A0 c0 A1 c1 R M) := ⟨⟨below_setBlock (below_drew HR.out.below) HMR.out.1, blk_setBlock (w := wr.drew) HR.out.blk HMR.out.2.2, _, hmf, by
         intro k v hk
         by_cases e : k = (p : Int)
         · rw [if_pos e] at hk
           cases hk
           exact ⟨p, e, HP.out, by rw [hacc]⟩
         · rw [if_neg e] at hk
           exact hF2' k v hk⟩⟩
       have HKM : Aside0 (I (ChangeMaps.setBlock wr.drew M (.map es ck)) hist) := ⟨HII.out _ _ _ HKP.out (kept_setBlock (w := wr) (W := wr.drew) (Kept.refl _ _) (.inl NSM.out))⟩
       have n9 := HR.out.ne HG.out.1
       have n6 := HR.out.ne HG.out.2
       have HGM := Aside0.mk (And.intro (blk_setBlock (w := wr.drew) (o' := .map es ck) HG.out.1 n9) (blk_setBlock (w := wr.drew) (o' := .map es ck) HG.out.2 n6))
       have cR2 : wr.cell? ⟨R, 2, none⟩ = some (.map (some M)) := (blk_cell HR.out.blk 2).trans rfl
       have k3 : wr.cell? ⟨g9, 0, none⟩ = some (.int .i64 acc.f0) := (blk_cell HG.out.1 0).trans rfl
       have k4 : wr.cell? ⟨g9, 1, none⟩ = some (.int .i64 acc.f1) := (blk_cell HG.out.1 1).trans rfl
       have k5 : wr.cell? ⟨g9, 2, none⟩ = some (.int .i64 acc.f2) := (blk_cell HG.out.1 2).trans rfl
       unfold outV at hput
       generalize (ChangeMaps.setBlock wr.drew M (.map es ck)) = wM at HRM HKM HGM hput
       have j3 : wM.cell? ⟨g9, 0, none⟩ = some (.int .i64 acc.f0) := (blk_cell HGM.out.1 0).trans rfl
       have j4 : wM.cell? ⟨g9, 1, none⟩ = some (.int .i64 acc.f1) := (blk_cell HGM.out.1 1).trans rfl
       have j5 : wM.cell? ⟨g9, 2, none⟩ = some (.int .i64 acc.f2) := (blk_cell HGM.out.1 2).trans rfl
       have j0 : wM.cell? ⟨g6, 0, none⟩ = some (.int .i64 0) := (blk_cell HGM.out.2 0).trans rfl
       have j1 : wM.cell? ⟨g6, 1, none⟩ = some (.int .i64 0) := (blk_cell HGM.out.2 1).trans rfl
       have j2 : wM.cell? ⟨g6, 2, none⟩ = some (.int .i64 0) := (blk_cell HGM.out.2 2).trans rfl
       have f0 := blk_frozen HGM.out.2 0
       have f1 := blk_frozen HGM.out.2 1
       have f2 := blk_frozen HGM.out.2 2
       clear hF2 hF2' hmf hacc hi n9 n6
       go_wp2
       go_region
       go_wp2
       refine bodyPost_ret (results_cell_row rfl _ _ g6 109 #[.int .i64 acc.f0, .int .i64 acc.f1, .int .i64 acc.f2] (0, 0) _ rfl (blk_put (cs := #[.int .i64 acc.f0, .int .i64 acc.f1, .int .i64 0]) (blk_put (cs := #[.int .i64 acc.f0, .int .i64 0, .int .i64 0]) (blk_put (cs := #[.int .i64 0, .int .i64 0, .int .i64 0]) HGM.out.2 0 _ rfl) 1 _ rfl) 2 _ rfl) Try.underlying109 rfl (by kernel_rfl)) rfl ?_
       have nR : g6 ≠ R := blk_ne HGM.out.2 HRM.out.blk (by decide)
       have nM : g6 ≠ M := HRM.out.ne HGM.out.2
       have nB : w0.heap.size ≤ g6 := Nat.le_trans HST.out.below.size N6.out
       exact ⟨by rw [← HACC.out]; rfl, ((HRM.out.set nB nR nM _ _).set nB nR nM _ _).set nB nR nM _ _, by rw [← HEND.out]; exact HII.out _ _ _ HKM.out ((((Kept.refl _ _).setCell (.inl (nsc_of HGM.out.2 (by decide))) _).setCell (.inl (nsc_of HGM.out.2 (by decide))) _).setCell (.inl (nsc_of HGM.out.2 (by decide))) _)⟩
/-- What is called is so. -/
theorem rdC_mem {rec : List Int → OutC} {s : List Int} {L : List S55} : ∀ (l : List S55) (q : Nat), l = L.drop q → ∀ {i : Int} {o : OutC}, (i, o) ∈ rdC rec s (q : Int) l → 0 ≤ i ∧ i < (L.length : Int) ∧ isPre (rd_T55 L i).f0 s = true ∧ o = rec (s.drop (rd_T55 L i).f0.length) ∧ o.f0 ≠ 0
  | [], q, _, i, o, h => by simp [rdC] at h
  | f :: fs, q, hq, i, o, h => by
    have hlt : q < L.length := by
      rcases Nat.lt_or_ge q L.length with h | h
      · exact h
      · rw [List.drop_eq_nil_of_le h] at hq; cases hq
    have hf : f = rd_T55 L (q : Int) ∧ fs = L.drop (q + 1) := by
      rw [List.drop_eq_getElem_cons hlt] at hq
      refine ⟨?_, (List.cons.inj hq).2⟩
      unfold rd_T55
      rw [Int.toNat_natCast, List.getD_eq_getElem?_getD, List.getElem?_eq_getElem hlt]
      exact (List.cons.inj hq).1
    have e2 : ((q : Int) + 1) = ((q + 1 : Nat) : Int) := by omega
    simp only [rdC] at h
    rw [e2] at h
    by_cases hp : isPre f.f0 s = true
    · rw [if_pos hp] at h
      by_cases hz : (rec (s.drop f.f0.length)).f0 = 0
      · rw [if_pos hz] at h
        exact rdC_mem fs (q + 1) hf.2 h
      · rw [if_neg hz] at h
        rcases List.mem_cons.1 h with h | h
        · cases h
          rw [← hf.1]
          exact ⟨by omega, by omega, hp, rfl, hz⟩
        · exact rdC_mem fs (q + 1) hf.2 h
    · rw [if_neg hp] at h
      exact rdC_mem fs (q + 1) hf.2 h

/-! which formulas some reading uses: plain -/
def mkU (L : List S55) (p : Nat) : List (Int × OutC) → List Bool × List Bool → List Bool × List Bool
  | [], s => s
  | (i, _) :: r, (U, V) => mkU L p r (U.set i.toNat true, V.set (p + (rd_T55 L i).f0.length) true)
theorem mkU_snoc (L : List S55) (p : Nat) : ∀ (h : List (Int × OutC)) (i : Int) (o : OutC) (s : List Bool × List Bool), mkU L p (h ++ [(i, o)]) s = ((mkU L p h s).1.set i.toNat true, (mkU L p h s).2.set (p + (rd_T55 L i).f0.length) true)
  | [], i, o, (U, V) => rfl
  | (j, q) :: r, i, o, (U, V) => by
    simp only [List.cons_append, mkU]
    exact mkU_snoc L p r i o _
theorem mkU_len (L : List S55) (p : Nat) : ∀ (h : List (Int × OutC)) (s : List Bool × List Bool), (mkU L p h s).1.length = s.1.length ∧ (mkU L p h s).2.length = s.2.length
  | [], s => ⟨rfl, rfl⟩
  | (j, q) :: r, (U, V) => by
    simp only [mkU]
    have := mkU_len L p r (U.set j.toNat true, V.set (p + (rd_T55 L j).f0.length) true)
    simpa using this
def usedAt (L : List S55) (S : List Int) (p : Nat) (s : List Bool × List Bool) : List Bool × List Bool := if s.2.getD p false = true then mkU L p (rdCalls L (S.drop p)) s else s
def usedFrom (L : List S55) (S : List Int) : Nat → List Bool × List Bool
  | 0 => (List.replicate L.length false, (List.replicate (S.length + 1) false).set 0 true)
  | p + 1 => usedAt L S p (usedFrom L S p)
theorem usedFrom_len (L : List S55) (S : List Int) : ∀ p, (usedFrom L S p).1.length = L.length ∧ (usedFrom L S p).2.length = S.length + 1
  | 0 => by simp [usedFrom]
  | p + 1 => by
    have := usedFrom_len L S p
    simp only [usedFrom, usedAt]
    split
    · have h2 := mkU_len L p (rdCalls L (S.drop p)) (usedFrom L S p)
      exact ⟨h2.1.trans this.1, h2.2.trans this.2⟩
    · exact this
def idxT : Int → List Bool → List Int
  | _, [] => []
  | i, b :: bs => if b = true then i :: idxT (i + 1) bs else idxT (i + 1) bs
theorem idxT_len : ∀ (i : Int) (bs : List Bool), (idxT i bs).length ≤ bs.length
  | _, [] => Nat.le_refl _
  | i, b :: bs => by
    have := idxT_len (i + 1) bs
    simp only [idxT, List.length_cons]
    split
    · rw [List.length_cons]; omega
    · omega
def fUsed (L : List S55) (S : List Int) : List Int := if okR L S = true then idxT 0 (usedFrom L S S.length).1 else []
theorem fUsed_len (L : List S55) (S : List Int) : (fUsed L S).length ≤ 8 := by
  unfold fUsed
  split
  · rename_i h
    have h1 := idxT_len 0 (usedFrom L S S.length).1
    have h2 := (usedFrom_len L S S.length).1
    have h3 := (okR_lens h).2.1
    omega
  · exact Nat.zero_le _

theorem row_move {B : Nat} {w w' : World} {v : Value} {xs : List Int} (h : Kd.R (Kd.int .i64) 3 w B (fun _ => True) v xs) (hk : Kept w w' (fun k => ¬ SCb w k)) : Kd.R (Kd.int .i64) 3 w' B (fun _ => True) v xs := by
  refine Kd.R_mono (Kd.R_kept (Kd.R_bound h) hk (fun k hk hn => hn ?_)) (fun _ _ => trivial)
  obtain ⟨_, _, _, q, hq, cells, hc⟩ := hk
  have e : q = 3 := by simpa [Kd.int, Kd.scalar] using hq
  subst e
  exact ⟨cells, _, _, hc, by decide, by decide, by decide⟩

end Go.Proofs.Ytnemcppllfmioaa.Pure
