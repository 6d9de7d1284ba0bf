/- Lemmas on the printed functions for the law FnExactFormulasUsed. -/
import Derived.Test.YtnemcppllfmioaaQFnExactFormulasUsedq0
import Derived.Test.YtnemcppllfmioaaQFnExactFormulasUsedq1
import Derived.Test.YtnemcppllfmioaaQFnExactFormulasUsedq2
import Derived.Deep.RegionHeld3
import Derived.BigRegion
import Derived.Deep.Slices
import Derived.Laws.CopyOwn
namespace Go.Proofs.Ytnemcppllfmioaa.Pure
set_option linter.unusedVariables false
set_option linter.unusedSimpArgs false
open Go Go.RowKit Go.Proofs.Ytnemcppllfmioaa.PFnExactFormulasUsed Go.Proofs.YtnemcppllfmioaaW.PrintWords Go.Proofs.YtnemcppllfmioaaW.PrintLast Go.Proofs.YtnemcppllfmioaaW.PrintMore

theorem infoB : (Try.prog.info? 4).map (fun i => (i.zero, i.size, i.bytes)) = some (some (.bool false), 1, 1) := by kernel_rfl
theorem row_moveB {B : Nat} {w w' : World} {ok : Nat → Prop} {v : Value} {xs : List Bool} (h : Kd.R Kd.bool 4 w B ok v xs) (hk : Kept w w' (fun k => ¬ SCb w k)) : Kd.R Kd.bool 4 w' B ok v xs := by
  refine Kd.R_mono (Kd.R_kept (Kd.R_bound h) hk (fun k hk hn => hn ?_)) (fun _ hk => hk.1)
  obtain ⟨_, _, _, q, hq, cells, hc⟩ := hk
  have e : q = 4 := by simpa [Kd.bool, Kd.scalar] using hq
  subst e
  exact ⟨cells, _, _, hc, by decide, by decide, by decide⟩
/-- What the closure works on: the boxes of the two rows, of the place and of the list; the rows. -/
structure UI (L : List S55) (S : List Int) (A0 : Option Addr) (c0 : Nat) (B M F1 F2 F3 F4 p : Nat) (v0 v1 v2 : Value) (UV : List Bool × List Bool) (w : World) (h : List (Int × OutC)) : Prop where
  bw : B ≤ w.heap.size
  k1 : w.heap[F1]? = some (.cells #[v1] 116 (0, 0))
  k2 : w.heap[F2]? = some (.cells #[v2] 116 (0, 0))
  k3 : w.heap[F3]? = some (.cells #[.int .i64 (p : Int)] 3 (0, 0))
  k4 : w.heap[F4]? = some (.cells #[.slice A0 L.length c0] 38 (0, 0))
  r1 : Kd.R Kd.bool 4 w B (fun k => k < M) v1 (mkU L p h UV).1
  r2 : Kd.R Kd.bool 4 w B (fun k => M ≤ k) v2 (mkU L p h UV).2
  r0 : Kd.R (Kd.int .i64) 3 w B (fun _ => True) v0 ([] : List Int)
  l1 : UV.1.length = L.length
  l2 : UV.2.length = S.length + 1
theorem UI.move {L : List S55} {S : List Int} {A0 : Option Addr} {c0 B M F1 F2 F3 F4 p : Nat} {v0 v1 v2 : Value} {UV : List Bool × List Bool} {w w' : World} {h : List (Int × OutC)} (hi : UI L S A0 c0 B M F1 F2 F3 F4 p v0 v1 v2 UV w h) (hk : Kept w w' (fun k => ¬ SCb w k)) : UI L S A0 c0 B M F1 F2 F3 F4 p v0 v1 v2 UV w' h :=
  ⟨Nat.le_trans hi.bw hk.1, blk_kept hi.k1 hk (fun hn => hn ⟨_, _, _, hi.k1, by decide, by decide, by decide⟩), blk_kept hi.k2 hk (fun hn => hn ⟨_, _, _, hi.k2, by decide, by decide, by decide⟩), blk_kept hi.k3 hk (fun hn => hn ⟨_, _, _, hi.k3, by decide, by decide, by decide⟩), blk_kept hi.k4 hk (fun hn => hn ⟨_, _, _, hi.k4, by decide, by decide, by decide⟩), row_moveB hi.r1 hk, row_moveB hi.r2 hk, row_move hi.r0 hk, hi.l1, hi.l2⟩
set_option maxHeartbeats 4000000 in
set_option maxRecDepth 100000 in
theorem impl_FormulasUsed1_calls {w0 w : World} {L : List S55} {S : List Int} {A0 : Option Addr} {c0 : Nat} {A1 : Option Addr} {c1 : Nat} {R Mm M F1 F2 F3 F4 p : Nat} {v0 v1 v2 : Value} {UV : List Bool × List Bool} (hr0 : Kd.C k55 w0 A0 L.length L) (hs : RdSt w0 w L S A0 c0 A1 c1 R Mm) (h : List (Int × OutC)) (i : Int) (o : OutC) (hi : UI L S A0 c0 w0.heap.size M F1 F2 F3 F4 p v0 v1 v2 UV w h) (h0 : 0 ≤ i) (h1 : i < (L.length : Int)) (hp : p + (rd_T55 L i).f0.length ≤ S.length) (hS : S.length ≤ 23) :
    Calls Try.prog 86 #[.int .i64 i, .agg #[.int .i64 o.f0, .int .i64 o.f1, .int .i64 o.f2], .pointer (some ⟨F1, 0, none⟩), .pointer (some ⟨F2, 0, none⟩), .pointer (some ⟨F3, 0, none⟩), .pointer (some ⟨F4, 0, none⟩)] w fun e w' => e = .returned (.tuple #[]) ∧ RdSt w0 w' L S A0 c0 A1 c1 R Mm ∧ UI L S A0 c0 w0.heap.size M F1 F2 F3 F4 p v0 v1 v2 UV w' (h ++ [(i, o)]) ∧ Kept w w' (SCb w) := by
  have hu1 := Try.underlying109
  have hu2 := Try.underlying55
  have HS := Aside0.mk hs
  have HI := Aside0.mk hi
  have hsn := mkU_snoc L p h i o UV
  have hlen := mkU_len L p h UV
  rw [hi.l1, hi.l2] at hlen
  obtain ⟨U, V, hUV⟩ : ∃ U V, mkU L p h UV = (U, V) := ⟨_, _, rfl⟩
  have hr1 := hi.r1
  have hr2 := hi.r2
  rw [hUV] at hsn hlen hr1 hr2
  simp only [] at hsn hlen hr1 hr2
  obtain ⟨ad, Af, cf, e0, ux0, ux1, hcf, hrf⟩ := at_T55 hr0 i h0 h1
  subst e0
  obtain ⟨f, hf⟩ : ∃ f, f = rd_T55 L i := ⟨_, rfl⟩
  rw [← hf] at ux0 hsn hp
  obtain ⟨g1, cu1, e1, gb1, gl1, cs1, hg1⟩ := Kd.R_form hr1 (by omega)
  obtain ⟨g2, cu2, e2, gb2, gl2, cs2, hg2⟩ := Kd.R_form hr2 (by omega)
  subst e1 e2
  have hm1 : g1 < M := hr1.1 g1 (by simp [Value.ownBlock])
  have hm2 : M ≤ g2 := hr2.1 g2 (by simp [Value.ownBlock])
  have hne : g1 ≠ g2 := by omega
  have NM := Aside0.mk (And.intro hm1 hm2)
  have hne' : g2 ≠ g1 := fun h => hne h.symm
  have NE := Aside0.mk hne'
  rw [hlen.1] at hr1
  rw [hlen.2] at hr2
  have hk1 := hi.k1
  have hk2 := hi.k2
  rw [hlen.1] at hk1
  rw [hlen.2] at hk2
  have HR1 := Aside0.mk hr1
  have HR2 := Aside0.mk hr2
  have HG1 := Aside0.mk hg1
  have HG2 := Aside0.mk hg2
  have HB12 := Aside0.mk (And.intro gb1 gb2)
  have K1 := Aside0.mk hk1
  have K2 := Aside0.mk hk2
  have K3 := Aside0.mk hi.k3
  have K4 := Aside0.mk hi.k4
  have U0 := Aside0.mk ux0
  have HSN := Aside0.mk hsn
  have HLEN := Aside0.mk hlen
  have SC1 := Aside0.mk (show SCb w g1 from ⟨_, _, _, hg1, by decide, by decide, by decide⟩)
  have SC2 := Aside0.mk (show SCb w g2 from ⟨_, _, _, hg2, by decide, by decide, by decide⟩)
  have n1 := Aside0.mk (blk_ne hi.k1 hg1 (by decide))
  have n2 := Aside0.mk (blk_ne hi.k2 hg1 (by decide))
  have n3 := Aside0.mk (blk_ne hi.k3 hg1 (by decide))
  have n4 := Aside0.mk (blk_ne hi.k4 hg1 (by decide))
  have m1 := Aside0.mk (blk_ne hi.k1 hg2 (by decide))
  have m2 := Aside0.mk (blk_ne hi.k2 hg2 (by decide))
  have m3 := Aside0.mk (blk_ne hi.k3 hg2 (by decide))
  have m4 := Aside0.mk (blk_ne hi.k4 hg2 (by decide))
  obtain ⟨hx1, hf1⟩ := Kd.R_celln false hr1 i h0 h1
  obtain ⟨hx2, hf2⟩ := Kd.R_celln false hr2 ((p : Int) + (f.f0.length : Int)) (by omega) (by omega)
  have X1 := Aside0.mk (And.intro hx1 hf1)
  have X2 := Aside0.mk (And.intro hx2 hf2)
  have q0 := eq_true h0
  have q1 := eq_true h1
  have q2 := eq_true (show 0 ≤ (p : Int) + (f.f0.length : Int) by omega)
  have q3 := eq_true (show (p : Int) + (f.f0.length : Int) < ((S.length + 1 : Nat) : Int) by omega)
  have ew : IntKind.i64.wrap ((p : Int) + (f.f0.length : Int)) = (p : Int) + (f.f0.length : Int) := by rw [Go.IntKind.wrap_i64]; omega
  clear hs hi hf hcf hrf ux0 ux1 hr1 hr2 hg1 hg2 hk1 hk2 hx1 hf1 hx2 hf2 hsn hlen gb1 gb2 gl1 gl2 hm1 hm2
  go_enter Try.func86, Try.ntmps86
  go_upto_region 1 with (first
    | ((with_reducible refine gate_dst (N := 7) rfl ?_); refine box_event ?hg (N := 7) ?hd (cs := #[.int .i64 o.f0, .int .i64 o.f1, .int .i64 o.f2]) (t := 109) ?hr ?_; (case hd => rfl); (case hg => rfl); (case hr => first | (go_simp; done) | (go_simp; rfl)); intro g7 hg w1 hbox hb; have HBL := Aside0.mk hb; have c1_ : w1.cell? ⟨F1, 0, none⟩ = some (.slice (some ⟨g1, 0, none⟩) L.length cu1) := (blk_cell (blk_below K1.out hb) 0).trans rfl; clear hg hbox hb)
    | fail)
  (try simp only [Act.put, List.setIfInBounds_toArray, List.set_cons_zero, List.set_cons_succ])
  have R1 := Aside0.mk (Kd.R_below HR1.out HBL.out)
  obtain ⟨y1, z1⟩ := Kd.R_celln false R1.out i (of_eq_true q0) (of_eq_true q1)
  go_upto_region 2 with (fail)
  have HB2 : Aside0 (Below w0.heap.size w0 (w1.setCell ⟨g1, i.toNat, none⟩ (.bool true))) := ⟨below_set (below_then HS.out.below HI.out.bw HBL.out) HB12.out.1⟩
  have R12 : Aside0 (Kd.R Kd.bool 4 (w1.setCell ⟨g1, i.toNat, none⟩ (.bool true)) w0.heap.size (fun k => k < M) (.slice (some ⟨g1, 0, none⟩) L.length cu1) (U.set i.toNat true)) := ⟨(Kd.R_putg R1.out i true).1⟩
  have R22 : Aside0 (Kd.R Kd.bool 4 (w1.setCell ⟨g1, i.toNat, none⟩ (.bool true)) w0.heap.size (fun k => M ≤ k) (.slice (some ⟨g2, 0, none⟩) (S.length + 1) cu2) V) := ⟨Kd.R_far (Kd.R_below HR2.out HBL.out) (p := ⟨g1, i.toNat, none⟩) (fun k hk => by have := NM.out.1; have hk : M ≤ k := hk; show k ≠ g1; omega) _⟩
  have K12 : Aside0 ((w1.setCell ⟨g1, i.toNat, none⟩ (.bool true)).heap[F1]? = some (.cells #[.slice (some ⟨g1, 0, none⟩) L.length cu1] 116 (0, 0))) := ⟨blk_far (blk_below K1.out HBL.out) n1.out _⟩
  have K22 : Aside0 ((w1.setCell ⟨g1, i.toNat, none⟩ (.bool true)).heap[F2]? = some (.cells #[.slice (some ⟨g2, 0, none⟩) (S.length + 1) cu2] 116 (0, 0))) := ⟨blk_far (blk_below K2.out HBL.out) n2.out _⟩
  have K32 : Aside0 ((w1.setCell ⟨g1, i.toNat, none⟩ (.bool true)).heap[F3]? = some (.cells #[.int .i64 (p : Int)] 3 (0, 0))) := ⟨blk_far (blk_below K3.out HBL.out) n3.out _⟩
  have K42 : Aside0 ((w1.setCell ⟨g1, i.toNat, none⟩ (.bool true)).heap[F4]? = some (.cells #[.slice (some ad) L.length c0] 38 (0, 0))) := ⟨blk_far (blk_below K4.out HBL.out) n4.out _⟩
  have HK2 : Aside0 (Kept w (w1.setCell ⟨g1, i.toNat, none⟩ (.bool true)) (SCb w)) := ⟨(Kept.of_below HBL.out _).setCell (.inl SC1.out) _⟩
  have R02 : Aside0 (Kd.R (Kd.int .i64) 3 (w1.setCell ⟨g1, i.toNat, none⟩ (.bool true)) w0.heap.size (fun _ => True) v0 ([] : List Int)) := ⟨Kd.R_set (Kd.R_below HI.out.r0 HBL.out) (blk_below HG1.out HBL.out) (by intro q hq; have e : q = 3 := (by simpa [Kd.int, Kd.scalar] using hq); subst e; decide) i.toNat _⟩
  have HG22 : Aside0 ((w1.setCell ⟨g1, i.toNat, none⟩ (.bool true)).heap[g2]? = some (.cells cs2 4 (0, 0))) := ⟨blk_far (blk_below HG2.out HBL.out) NE.out _⟩
  clear R1 y1 z1 c1_
  generalize (w1.setCell ⟨g1, i.toNat, none⟩ (.bool true)) = w2 at HB2 R12 R22 R02 HG22 K12 K22 K32 K42 HK2 ⊢
  have c2_ : w2.cell? ⟨F2, 0, none⟩ = some (.slice (some ⟨g2, 0, none⟩) (S.length + 1) cu2) := (blk_cell K22.out 0).trans rfl
  have c3_ : w2.cell? ⟨F3, 0, none⟩ = some (.int .i64 (p : Int)) := (blk_cell K32.out 0).trans rfl
  have c4_ : w2.cell? ⟨F4, 0, none⟩ = some (.slice (some ad) L.length c0) := (blk_cell K42.out 0).trans rfl
  have u0_ := pw_cell_below HB2.out U0.out
  obtain ⟨y2, z2⟩ := Kd.R_celln false R22.out ((p : Int) + (f.f0.length : Int)) (of_eq_true q2) (of_eq_true q3)
  have en : ((p : Int) + (f.f0.length : Int)).toNat = p + f.f0.length := by omega
  rw [en] at y2 z2
  have y2d : w2.drew.cell? ⟨g2, p + f.f0.length, none⟩ = some (.bool (rdOf false V ((p : Int) + (f.f0.length : Int)))) := y2
  have z2d : w2.drew.frozen? ⟨g2, p + f.f0.length, none⟩ = false := z2
  have q4 := eq_true (show (p : Int) + (f.f0.length : Int) < (S.length : Int) + 1 by omega)
  go_region
  go_end0
  have hK : Kept w (w2.setCell ⟨g2, p + f.f0.length, none⟩ (.bool true)).drew (SCb w) := HK2.out.setCell (.inl SC2.out) _
  have hBB : Below w0.heap.size w0 (w2.setCell ⟨g2, p + f.f0.length, none⟩ (.bool true)).drew := below_drew1 (below_set HB2.out HB12.out.2)
  have hr2 := (Kd.R_putg R22.out ((p : Int) + (f.f0.length : Int)) true).1
  rw [en] at hr2
  rw [HLEN.out.1, HLEN.out.2]
  refine ⟨rfl, HS.out.keptSC hBB hK, ⟨hBB.size, blk_far K12.out m1.out _, blk_far K22.out m2.out _, blk_far K32.out m3.out _, blk_far K42.out m4.out _, ?_, ?_, Kd.R_drew (Kd.R_set R02.out HG22.out (by intro q hq; have e : q = 3 := (by simpa [Kd.int, Kd.scalar] using hq); subst e; decide) (p + f.f0.length) _), HI.out.l1, HI.out.l2⟩, hK⟩
  · rw [HSN.out]
    exact Kd.R_drew (Kd.R_far R12.out (p := ⟨g2, p + f.f0.length, none⟩) (fun k hk => by have := NM.out.2; have hk : k < M := hk; show k ≠ g2; omega) _)
  · rw [HSN.out]
    exact Kd.R_drew hr2

end Go.Proofs.Ytnemcppllfmioaa.Pure
