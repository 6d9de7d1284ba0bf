/- Lemmas for the law FnExactSingBest. -/
import Derived.Test.YtiagfjbngpbejaaDoorSFnExactSingBests1
namespace Go.Proofs.YtiagfjbngpbejaaDoor.Pure
set_option linter.unusedVariables false
set_option linter.unusedSimpArgs false
open Go Go.RowKit Go.Proofs.YtiagfjbngpbejaaDoor.PFnExactSingBest Go.Proofs.YtiagfjbngpbejaaDoorW.PrintWords Go.Proofs.YtiagfjbngpbejaaDoorW.PrintLast Go.Proofs.YtiagfjbngpbejaaDoorW.PrintMore

theorem getElem?_snoc {α : Type} (l : List α) (x : α) (i : Nat) (y : α) (h : (l ++ [x])[i]? = some y) : l[i]? = some y ∨ (i = l.length ∧ y = x) := by
 rcases Nat.lt_or_ge i l.length with hi | hi
 ·
  rw [List.getElem?_append_left hi] at h
  exact .inl h
 ·
  rw [List.getElem?_append_right hi] at h
  have : i - l.length = 0 := by
   rcases Nat.eq_zero_or_pos (i - l.length) with h0 | h0
   ·
    exact h0
   ·
    rw [List.getElem?_eq_none (by simp; omega)] at h
    cases h
  rw [this] at h
  exact .inr ⟨by omega, (Option.some.inj h).symm⟩
theorem two_set (a b : Int) (n j : Nat) (hj : j < n) : (List.replicate j a ++ List.replicate (n - j) b).set j a = List.replicate (j + 1) a ++ List.replicate (n - (j + 1)) b := by
 rw [List.set_append_right _ _ (by simp), List.length_replicate, Nat.sub_self, show n - j = (n - (j + 1)) + 1 by omega, List.replicate_succ, List.set_cons_zero, List.replicate_succ', List.append_assoc]
 rfl
/-- A row that was made just now, in its block. -/
theorem RowAt.of {W : World} {B b base n c : Nat} {xs : List Int} {ok : Nat → Prop} (h : (Kd.int .i64).R 3 W base ok (.slice (some ⟨b, 0, none⟩) n c) xs) (hB : B ≤ base) : RowAt W B b (.slice (some ⟨b, 0, none⟩) n c) xs :=
 Kd.R_reok rfl (Kd.R_lower h hB) (fun k hk => by simp [Value.ownBlock] at hk; exact hk.symm)
theorem rowQ_snoc (t n : Nat) : rowQ t 0 (n + 1) = rowQ t 0 n ++ [((t : Int), (n : Int))] := by
 unfold rowQ
 rw [List.range_succ, List.map_append]
 simp
theorem SHas.grownSpl {W W' : World} {B b : Nat} {σ : Sg} {rs : List SRow} {cells : Array Value} (h : SHas W B σ rs) (hc : W.heap[b]? = some (.cells cells 57 (0, 0))) (hg : W.grownBy W' (some b)) : SHas W' B σ rs := by
 refine h.kept (Kept.of_grown hg (Kept.refl W (fun k => k = b)) (fun k hk => .inl (Option.some.inj hk).symm)) (fun k c e hk hs => ?_)
 subst hs
 rw [hc] at hk
 injection hk with hk
 injection hk with _ hk
 subst hk
 exact ⟨by decide, by decide, by decide⟩
theorem QHas.off {W W' : World} {B gq b : Nat} {v : Value} {xs : List (Int × Int)} (h : QHas W B gq v xs) (hg : W.grownBy W' (some b)) (hn : ∀ k, QBl gq v k → k ≠ b) : QHas W' B gq v xs :=
 h.kept (Kept.of_grown hg (Kept.refl W (fun k => k = b)) (fun k hk => .inl (Option.some.inj hk).symm)) hn
theorem QHas.fresh {W : World} {B gq : Nat} {v : Value} {xs : List (Int × Int)} (h : QHas W B gq v xs) : ∀ k, QBl gq v k → k < W.heap.size := by
 intro k hk
 rcases hk with rfl | hk
 ·
  exact blk_lt h.2.1
 ·
  exact Kd.Q_lt h.2.2 k hk
theorem SHas.intOff {W : World} {B g : Nat} {σ : Sg} {rs : List SRow} (h : SHas W B σ rs) {cells : Array Value} (hc : W.heap[g]? = some (.cells cells 57 (0, 0))) {t : Nat} {p : SRow} (hp : rs[t]? = some p) : g ≠ p.cb := by
 obtain ⟨a1, a2, _, a4⟩ := h.rows t p hp
 obtain ⟨_, c, hb⟩ := RowAt.blk a4 (by omega)
 intro e
 subst e
 rw [hc] at hb
 injection hb with hb
 injection hb with _ hb
 revert hb
 decide
def lastR (r : SRow) (L i : Nat) : SRow := { r with cs := List.replicate i 0 ++ List.replicate (L - i) (-1) }
def hsOf (m : List S29) : List (List Int) := m.map hexAll
theorem hsOf_at (m : List S29) (i : Nat) (hi : i < m.length) : (hsOf m).getD i [] = hexAll (rd_T29 m (i : Int)) := by
 unfold hsOf rd_T29
 rw [List.getD_eq_getElem?_getD, List.getElem?_map, List.getElem?_eq_getElem hi, Int.toNat_natCast, List.getD_eq_getElem?_getD, List.getElem?_eq_getElem hi]
 rfl
theorem hexAll_len (t : S29) : (hexAll t).length ≤ 7 := Nat.le_trans (List.length_filter_le _ _) (by decide)
theorem hs7 (m : List S29) : ∀ h ∈ hsOf m, h.length ≤ 7 := by
 intro h hh
 obtain ⟨t, _, rfl⟩ := List.mem_map.1 hh
 exact hexAll_len t
set_option maxHeartbeats 40000000 in
set_option maxRecDepth 100000 in
theorem newSinging_calls (m : List S29) (A0 : Option Addr) (c0 : Nat) (w : World) (ht : NTab w) (hr0 : Kd.C k29 w A0 m.length m) (hc0 : m.length ≤ c0) (hm : m.length ≤ 24) (hm0 : 0 < m.length) (hne : ∀ t ∈ m, hexAll t ≠ []) :
 Calls Tryd.prog 25 #[.slice A0 m.length c0] w fun e w' => ∃ (σ : Sg) (rs : List SRow), e = .returned (.pointer (some ⟨σ.gs, 0, none⟩)) ∧ SHas w' w.heap.size σ rs ∧ PFin (hsOf m) rs ∧ Below w.heap.size w w' := by
 obtain ⟨ad, e1, -, -⟩ := at_T29 hr0 0 (Int.le_refl _) (by omega)
 subst e1
 have hne2 : ∀ h ∈ hsOf m, h ≠ [] := by
  intro h hh
  obtain ⟨t, ht, rfl⟩ := List.mem_map.1 hh
  exact hne t ht
 have hhl : (hsOf m).length = m.length := List.length_map ..
 have HM := Aside0.mk (And.intro hm (And.intro hm0 (And.intro hne (And.intro hne2 hhl))))
 have HT := Aside0.mk ht
 have HR0 := Aside0.mk hr0
 have hinf := info3
 clear ht hr0 hc0 hm hm0 hne hne2 hhl
 go_enter Tryd.func25, Tryd.ntmps25
 go_wp2_with (first
  | ((with_reducible refine gate_dst (N := 15) rfl ?_); refine box_event ?hg (N := 15) ?hd (cs := #[.slice none 0 0, .slice none 0 0]) (t := 60) ?hr ?_; (case hd => rfl); (case hg => rfl); (case hr => first | (go_simp; done) | (go_simp; rfl)); intro gs hg w1 hbox hb; have HB1 := Aside0.mk hb; have KS := Aside0.mk hbox; have GS : Aside0 (w.heap.size ≤ gs) := ⟨Nat.le_of_eq hg.symm⟩; clear hb hbox hg))
 go_loopg [18] m.length (fun kq v18 w' => ∃ (i : Nat) (vH vC : Value) (rs : List SRow), v18 = .int .i64 (i : Int) ∧ Aside0 (kq = m.length - i ∧ i ≤ m.length ∧ rs.length = i) ∧ Aside0 (SBld w' w.heap.size gs vH vC vH vC (rs.map (fun r => [r.hv])) (rs.map (fun r => [r.cv])) rs) ∧ Aside0 (∀ (j : Nat) (r : SRow), rs[j]? = some r → r.hx = hexAll (rd_T29 m (j : Int)) ∧ r.cs = List.replicate r.hx.length (-1)) ∧ Aside0 (Below w.heap.size w w'))
 case atStart => exact ⟨0, _, _, [], rfl, ⟨rfl, by omega, rfl⟩, ⟨⟨GS.out, KS.out, Kd.R_nil _ _ _ _ _, Kd.R_nil _ _ _ _ _, ne_nil _, fun i r hr => (by simp at hr), fun i j r r' hr => (by simp at hr)⟩⟩, ⟨fun j r hr => (by simp at hr)⟩, HB1⟩
 case round =>
  clear HB1 KS
  obtain ⟨i, vH, vC, rs, rfl, HX, SB, HC, HB⟩ := hrel
  obtain ⟨hkq, hil, hrl⟩ := HX.out
  clear HX
  by_cases hi : (i : Int) < (m.length : Int)
  rotate_left
  ·
   skip
   obtain rfl : i = m.length := by omega
   have d1 : decide ((m.length : Int) < (m.length : Int)) = false := decide_eq_false (by omega)
   obtain ⟨σ, hσ, hS⟩ := SB.out.has (by have := HM.out.2.1; omega)
   subst hσ
   have SH := Aside0.mk hS
   obtain ⟨last, hlast⟩ : ∃ l : Nat, m.length = l + 1 := ⟨m.length - 1, by have := HM.out.2.1; omega⟩
   have HLA := Aside0.mk hlast
   obtain ⟨r, hr⟩ : ∃ r, rs[last]? = some r := ⟨_, List.getElem?_eq_getElem (by omega)⟩
   obtain ⟨L, hL⟩ : ∃ L, L = r.hx.length := ⟨_, rfl⟩
   obtain ⟨n, hn⟩ : ∃ n, n = rs.length := ⟨_, rfl⟩
   have hr1 := HC.out last r hr
   obtain ⟨rr1, rr2, -, -⟩ := hS.rows last r hr
   have hL7 : L ≤ 7 := by rw [hL, hr1.1]; exact hexAll_len _
   have p1 : IntKind.i64.wrap ((m.length : Int) - 1) = (last : Int) := by have := HM.out.1; rw [Go.IntKind.wrap_i64]; omega
   have q0 := eq_true (show (0 : Int) ≤ (last : Int) by omega)
   have q1 := eq_true (show (last : Int) < (n : Int) by omega)
   have HRR := Aside0.mk (And.intro hr (And.intro hr1.1 (And.intro hr1.2 (And.intro rr1 (And.intro rr2 (And.intro hL (And.intro hL7 (And.intro hn hrl))))))))
   clear hS SB hlast hr hr1 rr1 rr2 hL hL7 hn hrl hkq hil hi
   go_wp2_with (first
    | ((with_reducible refine gate_dst (N := 58) rfl ?_); refine box_event ?hg (N := 58) ?hd (cs := #[.slice none 0 0]) (t := 77) ?hr ?_; (case hd => rfl); (case hg => rfl); (case hr => first | (go_simp; done) | (go_simp; rfl)); intro gq hg w2 hbox hb; have HB2 := Aside0.mk (below_step HB.out hb); have KQ := Aside0.mk hbox; have SH2 := Aside0.mk (SH.out.below hb); have GQ : Aside0 (w.heap.size ≤ gq) := ⟨by rw [hg]; exact HB.out.size⟩; have m0 : w2.cell? ⟨σ.gs, 0, none⟩ = some (.slice (some ⟨σ.bH, 0, none⟩) n σ.cH) := (by rw [HRR.out.2.2.2.2.2.2.2.1]; exact SH2.out.c0); have m1 : w2.cell? ⟨σ.bH, last, none⟩ = some (.slice (some ⟨r.hb, 0, none⟩) L r.hc) := (by rw [HRR.out.2.2.2.2.2.1]; exact SH2.out.hrow HRR.out.1); clear hb hbox hg))
   generalize hw2 : w2 = wq at *
   obtain ⟨e0⟩ : Aside0 (lastR r L 0 = r) := ⟨by unfold lastR; rw [show (List.replicate 0 (0 : Int) ++ List.replicate (L - 0) (-1)) = r.cs by rw [HRR.out.2.2.1, ← HRR.out.2.2.2.2.2.1]; simp]⟩
   go_loopg [70] L (fun kq v70 w' => ∃ (i : Nat) (vq : Value), v70 = .int .i64 (i : Int) ∧ Aside0 (kq = L - i ∧ i ≤ L) ∧ Aside0 (SHas w' w.heap.size σ (rs.set last (lastR r L i))) ∧ Aside0 (QHas w' w.heap.size gq vq (rowQ last 0 i)) ∧ Aside0 (Below w.heap.size w w'))
   case atStart => exact ⟨0, _, rfl, ⟨by omega⟩, ⟨by rw [e0, set_same HRR.out.1]; exact SH2.out⟩, ⟨⟨GQ.out, KQ.out, Kd.Q_nil _ _ _ _ _⟩⟩, HB2⟩
   case round =>
    clear HB2 KQ SH2 SH HB m0 m1 e0
    obtain ⟨i, vq, rfl, HX, SH, QH, HB⟩ := hrel
    obtain ⟨hkq, hiL⟩ := HX.out
    clear HX
    obtain ⟨rs2, hrs2⟩ : ∃ rs2, rs2 = rs.set last (lastR r L i) := ⟨_, rfl⟩
    have hr2 : rs2[last]? = some (lastR r L i) := by rw [hrs2, List.getElem?_set, if_pos rfl, if_pos (List.getElem?_eq_some_iff.1 HRR.out.1).1]
    have hn2 : rs2.length = n := by rw [hrs2, List.length_set, HRR.out.2.2.2.2.2.2.2.1]
    rw [← hrs2] at SH
    have HRS := Aside0.mk (And.intro hrs2 (And.intro hr2 hn2))
    have hcl : (lastR r L i).cs.length = L := by unfold lastR; simp; omega
    have HCL := Aside0.mk hcl
    by_cases hi : (i : Int) < (L : Int)
    ·
     have d1 : decide ((i : Int) < (L : Int)) = true := decide_eq_true hi
     have q2 := eq_true (show (0 : Int) ≤ (i : Int) by omega)
     have q3 := eq_true hi
     have p4 : IntKind.i64.wrap ((i : Int) + 1) = (i : Int) + 1 := by have := HRR.out.2.2.2.2.2.2.1; rw [Go.IntKind.wrap_i64]; omega
     have JX : Aside0 (L - (i + 1) < gk ∧ i + 1 ≤ L ∧ i < L) := ⟨by omega, by omega, by omega⟩
     have m0 : wr.cell? ⟨σ.gs, 1, none⟩ = some (.slice (some ⟨σ.bC, 0, none⟩) n σ.cC) := by rw [← hn2]; exact SH.out.c1
     have m1 : wr.cell? ⟨σ.bC, last, none⟩ = some (.slice (some ⟨r.cb, 0, none⟩) L r.cc) := by have h2 := SH.out.crow hr2; unfold SRow.cv at h2; rw [hcl] at h2; exact h2
     have RW : Aside0 (RowAt wr w.heap.size r.cb (.slice (some ⟨r.cb, 0, none⟩) L r.cc) (List.replicate i 0 ++ List.replicate (L - i) (-1))) := ⟨by have h2 := (SH.out.rows last _ hr2).2.2.2; unfold SRow.cv at h2; rw [hcl] at h2; exact h2⟩
     have h2 := RowAt.blk (show RowAt wr w.heap.size r.cb (.slice (some ⟨r.cb, 0, none⟩) (List.replicate i (0 : Int) ++ List.replicate (L - i) (-1)).length r.cc) (List.replicate i 0 ++ List.replicate (L - i) (-1)) by have h3 : (List.replicate i (0 : Int) ++ List.replicate (L - i) (-1)).length = L := hcl; rw [h3]; exact RW.out) (by have h3 : (List.replicate i (0 : Int) ++ List.replicate (L - i) (-1)).length = L := hcl; rw [h3]; omega)
     obtain ⟨hBc, cellsc, hcc⟩ := h2
     have HBC := Aside0.mk hBc
     have HCC := Aside0.mk hcc
     clear hkq hiL hi hcl hrs2 hr2 hn2 hBc hcc
     have HQL : Aside0 ((rowQ last 0 i).length ≤ 100000) := ⟨by unfold rowQ; rw [List.length_map, List.length_range]; have := JX.out.2.2; have := HRR.out.2.2.2.2.2.2.1; omega⟩
     go_wp2_with (first
      | ((with_reducible refine gate_ (.store 3 (.tmp 81) (.const (.int .i64 0))) rfl ?_); (refine int_store rfl rfl (.tmp 81) (.const (.int .i64 0)) rfl (by kernel_rfl) (g := r.cb) i 0 RW.out JX.out.2.2 rfl rfl ?_); intro w7 hR7 hg7 hz7; have hput := SH.out.put HRS.out.2.1 i 0 (by have h2 : RowAt w7 w.heap.size r.cb (.slice (some ⟨r.cb, 0, none⟩) L r.cc) ((lastR r L i).cs.set i 0) := hR7; unfold SRow.cv; rw [HCL.out]; exact h2) hg7; have e : rs2.set last { lastR r L i with cs := (lastR r L i).cs.set i 0 } = rs.set last (lastR r L (i + 1)) := (by rw [HRS.out.1, List.set_set]; unfold lastR; simp only [two_set 0 (-1) L i JX.out.2.2]); rw [e] at hput; have SH7 := Aside0.mk hput; have QH7 := Aside0.mk (QHas.grownInt QH.out HCC.out hg7); have HB7 := Aside0.mk (below_grown HB.out hg7 HBC.out HB.out.size); clear hput e hR7 hg7 hz7)
      | (go_at_call 36; refine (queue_push_calls (last : Int) (i : Int) gq vq w.heap.size (rowQ last 0 i) _ QH7.out HQL.out).mono ?_; rintro e w8 ⟨rfl, v8, hq8, hb8, hk8, hat8⟩; rw [← rowQ_snoc] at hq8; have SH8 := Aside0.mk (SH7.out.keptQ QH7.out hk8); have QH8 := Aside0.mk hq8; have HB8 := Aside0.mk (HB7.out.trans hb8); clear hq8 hb8 hk8 hat8))
     go_roundg (L - (i + 1))
     case measure => exact JX.out.1
     case rel => exact ⟨i + 1, v8, by simp, ⟨rfl, JX.out.2.1⟩, SH8, QH8, HB8⟩
    obtain rfl : i = L := by omega
    have d1 : decide ((i : Int) < (i : Int)) = false := decide_eq_false (by omega)
    obtain ⟨L1, hL1⟩ : ∃ L1, i = L1 + 1 := ⟨i - 1, by have := HRR.out.2.2.2.2.1; have := HRR.out.2.2.2.2.2.1; omega⟩
    have hq1 : rowQ last 0 i = ((last : Int), (0 : Int)) :: rowQ last 1 L1 := by rw [hL1]; exact rowQ_cons last 0 L1
    rw [hq1] at QH
    obtain ⟨hs, hhs⟩ : ∃ hs, hs = hsOf m := ⟨_, rfl⟩
    have hlr : lastR r i i = { r with cs := List.replicate i 0 } := by unfold lastR; simp
    have hPI : PInv hs rs2 (((last : Int), ((0 : Nat) : Int)) :: rowQ last 1 L1) last 0 := by
     have hln : last + 1 = m.length := HLA.out.symm
     have hgl : (hs.getD last []).length = i := by rw [hhs, hsOf_at m last (by omega), ← HRR.out.2.1, ← HRR.out.2.2.2.2.2.1]
     have hhl : hs.length = m.length := by rw [hhs]; exact HM.out.2.2.2.2
     refine ⟨by omega, by omega, ⟨?_, fun y x hx => ?_⟩, ?_⟩
     ·
      rw [hn2, hhl, HRR.out.2.2.2.2.2.2.2.1]; exact HRR.out.2.2.2.2.2.2.2.2
     ·
      rw [hrs2] at hx
      rcases set_row hx with ⟨rfl, rfl⟩ | ⟨hne, hx⟩
      ·
       refine ⟨by rw [hhs, hsOf_at m y (by omega), ← HRR.out.2.1]; rfl, ?_⟩
       rw [hlr, costAt_hi (Nat.le_refl _), drop_cons hs [] y (by omega), List.drop_eq_nil_of_le (by omega)]
       unfold finC
       rw [hgl]
      ·
       obtain ⟨x1, x2⟩ := HC.out y x hx
       have hyl : y < m.length := by have := (List.getElem?_eq_some_iff.1 hx).1; have := HRR.out.2.2.2.2.2.2.2.2; omega
       have e1 : x.hx = hs.getD y [] := by rw [hhs, hsOf_at m y hyl]; exact x1
       refine ⟨e1, ?_⟩
       rw [x2, e1]
       rcases Nat.lt_or_ge (y + 1) last with hy | hy
       ·
        rw [costAt_lo hy]
       ·
        rw [costAt_mid (by omega)]
        rfl
     ·
      unfold queAt
      rw [hgl, if_pos (.inl rfl), List.append_nil, Nat.sub_zero, hq1]
      rfl
    have HP := Aside0.mk hPI
    have HHS := Aside0.mk (show (∀ h ∈ hs, h ≠ []) ∧ (∀ h ∈ hs, h.length ≤ 7) ∧ hs.length ≤ 24 ∧ rs.length ≤ 24 by rw [hhs]; exact ⟨HM.out.2.2.2.1, hs7 m, by rw [HM.out.2.2.2.2]; exact HM.out.1, by rw [HRR.out.2.2.2.2.2.2.2.2]; exact HM.out.1⟩)
    have HH := Aside0.mk hhs
    clear hPI hlr hhs hq1 hL1 hcl hrs2 hr2 hn2 hkq hiL hi
    go_wp2_with (first
     | (go_at_call 37; refine (queue_pop_cons (last : Int) 0 gq vq w.heap.size (rowQ last 1 L1) _ QH.out).mono ?_; rintro e w8 ⟨rfl, v8, hq8, hb8, hk8, ho8⟩; have SH8 := Aside0.mk (SH.out.keptQ QH.out (hk8.mono (fun k hk => .inl hk))); have QH8 := Aside0.mk hq8; have HB8 := Aside0.mk (HB.out.trans hb8); clear hq8 hb8 hk8 ho8)
     | ((with_reducible refine gate_dst (N := 12) rfl ?_); refine box_event ?hg (N := 12) ?hd (cs := #[.int .i64 0, .int .i64 0]) (t := 57) ?hr ?_; (case hd => rfl); (case hg => rfl); (case hr => first | (go_simp; done) | (go_simp; rfl)); intro gn hg w9 hbox hb; have KN := Aside0.mk hbox; have SH9 := Aside0.mk (SH8.out.below hb); have QH9 := Aside0.mk (QH8.out.below hb); have HB9 := Aside0.mk (below_step HB8.out hb); have QN : Aside0 (∀ k, QBl gq v8 k → k ≠ gn) := ⟨fun k hk => by have := QH8.out.fresh k hk; omega⟩; have GN : Aside0 (w.heap.size ≤ gn) := ⟨by rw [hg]; exact HB8.out.size⟩; clear hb hbox hg)
     | ((with_reducible refine gate_ (.store 57 (.tmp 12) (.tmp 91)) rfl ?_); (refine box_store rfl rfl 57 (.tmp 12) (.tmp 91) rfl (g := gn) (off := 0) (new := #[.int .i64 (last : Int), .int .i64 0]) _ [.int .i64 (last : Int), .int .i64 0] KN.out rfl rfl rfl (by kernel_rfl) (by simp [Value.oneCell']) (Nat.le_of_ble_eq_true rfl) rfl ?_); intro w10 hh hg hz; have SH10 := Aside0.mk (SH9.out.grownSpl KN.out hg); have QH10 := Aside0.mk (QH9.out.off hg QN.out); have HB10 := Aside0.mk (below_grown HB9.out hg GN.out HB9.out.size); have KN10 := Aside0.mk hh; clear hh hg hz))
    go_loopg [12, 13] (singM hs last 0) (fun kq v12 v13 w' => ∃ (g12 : Nat) (a b : Int) (vq : Value) (rs4 : List SRow) (xs : List (Int × Int)) (ok : Bool), v12 = .pointer (some ⟨g12, 0, none⟩) ∧ v13 = .bool ok ∧ Aside0 (w'.heap[g12]? = some (.cells #[.int .i64 a, .int .i64 b] 57 (0, 0))) ∧ Aside0 (SHas w' w.heap.size σ rs4) ∧ Aside0 (QHas w' w.heap.size gq vq xs) ∧ Aside0 (w.heap.size ≤ g12 ∧ ∀ k, QBl gq vq k → k ≠ g12) ∧ Aside0 (Below w.heap.size w w') ∧ Aside0 ((ok = true → ∃ t j : Nat, a = (t : Int) ∧ b = (j : Int) ∧ PInv hs rs4 (((t : Int), (j : Int)) :: xs) t j ∧ kq = singM hs t j) ∧ (ok = false → PFin hs rs4)))
    case atStart => exact ⟨gn, _, _, v8, rs2, _, true, rfl, rfl, KN10, SH10, QH10, ⟨GN.out, QN.out⟩, HB10, ⟨fun _ => ⟨last, 0, rfl, rfl, HP.out, rfl⟩, fun h => by cases h⟩⟩
    case round =>
     clear KN10 SH10 QH10 QN GN HB10 HP KN SH9 QH9 HB9 SH8 QH8 HB8 SH QH HB
     obtain ⟨g12, a, b, vq, rs4, xs, ok, rfl, rfl, K, SH, QH, GG, HB, HX⟩ := hrel
     cases ok
     ·
      have HF := Aside0.mk (HX.out.2 rfl)
      clear HX
      go_wp2
      go_ret
      exact ⟨σ, rs4, rfl, SH.out, by rw [← HH.out]; exact HF.out, HB.out⟩
     obtain ⟨t, j, ha, hb, hp, hkq⟩ := HX.out.1 rfl
     clear HX
     have K12 := Aside0.mk (blk_lt K.out)
     have HBS : Aside0 (w.heap.size ≤ wr.heap.size) := ⟨HB.out.size⟩
     have hm1 : 0 < singM hs t j := by have := hp.2.1; unfold singM; omega
     cases t with
     | zero =>
      have ha0 : a = 0 := ha
      subst ha0
      have z0 : wr.cell? ⟨g12, 0, none⟩ = some (.int .i64 0) := (blk_cell K.out 0).trans rfl
      have z1 : wr.cell? ⟨g12, 1, none⟩ = some (.int .i64 b) := (blk_cell K.out 1).trans rfl
      rcases PInv_zero hp with ⟨rfl, hf⟩ | ⟨hp2, hm2⟩
      ·
       have HF := Aside0.mk hf
       have NX : Aside0 (0 < gk) := ⟨by omega⟩
       clear ha hb hp hkq hm1 hf
       go_wp2_with (first
        | (go_at_call 38; refine (sing_ahead_zero σ.gs gq b _).mono ?_; rintro e w5 ⟨rfl, hb5⟩; have SH5 := Aside0.mk (SH.out.below hb5); have QH5 := Aside0.mk (QH.out.below hb5); have HB5 := Aside0.mk (below_step HB.out hb5); have K5 := Aside0.mk (blk_below K.out hb5); have GG5 := GG; have y0 : w5.cell? ⟨g12, 0, none⟩ = some (.int .i64 0) := (blk_cell K5.out 0).trans rfl; have y1 : w5.cell? ⟨g12, 1, none⟩ = some (.int .i64 b) := (blk_cell K5.out 1).trans rfl; clear hb5)
        | ((with_reducible refine gate_dst (N := 12) rfl ?_); refine box_event ?hg (N := 12) ?hd (cs := #[.int .i64 0, .int .i64 0]) (t := 57) ?hr ?_; (case hd => rfl); (case hg => rfl); (case hr => first | (go_simp; done) | (go_simp; rfl)); intro gn hg w6 hbox hb; have KN := Aside0.mk hbox; have SH6 := Aside0.mk (SH5.out.below hb); have QH6 := Aside0.mk (QH5.out.below hb); have HB6 := Aside0.mk (below_step HB5.out hb); have QN : Aside0 (∀ k, QBl gq vq k → k ≠ gn) := ⟨fun k hk => by have := QH5.out.fresh k hk; omega⟩; have GN : Aside0 (w.heap.size ≤ gn) := ⟨by rw [hg]; exact HB5.out.size⟩; clear hb hbox hg)
        | ((with_reducible refine gate_ (.store 57 (.tmp 12) (.tmp 103)) rfl ?_); (refine box_store rfl rfl 57 (.tmp 12) (.tmp 103) rfl (g := gn) (off := 0) (new := #[.int .i64 0, .int .i64 b]) _ [.int .i64 0, .int .i64 b] KN.out rfl rfl rfl (by kernel_rfl) (by simp [Value.oneCell']) (Nat.le_of_ble_eq_true rfl) rfl ?_); intro w7 hh hg hz; have SH7 := Aside0.mk (SH6.out.grownSpl KN.out hg); have QH7 := Aside0.mk (QH6.out.off hg QN.out); have HB7 := Aside0.mk (below_grown HB6.out hg GN.out HB6.out.size); have KN7 := Aside0.mk hh; clear hh hg hz)
        | (go_at_call 37; refine (queue_pop_nil gq vq w.heap.size _ QH7.out).mono ?_; rintro e w8 ⟨rfl, hb8⟩; have SH8 := Aside0.mk (SH7.out.below hb8); have QH8 := Aside0.mk (QH7.out.below hb8); have HB8 := Aside0.mk (below_step HB7.out hb8); have KN8 := Aside0.mk (blk_below KN7.out hb8); have QN8 := QN; clear hb8)
        | ((with_reducible refine gate_ (.store 57 (.tmp 12) (.tmp 97)) rfl ?_); (refine box_store rfl rfl 57 (.tmp 12) (.tmp 97) rfl (g := gn) (off := 0) (new := #[.int .i64 0, .int .i64 0]) _ [.int .i64 0, .int .i64 0] KN8.out rfl rfl rfl (by kernel_rfl) (by simp [Value.oneCell']) (Nat.le_of_ble_eq_true rfl) rfl ?_); intro w9 hh hg hz; have SH9 := Aside0.mk (SH8.out.grownSpl KN8.out hg); have QH9 := Aside0.mk (QH8.out.off hg QN8.out); have HB9 := Aside0.mk (below_grown HB8.out hg GN.out HB8.out.size); have KN9 := Aside0.mk hh; clear hh hg hz))
       go_roundg 0
       case measure => exact NX.out
       case rel => exact ⟨gn, 0, 0, vq, rs4, [], false, rfl, rfl, KN9, SH9, QH9, ⟨GN.out, QN8.out⟩, HB9, ⟨⟨fun h => (by cases h), fun _ => HF.out⟩⟩⟩
      obtain ⟨ys, hys⟩ := hp2.ne
      subst hys
      obtain ⟨b2, hb2⟩ : ∃ b2 : Int, b2 = ((j + 1 : Nat) : Int) := ⟨_, rfl⟩
      have HP2 := Aside0.mk hp2
      have NX : Aside0 (singM hs 0 (j + 1) < gk ∧ b2 = ((j + 1 : Nat) : Int)) := ⟨by omega, hb2⟩
      have QH := Aside0.mk (show QHas wr w.heap.size gq vq (((0 : Int), b2) :: ys) by rw [hb2]; exact QH.out)
      clear ha hb hp hp2 hkq hm1 hm2 hb2
      go_wp2_with (first
       | (go_at_call 38; refine (sing_ahead_zero σ.gs gq b _).mono ?_; rintro e w5 ⟨rfl, hb5⟩; have SH5 := Aside0.mk (SH.out.below hb5); have QH5 := Aside0.mk (QH.out.below hb5); have HB5 := Aside0.mk (below_step HB.out hb5); have K5 := Aside0.mk (blk_below K.out hb5); have GG5 := GG; have y0 : w5.cell? ⟨g12, 0, none⟩ = some (.int .i64 0) := (blk_cell K5.out 0).trans rfl; have y1 : w5.cell? ⟨g12, 1, none⟩ = some (.int .i64 b) := (blk_cell K5.out 1).trans rfl; clear hb5)
       | ((with_reducible refine gate_dst (N := 12) rfl ?_); refine box_event ?hg (N := 12) ?hd (cs := #[.int .i64 0, .int .i64 0]) (t := 57) ?hr ?_; (case hd => rfl); (case hg => rfl); (case hr => first | (go_simp; done) | (go_simp; rfl)); intro gn hg w6 hbox hb; have KN := Aside0.mk hbox; have SH6 := Aside0.mk (SH5.out.below hb); have QH6 := Aside0.mk (QH5.out.below hb); have HB6 := Aside0.mk (below_step HB5.out hb); have QN : Aside0 (∀ k, QBl gq vq k → k ≠ gn) := ⟨fun k hk => by have := QH5.out.fresh k hk; omega⟩; have GN : Aside0 (w.heap.size ≤ gn) := ⟨by rw [hg]; exact HB5.out.size⟩; clear hb hbox hg)
       | ((with_reducible refine gate_ (.store 57 (.tmp 12) (.tmp 103)) rfl ?_); (refine box_store rfl rfl 57 (.tmp 12) (.tmp 103) rfl (g := gn) (off := 0) (new := #[.int .i64 0, .int .i64 b]) _ [.int .i64 0, .int .i64 b] KN.out rfl rfl rfl (by kernel_rfl) (by simp [Value.oneCell']) (Nat.le_of_ble_eq_true rfl) rfl ?_); intro w7 hh hg hz; have SH7 := Aside0.mk (SH6.out.grownSpl KN.out hg); have QH7 := Aside0.mk (QH6.out.off hg QN.out); have HB7 := Aside0.mk (below_grown HB6.out hg GN.out HB6.out.size); have KN7 := Aside0.mk hh; clear hh hg hz)
       | (go_at_call 37; refine (queue_pop_cons 0 b2 gq vq w.heap.size ys _ QH7.out).mono ?_; rintro e w8 ⟨rfl, v8, hq8, hb8, hk8, ho8⟩; have SH8 := Aside0.mk (SH7.out.keptQ QH7.out (hk8.mono (fun k hk => .inl hk))); have QH8 := Aside0.mk hq8; have HB8 := Aside0.mk (HB7.out.trans hb8); have KN8 := Aside0.mk (blk_kept KN7.out hk8 (fun h => QN.out _ (.inl rfl) h.symm)); have QN8 : Aside0 (∀ k, QBl gq v8 k → k ≠ gn) := ⟨fun k hk => hk.elim (fun h => QN.out k (.inl h)) (fun h => QN.out k (.inr (ho8 ▸ h)))⟩; clear hq8 hb8 hk8 ho8)
       | ((with_reducible refine gate_ (.store 57 (.tmp 12) (.tmp 97)) rfl ?_); (refine box_store rfl rfl 57 (.tmp 12) (.tmp 97) rfl (g := gn) (off := 0) (new := #[.int .i64 0, .int .i64 b2]) _ [.int .i64 0, .int .i64 b2] KN8.out rfl rfl rfl (by kernel_rfl) (by simp [Value.oneCell']) (Nat.le_of_ble_eq_true rfl) rfl ?_); intro w9 hh hg hz; have SH9 := Aside0.mk (SH8.out.grownSpl KN8.out hg); have QH9 := Aside0.mk (QH8.out.off hg QN8.out); have HB9 := Aside0.mk (below_grown HB8.out hg GN.out HB8.out.size); have KN9 := Aside0.mk hh; clear hh hg hz))
      go_roundg (singM hs 0 (j + 1))
      case measure => exact NX.out.1
      case rel => exact ⟨gn, 0, b2, v8, rs4, ys, true, rfl, rfl, KN9, SH9, QH9, ⟨GN.out, QN8.out⟩, HB9, ⟨fun _ => ⟨0, j + 1, rfl, NX.out.2, HP2.out, rfl⟩, fun h => by cases h⟩⟩
     | succ t1 =>
      obtain ⟨T, hT⟩ : ∃ T, T = t1 + 1 := ⟨_, rfl⟩
      have hTl : T < rs4.length := by rw [hp.2.2.1.1, hT]; exact hp.1
      obtain ⟨r4, hr4⟩ : ∃ r4, rs4[T]? = some r4 := ⟨_, List.getElem?_eq_getElem hTl⟩
      obtain ⟨p4, hp4⟩ : ∃ p4, rs4[t1]? = some p4 := ⟨_, List.getElem?_eq_getElem (by omega)⟩
      have haT : a = (T : Int) := by rw [hT]; exact ha
      have hbj : b = (j : Int) := hb
      obtain ⟨hbd, t2, j2, hp2, hm2⟩ := PInv_succ HHS.out.1 HHS.out.2.1 hp (hT ▸ hr4) hp4
      obtain ⟨rs5, hrs5⟩ : ∃ rs5, rs5 = rs4.set t1 (ahP (r4.cs.getD j 0) (r4.hx.getD j 0) p4 p4.hx.length) := ⟨_, rfl⟩
      rw [← hrs5] at hp2
      obtain ⟨ys, hys⟩ := hp2.ne
      obtain ⟨a2, ha2⟩ : ∃ a2 : Int, a2 = (t2 : Int) := ⟨_, rfl⟩
      obtain ⟨b2, hb2⟩ : ∃ b2 : Int, b2 = (j2 : Int) := ⟨_, rfl⟩
      have hj4 : j < r4.hx.length := by rw [(hp.2.2.1.2 T r4 hr4).1, hT]; exact hp.2.1
      have hq14 := hp.qlen HHS.out.2.1
      have hq7 : p4.hx.length ≤ 7 := by
       rw [(hp.2.2.1.2 t1 p4 hp4).1]
       rw [List.getD_eq_getElem?_getD, List.getElem?_eq_getElem (show t1 < hs.length by have := hp.1; omega)]
       exact HHS.out.2.1 _ (List.getElem_mem _)
      rw [List.length_cons] at hq14
      have HS := Aside0.mk (And.intro hT (And.intro hr4 (And.intro hp4 (And.intro hj4 (And.intro hbd.1 (And.intro (show r4.cs.getD j 0 ≤ 1000 by have := hbd.2; have := HHS.out.2.2.1; omega) (And.intro (show xs.length + p4.hx.length ≤ 10000 by omega) (show rs4.length ≤ 1000 by rw [hp.2.2.1.1]; have := HHS.out.2.2.1; omega))))))))
      have hys2 : (a2, b2) :: ys = xs ++ ahQ t1 p4 p4.hx.length := by rw [hys, ha2, hb2]
      have HQ5 := Aside0.mk (And.intro hrs5 hys2)
      have HP2 := Aside0.mk (show PInv hs rs5 (((t2 : Int), (j2 : Int)) :: ys) t2 j2 by rw [← hys]; exact hp2)
      have NX : Aside0 (singM hs t2 j2 < gk ∧ a2 = (t2 : Int) ∧ b2 = (j2 : Int)) := ⟨by omega, ha2, hb2⟩
      subst haT
      subst hbj
      have z0 : wr.cell? ⟨g12, 0, none⟩ = some (.int .i64 (T : Int)) := (blk_cell K.out 0).trans rfl
      have z1 : wr.cell? ⟨g12, 1, none⟩ = some (.int .i64 (j : Int)) := (blk_cell K.out 1).trans rfl
      clear ha hb hp hkq hm1 hT hTl hr4 hp4 hbd hp2 hm2 hrs5 hys ha2 hb2 hj4 hq14 hq7 hys2
      go_wp2_with (first
       | (go_at_call 38; refine (sing_ahead_succ σ w.heap.size T t1 j gq rs4 r4 p4 vq xs (r4.cs.getD j 0) (r4.hx.getD j 0) _ HS.out.1 HS.out.2.1 HS.out.2.2.1 HS.out.2.2.2.1 rfl rfl HS.out.2.2.2.2.1 HS.out.2.2.2.2.2.1 SH.out QH.out HS.out.2.2.2.2.2.2.1 HS.out.2.2.2.2.2.2.2).mono ?_; rintro e w5 ⟨rfl, v5, hs5, hq5, hb5, hk5, hat5⟩; rw [← HQ5.out.1] at hs5; rw [← HQ5.out.2] at hq5; have SH5 := Aside0.mk hs5; have QH5 := Aside0.mk hq5; have HB5 := Aside0.mk (HB.out.trans hb5); have K5 := Aside0.mk (blk_kept K.out hk5 (fun h => h.elim (fun h => GG.out.2 _ h rfl) (fun h => SH.out.intOff K.out HS.out.2.2.1 h))); have GG5 : Aside0 (w.heap.size ≤ g12 ∧ ∀ k, QBl gq v5 k → k ≠ g12) := ⟨GG.out.1, fun k hk => hk.elim (fun hk => by subst hk; exact GG.out.2 _ (.inl rfl)) (fun hk => hat5.elim (fun h => GG.out.2 k (.inr (h ▸ hk))) (fun ⟨k2, h1, h2⟩ => by rw [hk] at h1; have h3 := Option.some.inj h1; have := K12.out; omega))⟩; have y0 : w5.cell? ⟨g12, 0, none⟩ = some (.int .i64 (T : Int)) := (blk_cell K5.out 0).trans rfl; have y1 : w5.cell? ⟨g12, 1, none⟩ = some (.int .i64 (j : Int)) := (blk_cell K5.out 1).trans rfl; clear hs5 hq5 hb5 hk5 hat5)
       | ((with_reducible refine gate_dst (N := 12) rfl ?_); refine box_event ?hg (N := 12) ?hd (cs := #[.int .i64 0, .int .i64 0]) (t := 57) ?hr ?_; (case hd => rfl); (case hg => rfl); (case hr => first | (go_simp; done) | (go_simp; rfl)); intro gn hg w6 hbox hb; have KN := Aside0.mk hbox; have SH6 := Aside0.mk (SH5.out.below hb); have QH6 := Aside0.mk (QH5.out.below hb); have HB6 := Aside0.mk (below_step HB5.out hb); have QN : Aside0 (∀ k, QBl gq v5 k → k ≠ gn) := ⟨fun k hk => by have := QH5.out.fresh k hk; omega⟩; have GN : Aside0 (w.heap.size ≤ gn) := ⟨by rw [hg]; exact HB5.out.size⟩; clear hb hbox hg)
       | ((with_reducible refine gate_ (.store 57 (.tmp 12) (.tmp 103)) rfl ?_); (refine box_store rfl rfl 57 (.tmp 12) (.tmp 103) rfl (g := gn) (off := 0) (new := #[.int .i64 (T : Int), .int .i64 (j : Int)]) _ [.int .i64 (T : Int), .int .i64 (j : Int)] KN.out rfl rfl rfl (by kernel_rfl) (by simp [Value.oneCell']) (Nat.le_of_ble_eq_true rfl) rfl ?_); intro w7 hh hg hz; have SH7 := Aside0.mk (SH6.out.grownSpl KN.out hg); have QH7 := Aside0.mk (QH6.out.off hg QN.out); have HB7 := Aside0.mk (below_grown HB6.out hg GN.out HB6.out.size); have KN7 := Aside0.mk hh; clear hh hg hz)
       | (go_at_call 37; refine (queue_pop_cons a2 b2 gq v5 w.heap.size ys _ QH7.out).mono ?_; rintro e w8 ⟨rfl, v8, hq8, hb8, hk8, ho8⟩; have SH8 := Aside0.mk (SH7.out.keptQ QH7.out (hk8.mono (fun k hk => .inl hk))); have QH8 := Aside0.mk hq8; have HB8 := Aside0.mk (HB7.out.trans hb8); have KN8 := Aside0.mk (blk_kept KN7.out hk8 (fun h => QN.out _ (.inl rfl) h.symm)); have QN8 : Aside0 (∀ k, QBl gq v8 k → k ≠ gn) := ⟨fun k hk => hk.elim (fun h => QN.out k (.inl h)) (fun h => QN.out k (.inr (ho8 ▸ h)))⟩; clear hq8 hb8 hk8 ho8)
       | ((with_reducible refine gate_ (.store 57 (.tmp 12) (.tmp 97)) rfl ?_); (refine box_store rfl rfl 57 (.tmp 12) (.tmp 97) rfl (g := gn) (off := 0) (new := #[.int .i64 a2, .int .i64 b2]) _ [.int .i64 a2, .int .i64 b2] KN8.out rfl rfl rfl (by kernel_rfl) (by simp [Value.oneCell']) (Nat.le_of_ble_eq_true rfl) rfl ?_); intro w9 hh hg hz; have SH9 := Aside0.mk (SH8.out.grownSpl KN8.out hg); have QH9 := Aside0.mk (QH8.out.off hg QN8.out); have HB9 := Aside0.mk (below_grown HB8.out hg GN.out HB8.out.size); have KN9 := Aside0.mk hh; clear hh hg hz))
      go_roundg (singM hs t2 j2)
      case measure => exact NX.out.1
      case rel => exact ⟨gn, a2, b2, v8, rs5, ys, true, rfl, rfl, KN9, SH9, QH9, ⟨GN.out, QN8.out⟩, HB9, ⟨fun _ => ⟨t2, j2, NX.out.2.1, NX.out.2.2, HP2.out, rfl⟩, fun h => by cases h⟩⟩
  have d1 : decide ((i : Int) < (m.length : Int)) = true := decide_eq_true hi
  have q0 := eq_true (show (0 : Int) ≤ (i : Int) by omega)
  have q1 := eq_true hi
  have p3 : IntKind.i64.wrap ((i : Int) + 1) = (i : Int) + 1 := by have := HM.out.1; rw [Go.IntKind.wrap_i64]; omega
  obtain ⟨ad', ea, ux0, ux1⟩ := at_T29 HR0.out (i : Int) (by omega) hi
  obtain rfl := Option.some.inj ea
  obtain ⟨X, hX⟩ : ∃ X, X = rd_T29 m (i : Int) := ⟨_, rfl⟩
  rw [← hX] at ux0 ux1
  have hXm : X ∈ m := by
   rw [hX]
   unfold rd_T29
   rw [Int.toNat_natCast, List.getD_eq_getElem?_getD, List.getElem?_eq_getElem (by omega)]
   exact List.getElem_mem _
  have hx0 := (HB.out.cell (World.block_lt_of_cell? w _ ux0)).trans ux0
  have hx1 := (HB.out.cell (World.block_lt_of_cell? w _ ux1)).trans ux1
  simp only [Int.toNat_natCast] at hx0 hx1
  obtain ⟨XA, hXA⟩ : ∃ XA, XA = hexAll X := ⟨_, rfl⟩
  have hXn : 0 < XA.length := List.length_pos_iff.2 (by rw [hXA]; exact HM.out.2.2.1 X hXm)
  have hX7 : XA.length ≤ 7 := by rw [hXA]; exact hexAll_len X
  have HXX := Aside0.mk (And.intro hX (And.intro hXA (And.intro hXn hX7)))
  have NX : Aside0 (m.length - (i + 1) < gk ∧ i + 1 ≤ m.length ∧ rs.length = i ∧ i < m.length) := ⟨by omega, by omega, hrl, by omega⟩
  have HBS : Aside0 (w.heap.size ≤ wr.heap.size) := ⟨HB.out.size⟩
  clear ea ux0 ux1 hX hXm hXA hXn hX7 hkq hil hrl hi
  go_wp2_with (first
   | ((with_reducible refine gate_dst (N := 5) rfl ?_); refine box_event ?hg (N := 5) ?hd (cs := #[.int .i64 0, .bool false]) (t := 29) ?hr ?_; (case hd => rfl); (case hg => rfl); (case hr => first | (go_simp; done) | (go_simp; rfl)); intro g5 hg w2 hbox hb; have HW2 := Aside0.mk hb; have K5 := Aside0.mk hbox; have G5 : Aside0 (wr.heap.size ≤ g5) := ⟨Nat.le_of_eq hg.symm⟩; clear hb hbox hg)
   | ((with_reducible refine gate_ (.store 29 (.tmp 5) (.tmp 21)) rfl ?_); (refine box_store rfl rfl 29 (.tmp 5) (.tmp 21) rfl (g := g5) (off := 0) (new := #[.int .i64 X.f0, .bool X.f1]) _ [.int .i64 X.f0, .bool X.f1] K5.out rfl rfl rfl (by kernel_rfl) (by simp [Value.oneCell']) (Nat.le_of_ble_eq_true rfl) rfl ?_); intro w3 hh hg hz; have HW3 := Aside0.mk (below_grown HW2.out hg G5.out HW2.out.size); have K5 := Aside0.mk hh; have y0 : w3.cell? ⟨g5, 0, none⟩ = some (.int .i64 X.f0) := (blk_cell hh 0).trans rfl; have y1 : w3.cell? ⟨g5, 1, none⟩ = some (.bool X.f1) := (blk_cell hh 1).trans rfl; clear hh hg hz)
   | (go_at_call 8; refine (impl_HexAll_calls X _ (HT.out.below (HB.out.trans (HW3.out.mono HBS.out)))).mono ?_; rintro e w4 ⟨v6, rfl, hr6, hb4⟩; rw [← HXX.out.2.1] at hr6; obtain ⟨hb, hc, rfl, hb0, hb1, -, -⟩ := Kd.R_form hr6 HXX.out.2.2.1; have HW4 := Aside0.mk (below_step HW3.out hb4); have RH4 := Aside0.mk (RowAt.of hr6 (Nat.le_trans HBS.out HW3.out.size)); have HB0 : Aside0 (wr.heap.size ≤ hb ∧ hb < w4.heap.size) := ⟨Nat.le_trans HW3.out.size hb0, hb1⟩; clear hr6 hb0 hb1 hb4)
   | ((with_reducible refine gate_dst (N := 26) rfl ?_); refine Kd.R_make (Kd.int .i64) _ 3 rfl (N := 26) rfl 26 _ _ rfl (XA.length : Int) rfl rfl Tryd.underlying26 (.int .i64 0) 8 hinf rfl (by decide) (by omega) (0 : Int) (ok := fun _ => True) (okp := fun _ => True) rfl (fun _ hk => hk) trivial (by have := HXX.out.2.2.2; omega) (by have := HXX.out.2.2.2; omega) (Below.refl _ _) (Nat.le_refl _) ?_; intro v7 w5 hr7 hb5 hg5 _; rw [Int.toNat_natCast] at hr7; obtain ⟨cb, cc, rfl, hb0, hb1, -, -⟩ := Kd.R_form hr7 (by rw [List.length_replicate]; exact HXX.out.2.2.1); rw [List.length_replicate] at hr7 ⊢; have HW5 := Aside0.mk hb5; have RC5 := Aside0.mk (RowAt.of hr7 (Nat.le_trans HBS.out HW4.out.size)); have CB0 := Aside0.mk hb0; clear hr7 hb0 hb1 hb5 hg5))
  obtain ⟨wo, hwo⟩ : ∃ x, x = wr := ⟨_, rfl⟩
  subst hwo
  go_loopg [29] XA.length (fun kq v29 w' => ∃ (j : Nat), v29 = .int .i64 (j : Int) ∧ Aside0 (kq = XA.length - j ∧ j ≤ XA.length) ∧ Aside0 (RowAt w' w.heap.size cb (.slice (some ⟨cb, 0, none⟩) XA.length cc) (List.replicate j (-1) ++ List.replicate (XA.length - j) 0)) ∧ Aside0 (Below w4.heap.size w4 w'))
  case atStart => exact ⟨0, rfl, ⟨rfl, by omega⟩, ⟨RC5.out⟩, HW5⟩
  case round =>
   clear HW2 HW3 RC5 HW5 K5 y0 y1 hx0 hx1 q0 q1 d1
   obtain ⟨j, rfl, HX, RC, HW5⟩ := hrel
   obtain ⟨hkq, hjl⟩ := HX.out
   clear HX
   by_cases hj : (j : Int) < (XA.length : Int)
   ·
    have d2 : decide ((j : Int) < (XA.length : Int)) = true := decide_eq_true hj
    have q0 := eq_true (show (0 : Int) ≤ (j : Int) by omega)
    have q1 := eq_true hj
    have p4 : IntKind.i64.wrap ((j : Int) + 1) = (j : Int) + 1 := by have := HXX.out.2.2.2; rw [Go.IntKind.wrap_i64]; omega
    have JX : Aside0 (XA.length - (j + 1) < gk ∧ j + 1 ≤ XA.length ∧ j < XA.length) := ⟨by omega, by omega, by omega⟩
    clear hkq hjl hj
    go_wp2_with (first
     | ((with_reducible refine gate_ (.store 3 (.tmp 34) (.const (.int .i64 (-1)))) rfl ?_); (refine int_store rfl rfl (.tmp 34) (.const (.int .i64 (-1))) rfl (by kernel_rfl) (g := cb) j (-1) RC.out JX.out.2.2 rfl rfl ?_); intro w7 hR7 hg7 hz7; rw [two_set (-1) 0 XA.length j JX.out.2.2] at hR7; have RC7 := Aside0.mk hR7; have HW7 := Aside0.mk (below_grown HW5.out hg7 CB0.out HW5.out.size); clear hR7 hg7 hz7))
    go_roundg (XA.length - (j + 1))
    case measure => exact JX.out.1
    case rel => exact ⟨j + 1, by simp, ⟨rfl, JX.out.2.1⟩, RC7, HW7⟩
   obtain rfl : j = XA.length := by omega
   have d2 : decide ((XA.length : Int) < (XA.length : Int)) = false := decide_eq_false (by omega)
   have e : List.replicate XA.length (-1 : Int) ++ List.replicate (XA.length - XA.length) 0 = List.replicate XA.length (-1) := by simp
   have hRC := RC.out
   rw [e] at hRC
   obtain ⟨r, hr⟩ : ∃ r : SRow, r = ⟨hb, hc, cb, cc, XA, List.replicate XA.length (-1)⟩ := ⟨_, rfl⟩
   have hbw4 : Below wo.heap.size wo wr := below_step HW4.out HW5.out
   have rhv : r.hv = .slice (some ⟨hb, 0, none⟩) XA.length hc := by rw [hr]; rfl
   have rcv : r.cv = .slice (some ⟨cb, 0, none⟩) XA.length cc := by rw [hr]; unfold SRow.cv; simp
   have hSB := (SB.out.below hbw4).addRow r (by rw [hr]; simp) (by rw [hr]; exact HXX.out.2.2.1) (by rw [rhv, hr]; exact RH4.out.below HW5.out) (by rw [rcv, hr]; exact hRC) SB.out.lt (by rw [hr]; exact HB0.out.1) (by rw [hr]; exact Nat.le_trans HW4.out.size CB0.out) (by rw [hr]; show hb ≠ cb; have := HB0.out.2; have := CB0.out; omega)
   have SB6 := Aside0.mk hSB
   have HRV := Aside0.mk (And.intro hr (And.intro rhv rcv))
   have HB6 := Aside0.mk (HB.out.trans (hbw4.mono HBS.out))
   have LB : Aside0 (((rs.map (fun r => [r.hv])).length + 1) * 24 ≤ 140737488355328 ∧ ((rs.map (fun r => [r.cv])).length + 1) * 24 ≤ 140737488355328) := ⟨by have := NX.out.2.2; have := HM.out.1; rw [List.length_map, List.length_map]; omega⟩
   have hv0 : wr.cell? ⟨gs, 0, none⟩ = some vH := (blk_cell hSB.top 0).trans rfl
   clear hSB hbw4 rhv rcv hr hRC e hkq hjl hj
   go_wp2_with (first
    | ((with_reducible refine gate_builtin (b := .append) (xs := #[.tmp 40, .tmp 42]) rfl ?_); at_builtin; refine Kd.R_append (Kd.raw 1) (w0 := w) (W := wr) w.heap.size ?b1 (.tmp 40) (.tmp 42) 58 26 (.slice none 0 0) 24 ?b2 ?b3 ?b4 ?b5 ?b6 ?b7 vH (rs.map (fun r => [r.hv])) [(.slice (some ⟨hb, 0, none⟩) XA.length hc)] [(.slice (some ⟨hb, 0, none⟩) XA.length hc)] (fun _ => True) (fun _ => False) ?b8 ?b9 ?c1 ?c2 ?c3 ?c4 ?c5 ?c6 ?c7 ?c8; (case b1 => rfl); (case b2 => rfl); (case b3 => exact Tryd.underlying58); (case b4 => exact infoSl); (case b5 => rfl); (case b6 => decide); (case b7 => omega); (case b8 => rfl); (case b9 => rfl); (case c1 => exact ⟨rfl, rfl, by simp [Value.oneCell']⟩); (case c2 => exact (fun _ hk => hk.elim)); (case c3 => exact (fun _ _ => trivial)); (case c4 => exact SB6.out.rH); (case c5 => exact HB6.out); (case c6 => exact HB6.out.size); (case c7 => exact LB.out.1); intro v43 w8 ho hb_ hg hat; have SB8 := Aside0.mk (SB6.out.appH ho hg hat); have HB8 := Aside0.mk hb_; have hv1 : w8.cell? ⟨gs, 1, none⟩ = some vC := (blk_cell SB8.out.top 1).trans rfl; clear ho hb_ hg hat)
    | ((with_reducible refine gate_ (.store 58 (.tmp 45) (.tmp 43)) rfl ?_); (refine box_store rfl rfl 58 (.tmp 45) (.tmp 43) rfl (g := gs) (off := 0) (new := #[v43, vC]) _ [v43] SB8.out.top rfl rfl (by obtain ⟨_, _, hh⟩ := Kd.R_slice SB8.out.rH; rw [hh]; rfl) (by kernel_rfl) (by obtain ⟨_, _, hh⟩ := Kd.R_slice SB8.out.rH; rw [hh]; simp [Value.oneCell']) (Nat.le_of_ble_eq_true rfl) rfl ?_); intro w9 hh hg hz; have SB9 := Aside0.mk (SB8.out.setTop hh hg); have HB9 := Aside0.mk (below_grown HB8.out hg GS.out HB8.out.size); have hv2 : w9.cell? ⟨gs, 1, none⟩ = some vC := (blk_cell hh 1).trans rfl; clear hh hg hz)
    | ((with_reducible refine gate_builtin (b := .append) (xs := #[.tmp 50, .tmp 52]) rfl ?_); at_builtin; refine Kd.R_append (Kd.raw 1) (w0 := w) (W := w9) w.heap.size ?b1y (.tmp 50) (.tmp 52) 58 26 (.slice none 0 0) 24 ?b2y ?b3y ?b4y ?b5y ?b6y ?b7y vC (rs.map (fun r => [r.cv])) [(.slice (some ⟨cb, 0, none⟩) XA.length cc)] [(.slice (some ⟨cb, 0, none⟩) XA.length cc)] (fun _ => True) (fun _ => False) ?b8y ?b9y ?c1y ?c2y ?c3y ?c4y ?c5y ?c6y ?c7y ?c8y; (case b1y => rfl); (case b2y => rfl); (case b3y => exact Tryd.underlying58); (case b4y => exact infoSl); (case b5y => rfl); (case b6y => decide); (case b7y => omega); (case b8y => rfl); (case b9y => rfl); (case c1y => exact ⟨rfl, rfl, by simp [Value.oneCell']⟩); (case c2y => exact (fun _ hk => hk.elim)); (case c3y => exact (fun _ _ => trivial)); (case c4y => exact SB9.out.rC); (case c5y => exact HB9.out); (case c6y => exact HB9.out.size); (case c7y => exact LB.out.2); intro v53 w10 ho hb_ hg hat; have SB10 := Aside0.mk (SB9.out.appC ho hg hat); have HB10 := Aside0.mk hb_; skip; clear ho hb_ hg hat)
    | ((with_reducible refine gate_ (.store 58 (.tmp 55) (.tmp 53)) rfl ?_); (refine box_store rfl rfl 58 (.tmp 55) (.tmp 53) rfl (g := gs) (off := 1) (new := #[v43, v53]) _ [v53] SB10.out.top rfl rfl (by obtain ⟨_, _, hh⟩ := Kd.R_slice SB10.out.rC; rw [hh]; rfl) (by kernel_rfl) (by obtain ⟨_, _, hh⟩ := Kd.R_slice SB10.out.rC; rw [hh]; simp [Value.oneCell']) (Nat.le_of_ble_eq_true rfl) rfl ?_); intro w11 hh hg hz; have SB11 := Aside0.mk (SB10.out.setTop hh hg); have HB11 := Aside0.mk (below_grown HB10.out hg GS.out HB10.out.size); clear hh hg hz))
   go_roundg (m.length - (i + 1))
   case measure => exact NX.out.1
   case rel =>
    refine ⟨i + 1, v43, v53, rs ++ [r], by simp, ⟨rfl, NX.out.2.1, by rw [List.length_append, NX.out.2.2.1]; rfl⟩, ⟨?_⟩, ⟨fun j x hx => ?_⟩, HB11⟩
    ·
     have h2 := SB11.out
     rw [← HRV.out.2.1, ← HRV.out.2.2] at h2
     rw [List.map_append, List.map_append]
     exact h2
    ·
     rcases getElem?_snoc rs r j x hx with hx | ⟨rfl, rfl⟩
     ·
      exact HC.out j x hx
     ·
      rw [NX.out.2.2.1, HRV.out.1]
      exact ⟨by rw [← HXX.out.1]; exact HXX.out.2.1, rfl⟩

end Go.Proofs.YtiagfjbngpbejaaDoor.Pure
namespace Go.Proofs.YtiagfjbngpbejaaDoor.PFnExactSingBest
set_option linter.unusedVariables false
set_option linter.unusedSimpArgs false
open Go Go.RowKit Go.Proofs.YtiagfjbngpbejaaDoor.Pure Go.Proofs.YtiagfjbngpbejaaDoorW.PrintWords Go.Proofs.YtiagfjbngpbejaaDoorW.PrintLast Go.Proofs.YtiagfjbngpbejaaDoorW.PrintMore
def impl_HexAll.f (a0_0 : Int) (a0_1 : Bool) : Option (List Int) := some (hexAll ⟨a0_0, a0_1⟩)
theorem impl_HexAll.calls (a0_0 : Int) (a0_1 : Bool) (r : List Int) (w : World) (ht : NTab w) (h : impl_HexAll.f a0_0 a0_1 = some r) :
 Calls Tryd.prog 8 #[.agg #[.int .i64 a0_0, .bool a0_1]] w fun e w' => ∃ v0_ : Value, e = .returned (v0_) ∧ Kd.R (Kd.int .i64) 3 w' w.heap.size (fun _ => True) v0_ r ∧ Below w.heap.size w w' := by
 unfold impl_HexAll.f at h; injection h with h
 subst h; exact impl_HexAll_calls ⟨a0_0, a0_1⟩ w ht

end Go.Proofs.YtiagfjbngpbejaaDoor.PFnExactSingBest
namespace Go.Proofs.YtiagfjbngpbejaaDoor.PFnExactSingBest
open Go.RowKit Go.Proofs.YtiagfjbngpbejaaDoorW.PrintWords Go.Proofs.YtiagfjbngpbejaaDoorW.PrintLast Go.Proofs.YtiagfjbngpbejaaDoorW.PrintMore Go.Proofs.YtiagfjbngpbejaaDoor.Pure
attribute [local go_sem] max2_int min2_int max_two min_two max_three min_three max_four min_four   -- for this text's walks alone
set_option linter.unusedVariables false
set_option linter.unusedSimpArgs false

def impl_SingMany.l0 : Nat → Int → List (S29) → Int → Int → Option (Int)
 | 0, _, _, _, _ => none
 | k + 1, x3, x9, x10, x11 => if x11 < x10 then (if 0 ≤ x11 then (if x11 < (x9.length : Int) then ((impl_HexAll.f ((rd_T29 x9 x11).f0) ((rd_T29 x9 x11).f1)).bind fun t114 => (impl_SingMany.l0 k (wrap64 (x3 * (t114.length : Int))) x9 x10 (wrap64 (x11 + 1)))) else (none)) else (none)) else (some x3)
def impl_SingMany.f (k : Nat) (l0 : List (S29)) : Option (Int) := (impl_MelodyValid.f k l0).bind fun t111 => (if t111 = true then (impl_SingMany.l0 k 1 l0 (l0.length : Int) 0) else (some (-1)))
set_option maxHeartbeats 8000000 in
set_option maxRecDepth 100000 in
theorem impl_SingMany.calls (k : Nat) (A0 : Option Addr) (c0 : Nat) (l0 : List (S29)) (r : Int) (w : World) (ht : NTab w) (hr0 : Kd.C k29 w A0 l0.length l0) (hc0 : l0.length ≤ c0) (h : impl_SingMany.f k l0 = some r) :
 Calls Tryd.prog 6 #[.slice A0 l0.length c0] w fun e w' => e = .returned (.int .i64 r) ∧ Below w.heap.size w w' := by
 have HT := Aside0.mk ht; clear ht; have hu29 := Tryd.underlying29; have HR0 := Aside0.mk hr0; have HC0 := Aside0.mk hc0; clear hr0 hc0; have HB := Aside0.mk (Below.refl w.heap.size w); have H : ((impl_MelodyValid.f k l0).bind fun t111 => (if t111 = true then (impl_SingMany.l0 k 1 l0 (l0.length : Int) 0) else (some (-1)))) = some r := h; clear h; replace H := Option.bind_eq_some_iff.mp H; obtain ⟨t111, A20, H⟩ := H; replace H : (if t111 = true then (impl_SingMany.l0 k 1 l0 (l0.length : Int) 0) else (some (-1))) = some r := H; have A2 := Aside0.mk A20; clear A20; by_cases c3 : t111 = true
 ·
  subst c3; have H1 : (impl_SingMany.l0 k 1 l0 (l0.length : Int) 0) = some r := by rw [if_pos rfl] at H; exact H
  clear H; have H := H1; clear H1; have H' := Aside0.mk H; clear H; go_enter Tryd.func6, Tryd.ntmps6
  go_wp2_with (first | ((with_reducible refine gate_callee (f := 20) rfl ?_); refine goesL_ (some 7) rfl rfl Tryd.func20 (by kernel_rfl) rfl #[.slice A0 l0.length c0] rfl (by (try simp only [List.map_toArray, List.map_cons, List.map_nil]); first | done | rfl | (simp only [List.length_drop, List.length_take]; rfl)) ?_; (with_reducible refine (impl_MelodyValid.calls k _ _ l0 true _ ?side1 ?side2 A2.out).mono ?_); (case side1 => repeat (first | exact HR0.out | (with_reducible refine Kd.C_alloc ?_ _) | (with_reducible refine Kd.C_drewN ?_ _) | (with_reducible refine Kd.C_drew ?_))); (case side2 => exact HC0.out); rintro e w4 ⟨rfl, hb⟩; refine ⟨_, rfl, ?_⟩; have n0_ := Aside0.mk (below_step (by repeat (first | (with_reducible first | exact HB.out | apply below_alloc | apply pw_below_drewN | apply below_drew1) | exact HB.out)) hb); clear HB; have HB := n0_; clear n0_; (try clear hb); (try clear hb2); (try clear hk); (try clear hi)))
  go_loopg [3, 11] k (fun kq v3 v11 w' => ∃ (x3_1 : Int) (x11_1 : Int), v3 = .int .i64 x3_1 ∧ v11 = .int .i64 x11_1 ∧ Aside0 (impl_SingMany.l0 kq x3_1 l0 (l0.length : Int) x11_1 = some r) ∧ Aside0 (kq ≤ k) ∧ Aside0 (Below w.heap.size w w'))
  case atStart => exact ⟨(1), (0), (by first | rfl | (simp; done) | (simp [*]; done)), (by first | rfl | (simp; done) | (simp [*]; done)), H', ⟨Nat.le_refl _⟩, ⟨by repeat (first | (with_reducible first | exact HB.out | apply below_alloc | apply pw_below_drewN | apply below_drew1) | exact HB.out)⟩⟩
  case round =>
   clear H'; try clear c2
   try clear p2
   try clear c3
   obtain ⟨x3_1, x11_1, rfl, rfl, HA, HK1, HB⟩ := hrel; cases gk with
   | zero => exact absurd HA.out (by simp [impl_SingMany.l0])
   | succ k1 =>
    have H := HA.out; clear HA; simp only [impl_SingMany.l0] at H; by_cases c5 : x11_1 < (l0.length : Int)
    ·
     rw [if_pos c5] at H; have c5b0 : decide (x11_1 < (l0.length : Int)) = true := decide_eq_true c5; clear c5; by_cases c6 : 0 ≤ x11_1
     ·
      rw [if_pos c6] at H; have c6b0 : decide (0 ≤ x11_1) = true := decide_eq_true c6; clear c6; by_cases c7 : x11_1 < (l0.length : Int)
      ·
       rw [if_pos c7] at H; have c7b0 : decide (x11_1 < (l0.length : Int)) = true := decide_eq_true c7; clear c7; replace H := Option.bind_eq_some_iff.mp H; obtain ⟨t114, A80, H⟩ := H; replace H : (impl_SingMany.l0 k1 (wrap64 (x3_1 * (t114.length : Int))) l0 (l0.length : Int) (wrap64 (x11_1 + 1))) = some r := H; have A8 := Aside0.mk A80; clear A80; have H' := Aside0.mk H; clear H; have p112 : 0 ≤ (x11_1 : Int) := of_decide_eq_true (by first | (with_reducible assumption) | assumption); have q112 : x11_1 < (l0.length : Int) := of_decide_eq_true (by first | (with_reducible assumption) | assumption); obtain ⟨ad112, e112, hx112_0, hx112_1⟩ := at_T29 HR0.out x11_1 p112 q112; cases e112; replace hx112_0 := (HB.out.cell (World.block_lt_of_cell? w _ hx112_0)).trans hx112_0; replace hx112_1 := (HB.out.cell (World.block_lt_of_cell? w _ hx112_1)).trans hx112_1; replace p112 := eq_true p112; replace q112 := eq_true q112; go_wp2_with (first | ((with_reducible refine gate_dst (N := 5) rfl ?_); refine box_event ?hg (N := 5) ?hd (cs := #[.int .i64 0, .bool false]) (t := 29) ?hr ?_; (case hd => rfl); (case hg => rfl); (case hr => first | (go_simp; done) | (go_simp; rfl)); intro gb113 hg w9 hbox hb; have n0_ := Aside0.mk (below_step (by repeat (first | (with_reducible first | exact HB.out | apply below_alloc | apply pw_below_drewN | apply below_drew1) | exact HB.out)) hb); have n1_ := Aside0.mk (hbox); have n2_ := Aside0.mk ((by rw [hg]; exact (below_size (by repeat (first | (with_reducible first | exact HB.out | apply below_alloc | apply pw_below_drewN | apply below_drew1) | exact HB.out))) : w.heap.size ≤ gb113)); have n3_ := Aside0.mk ((by rw [hg]; exact (below_size (by repeat (first | (with_reducible first | exact HB.out | apply below_alloc | apply pw_below_drewN | apply below_drew1) | exact HB.out))) : w.heap.size ≤ gb113)); clear HB; have HB := n0_; have BK113 := n1_; have GW113 := n2_; have GE113 := n3_; clear n0_ n1_ n2_ n3_; clear hb hbox hg; have hcz10_0 : w9.cell? ⟨gb113, 0, none⟩ = some (.int .i64 0) := (blk_cell BK113.out 0).trans rfl; have hcz10_1 : w9.cell? ⟨gb113, 1, none⟩ = some (.bool false) := (blk_cell BK113.out 1).trans rfl; have hfz10_0 := blk_frozen BK113.out 0; have hfz10_1 := blk_frozen BK113.out 1) | ((with_reducible refine gate_callee (f := 8) rfl ?_); refine goesL_ (some 17) rfl rfl Tryd.func8 (by kernel_rfl) rfl #[.agg #[.int .i64 ((rd_T29 l0 x11_1).f0), .bool ((rd_T29 l0 x11_1).f1)]] rfl (by (try simp only [List.map_toArray, List.map_cons, List.map_nil]); first | done | rfl | (simp only [List.length_drop, List.length_take]; rfl)) ?_; (with_reducible refine (impl_HexAll.calls ((rd_T29 l0 x11_1).f0) ((rd_T29 l0 x11_1).f1) t114 _ A8.out (ht := HT.out.below (by repeat (first | (with_reducible first | exact HB.out | apply below_alloc | apply pw_below_drewN | apply below_drew1 | refine below_set ?_ GE113.out) | exact HB.out)))).mono ?_); rintro e w11 ⟨v115, rfl, ho0, hb⟩; refine ⟨_, rfl, ?_⟩; have n0_ := Aside0.mk (Kd.R_lower ho0 (below_size (by repeat (first | (with_reducible first | exact HB.out | apply below_alloc | apply pw_below_drewN | apply below_drew1 | refine below_set ?_ GE113.out) | exact HB.out)))); have n1_ := Aside0.mk (blk_below (g := gb113) (o := .cells #[.int .i64 ((rd_T29 l0 x11_1).f0), .bool ((rd_T29 l0 x11_1).f1)] 29 (0, 0)) (by (with_reducible repeat (first | refine blk_drewN ?_ _ | refine blk_drew ?_ | refine blk_alloc ?_ _)); refine blk_put (cs := #[.int .i64 ((rd_T29 l0 x11_1).f0), .bool false]) ?_ 1 _ rfl; (with_reducible repeat (first | refine blk_drewN ?_ _ | refine blk_drew ?_ | refine blk_alloc ?_ _)); refine blk_put (cs := #[.int .i64 0, .bool false]) ?_ 0 _ rfl; (with_reducible repeat (first | refine blk_drewN ?_ _ | refine blk_drew ?_ | refine blk_alloc ?_ _)); exact BK113.out) hb); have n2_ := Aside0.mk (below_step (by repeat (first | (with_reducible first | exact HB.out | apply below_alloc | apply pw_below_drewN | apply below_drew1 | refine below_set ?_ GE113.out) | exact HB.out)) hb); clear BK113; clear HB; have HO116 := n0_; have BK113 := n1_; have HB := n2_; clear n0_ n1_ n2_; (try clear hb); (try clear hb2); (try clear hk); (try clear hi); (try clear ho0); obtain ⟨Ao12, co12, eo12⟩ := Kd.R_slice HO116.out; subst eo12))
       go_roundg k1
       case measure => have := HK1.out; omega
       case rel => exact ⟨(wrap64 (x3_1 * (t114.length : Int))), (wrap64 (x11_1 + 1)), (by first | rfl | (simp; done) | (simp [*]; done)), (by first | rfl | (simp; done) | (simp [*]; done)), H', ⟨by have := HK1.out; omega⟩, ⟨by repeat (first | (with_reducible first | exact HB.out | apply below_alloc | apply pw_below_drewN | apply below_drew1 | refine below_set ?_ GE113.out) | exact HB.out)⟩⟩
      ·
       rw [if_neg c7] at H; exact absurd H (by simp)
     ·
      rw [if_neg c6] at H; exact absurd H (by simp)
    ·
     rw [if_neg c5] at H; have c5b0 : decide (x11_1 < (l0.length : Int)) = false := decide_eq_false c5; clear c5; obtain rfl := Option.some.inj H; go_wp2; go_ret
     exact ⟨by first | rfl | (simp [errW_none, errW_some] <;> rfl) | (simp [*, errW_none, errW_some] <;> rfl), by repeat (first | (with_reducible first | exact HB.out | apply below_alloc | apply pw_below_drewN | apply below_drew1) | exact HB.out)⟩
 ·
  replace c3 := Bool.eq_false_iff.mpr c3; subst c3; have H1 : (some (-1)) = some r := by rw [if_neg (show ¬ (false = true) by decide)] at H; exact H
  clear H; have H := H1; clear H1; obtain rfl := Option.some.inj H; go_enter Tryd.func6, Tryd.ntmps6
  go_wp2_with (first | ((with_reducible refine gate_callee (f := 20) rfl ?_); refine goesL_ (some 7) rfl rfl Tryd.func20 (by kernel_rfl) rfl #[.slice A0 l0.length c0] rfl (by (try simp only [List.map_toArray, List.map_cons, List.map_nil]); first | done | rfl | (simp only [List.length_drop, List.length_take]; rfl)) ?_; (with_reducible refine (impl_MelodyValid.calls k _ _ l0 false _ ?side1 ?side2 A2.out).mono ?_); (case side1 => repeat (first | exact HR0.out | (with_reducible refine Kd.C_alloc ?_ _) | (with_reducible refine Kd.C_drewN ?_ _) | (with_reducible refine Kd.C_drew ?_))); (case side2 => exact HC0.out); rintro e w13 ⟨rfl, hb⟩; refine ⟨_, rfl, ?_⟩; have n0_ := Aside0.mk (below_step (by repeat (first | (with_reducible first | exact HB.out | apply below_alloc | apply pw_below_drewN | apply below_drew1) | exact HB.out)) hb); clear HB; have HB := n0_; clear n0_; (try clear hb); (try clear hb2); (try clear hk); (try clear hi)))
  go_ret
  exact ⟨by first | rfl | (simp [errW_none, errW_some] <;> rfl) | (simp [*, errW_none, errW_some] <;> rfl), by repeat (first | (with_reducible first | exact HB.out | apply below_alloc | apply pw_below_drewN | apply below_drew1) | exact HB.out)⟩

end Go.Proofs.YtiagfjbngpbejaaDoor.PFnExactSingBest
namespace Go.Proofs.YtiagfjbngpbejaaDoor.Pure
set_option linter.unusedVariables false
set_option linter.unusedSimpArgs false
open Go Go.RowKit Go.Proofs.YtiagfjbngpbejaaDoor.PFnExactSingBest Go.Proofs.YtiagfjbngpbejaaDoorW.PrintWords Go.Proofs.YtiagfjbngpbejaaDoorW.PrintLast Go.Proofs.YtiagfjbngpbejaaDoorW.PrintMore

def sProd : Int → List S29 → Int
 | x, [] => x
 | x, t :: ts => sProd (wrap64 (x * ((hexAll t).length : Int))) ts
def sMany (m : List S29) : Int := if melOk m = true then sProd 1 m else -1
theorem sProd_zero : ∀ m : List S29, sProd 0 m = 0
 | [] => rfl
 | t :: ts => by
  unfold sProd
  rw [Int.zero_mul, w64 (x := 0) (by omega) (by omega)]
  exact sProd_zero ts
theorem sProd_ne : ∀ (m : List S29) (x : Int), sProd x m ≠ 0 → ∀ t ∈ m, hexAll t ≠ []
 | [], _, _, t, ht => by cases ht
 | u :: ts, x, h, t, ht => by
  unfold sProd at h
  rcases List.mem_cons.1 ht with rfl | ht
  ·
   intro e
   rw [e] at h
   simp only [List.length_nil, Int.natCast_zero, Int.mul_zero, w64 (x := 0) (by omega) (by omega)] at h
   exact h (sProd_zero ts)
  ·
   exact sProd_ne ts _ h t ht
theorem impl_SingMany_ev (m : List S29) : Ev (fun k => impl_SingMany.f k m) (sMany m) := by
 unfold impl_SingMany.f sMany
 refine Ev.bind (impl_MelodyValid_ev m) ?_
 by_cases hok : melOk m = true
 ·
  have hl := melOk_len hok
  rw [if_pos hok]
  refine Ev.pos hok ?_
  have := Ev.over z29 m (fun k (x : Int) i => impl_SingMany.l0 k x m m.length i) (fun x rest => sProd x rest) (fun _ _ => True) (by
   intro x _
   refine Ev.succ ?_
   simp only [impl_SingMany.l0]
   exact Ev.neg (by omega) (Ev.now _)) (by
   rintro x i rest _ hi hdr ih
   refine Ev.succ ?_
   simp only [impl_SingMany.l0]
   rw [w64 (x := (i : Int) + 1) (by omega) (by omega)]
   refine Ev.pos (by omega) (Ev.pos (by omega) (Ev.pos (by omega) (Ev.conb rfl ?_)))
   exact ih _ trivial) 0 1 (Nat.zero_le _) trivial
  simpa using this
 ·
  rw [if_neg hok]
  exact Ev.neg hok (Ev.now _)
/-- The first place with the least number, and that number. -/
def pickB (f : Nat → Int) : Nat → Int × Int
 | 0 => (-1, 0)
 | n + 1 => if (pickB f n).1 < 0 ∨ f n < (pickB f n).2 then ((n : Int), f n) else pickB f n
theorem pickB_range (f : Nat → Int) : ∀ n, (n = 0 ∧ (pickB f n).1 = -1) ∨ (0 ≤ (pickB f n).1 ∧ (pickB f n).1 < n)
 | 0 => .inl ⟨rfl, rfl⟩
 | n + 1 => by
  refine .inr ?_
  unfold pickB
  split
  ·
   exact ⟨Int.natCast_nonneg n, by show (n : Int) < ((n + 1 : Nat) : Int); omega⟩
  ·
   rename_i h
   rcases pickB_range f n with ⟨_, h0⟩ | h0
   ·
    exact absurd (.inl (by omega)) h
   ·
    omega
def stepF (hs : List (List Int)) (i : Nat) (y : Int) (j : Nat) : Int := (finC (hs.drop i)).getD j 0 + (if i = 0 then 0 else if y = (hs.getD i []).getD j 0 then 0 else 1)
def bAt (hs : List (List Int)) (i : Nat) (y : Int) : Nat := (pickB (stepF hs i y) (hs.getD i []).length).1.toNat
def lastOf (l : List Int) : Int := l.getLastD 0
def singB (hs : List (List Int)) : Nat → List Int
 | 0 => []
 | i + 1 => singB hs i ++ [(hs.getD i []).getD (bAt hs i (lastOf (singB hs i))) 0]
theorem singB_len (hs : List (List Int)) : ∀ i, (singB hs i).length = i
 | 0 => rfl
 | i + 1 => by
  unfold singB
  rw [List.length_append, singB_len hs i]
  rfl
theorem lastOf_snoc (l : List Int) (x : Int) : lastOf (l ++ [x]) = x := by simp [lastOf, List.getLastD_eq_getLast?]
def sBest (m : List S29) : List Int × Bool := if 0 < sMany m then (singB (hsOf m) m.length, true) else ([], false)

end Go.Proofs.YtiagfjbngpbejaaDoor.Pure
namespace Go.Proofs.YtiagfjbngpbejaaDoor.Pure
set_option linter.unusedVariables false
set_option linter.unusedSimpArgs false
open Go Go.RowKit Go.Proofs.YtiagfjbngpbejaaDoor.PFnExactSingBest Go.Proofs.YtiagfjbngpbejaaDoorW.PrintWords Go.Proofs.YtiagfjbngpbejaaDoorW.PrintLast Go.Proofs.YtiagfjbngpbejaaDoorW.PrintMore

/-- A row of whole numbers that lies apart from a singing's rows. -/
def NoB (rs : List SRow) (v : Value) : Prop := ∀ (i : Nat) (r : SRow), rs[i]? = some r → v.ownBlock ≠ some r.hb ∧ v.ownBlock ≠ some r.cb
theorem SHas.grownOwn {W W' : World} {B base : Nat} {σ : Sg} {rs : List SRow} {v : Value} {xs : List Int} {ok : Nat → Prop} (h : SHas W B σ rs) (hv : (Kd.int .i64).R 3 W base ok v xs) (hn : NoB rs v) (hg : W.grownBy W' v.ownBlock) : SHas W' B σ rs := by
 obtain ⟨cH, cC, h1, h2, h3⟩ := h.outer
 refine ⟨h.base, blk_grown h.top hg (Kd.R_ne hv h.top (by decide)), ⟨cH, cC, blk_grown h1 hg (Kd.R_ne hv h1 (by decide)), blk_grown h2 hg (Kd.R_ne hv h2 (by decide)), h3⟩, fun i r hr => ?_, h.apart⟩
 obtain ⟨a1, a2, a3, a4⟩ := h.rows i r hr
 obtain ⟨n1, n2⟩ := hn i r hr
 exact ⟨a1, a2, a3.grown hg (fun e => n1 e.symm), a4.grown hg (fun e => n2 e.symm)⟩
theorem SHas.lts {W : World} {B : Nat} {σ : Sg} {rs : List SRow} (h : SHas W B σ rs) (i : Nat) (r : SRow) (hr : rs[i]? = some r) : (B ≤ r.hb ∧ r.hb < W.heap.size) ∧ B ≤ r.cb ∧ r.cb < W.heap.size := by
 obtain ⟨a1, a2, a3, a4⟩ := h.rows i r hr
 obtain ⟨b1, _, c1⟩ := RowAt.blk a3 a2
 obtain ⟨b2, _, c2⟩ := RowAt.blk a4 (by omega)
 exact ⟨⟨b1, blk_lt c1⟩, b2, blk_lt c2⟩
set_option maxHeartbeats 4000000 in
set_option maxRecDepth 100000 in
theorem impl_SingBest_none (m : List S29) (A0 : Option Addr) (c0 : Nat) (w : World) (ht : NTab w) (hr0 : Kd.C k29 w A0 m.length m) (hc0 : m.length ≤ c0) (hs : sMany m ≤ 0) :
 Calls Tryd.prog 9 #[.slice A0 m.length c0] w fun e w' => e = .returned (.tuple #[.slice none 0 0, .bool false]) ∧ Below w.heap.size w w' := by
 obtain ⟨kk, hkk⟩ := impl_SingMany_ev m
 have HK := Aside0.mk (hkk kk (Nat.le_refl _))
 have HT := Aside0.mk ht
 have HR0 := Aside0.mk hr0
 have HC0 := Aside0.mk hc0
 have d1 : decide (sMany m ≤ 0) = true := decide_eq_true hs
 obtain ⟨x, hx⟩ : ∃ x, x = sMany m := ⟨_, rfl⟩
 rw [← hx] at d1 HK
 clear hkk ht hr0 hc0 hs hx
 go_enter Tryd.func9, Tryd.ntmps9
 go_wp2_with (first
  | (go_at_call 6; refine (impl_SingMany.calls kk _ _ m x _ HT.out HR0.out HC0.out HK.out).mono ?_; rintro e w1 ⟨rfl, hb1⟩; have HB1 := Aside0.mk hb1; clear hb1))
 go_ret2
 exact ⟨rfl, HB1.out⟩
set_option maxHeartbeats 4000000 in
set_option maxRecDepth 100000 in
theorem impl_SingBest_nil (A0 : Option Addr) (c0 : Nat) (w : World) (ht : NTab w) (hr0 : Kd.C k29 w A0 0 ([] : List S29)) (hs : 0 < sMany ([] : List S29)) :
 Calls Tryd.prog 9 #[.slice A0 0 c0] w fun e w' => ∃ v, e = .returned (.tuple #[v, .bool true]) ∧ (Kd.int .i64).R 3 w' w.heap.size (fun _ => True) v [] ∧ Below w.heap.size w w' := by
 obtain ⟨kk, hkk⟩ := impl_SingMany_ev []
 have HK := Aside0.mk (hkk kk (Nat.le_refl _))
 have HT := Aside0.mk ht
 have HR0 := Aside0.mk hr0
 have d1 : decide (sMany ([] : List S29) ≤ 0) = false := decide_eq_false (by omega)
 obtain ⟨x, hx⟩ : ∃ x, x = sMany ([] : List S29) := ⟨_, rfl⟩
 rw [← hx] at d1 HK
 clear hkk ht hr0 hs hx
 go_enter Tryd.func9, Tryd.ntmps9
 go_wp2_with (first
  | (go_at_call 6; refine (impl_SingMany.calls kk _ c0 [] x _ HT.out HR0.out (Nat.zero_le _) HK.out).mono ?_; rintro e w1 ⟨rfl, hb1⟩; have HB1 := Aside0.mk hb1; clear hb1)
  | ((with_reducible refine gate_dst (N := 16) rfl ?_); refine Kd.R_lit (Kd.int .i64) _ 3 ?hg (N := 16) ?hd (xs := ([] : List Int)) (inner := []) (ok := fun _ => True) (okp := fun _ => True) ?hr (Reps.none _ _) (fun _ hk => hk) trivial (Below.refl _ _) (Nat.le_refl _) (by simp) ?_; (case hd => rfl); (case hg => rfl); (case hr => first | (go_simp; done) | (go_simp; rfl)); intro v4 w2 ho hb _ _; have HO2 := Aside0.mk (Kd.R_lower ho HB1.out.size); have HB2 := Aside0.mk (below_step HB1.out hb); clear ho hb))
 go_ret2
 exact ⟨_, rfl, HO2.out, HB2.out⟩

end Go.Proofs.YtiagfjbngpbejaaDoor.Pure
namespace Go.Proofs.YtiagfjbngpbejaaDoor.Pure
set_option linter.unusedVariables false
set_option linter.unusedSimpArgs false
open Go Go.RowKit Go.Proofs.YtiagfjbngpbejaaDoor.PFnExactSingBest Go.Proofs.YtiagfjbngpbejaaDoorW.PrintWords Go.Proofs.YtiagfjbngpbejaaDoorW.PrintLast Go.Proofs.YtiagfjbngpbejaaDoorW.PrintMore

theorem gset (hs : List (List Int)) (y : Int) (i j : Nat) : stepF hs i y j = (finC (hs.drop i)).getD j 0 + (if i = 0 then 0 else if y = (hs.getD i []).getD j 0 then 0 else 1) := rfl
set_option maxHeartbeats 40000000 in
set_option maxRecDepth 100000 in
theorem impl_SingBest_some (m : List S29) (A0 : Option Addr) (c0 : Nat) (w : World) (ht : NTab w) (hr0 : Kd.C k29 w A0 m.length m) (hc0 : m.length ≤ c0) (hs : 0 < sMany m) (hm0 : 0 < m.length) :
 Calls Tryd.prog 9 #[.slice A0 m.length c0] w fun e w' => ∃ v, e = .returned (.tuple #[v, .bool true]) ∧ (Kd.int .i64).R 3 w' w.heap.size (fun _ => True) v (singB (hsOf m) m.length) ∧ Below w.heap.size w w' := by
 obtain ⟨kk, hkk⟩ := impl_SingMany_ev m
 have HK := Aside0.mk (hkk kk (Nat.le_refl _))
 have hok : melOk m = true := by
  unfold sMany at hs
  split at hs
  ·
   assumption
  ·
   omega
 have hm : m.length ≤ 24 := melOk_len hok
 have hne : ∀ t ∈ m, hexAll t ≠ [] := by
  refine sProd_ne m 1 ?_
  unfold sMany at hs
  rw [if_pos hok] at hs
  omega
 have hne2 : ∀ h ∈ hsOf m, h ≠ [] := by
  intro h hh
  obtain ⟨t, ht, rfl⟩ := List.mem_map.1 hh
  exact hne t ht
 obtain ⟨H, hH⟩ : ∃ H, H = hsOf m := ⟨_, rfl⟩
 have hhl : H.length = m.length := by rw [hH]; exact List.length_map ..
 have h7 : ∀ h ∈ H, h.length ≤ 7 := by rw [hH]; exact hs7 m
 have d1 : decide (sMany m ≤ 0) = false := decide_eq_false (by omega)
 have d2 : ((m.length : Int) == 0) = false := beq_eq_false_iff_ne.mpr (by omega)
 have d3 : decide ((m.length : Int) = 0) = false := decide_eq_false (by omega)
 obtain ⟨x, hx⟩ : ∃ x, x = sMany m := ⟨_, rfl⟩
 rw [← hx] at d1 HK
 rw [← hH] at hne2
 have HHH := Aside0.mk (And.intro hhl (And.intro h7 (And.intro hne2 (And.intro hm (And.intro hm0 (And.intro hne hH))))))
 rw [← hH]
 have HT := Aside0.mk ht
 have HR0 := Aside0.mk hr0
 have HC0 := Aside0.mk hc0
 have hinf := info3
 clear hkk hok hm hne hne2 hhl h7 ht hr0 hc0 hs hx hm0 hH
 go_enter Tryd.func9, Tryd.ntmps9
 go_wp2_with (first
  | (go_at_call 6; refine (impl_SingMany.calls kk _ _ m x _ HT.out HR0.out HC0.out HK.out).mono ?_; rintro e w1 ⟨rfl, hb1⟩; have HB1 := Aside0.mk hb1; clear hb1)
  | ((with_reducible refine gate_dst (N := 16) rfl ?_); refine Kd.R_lit (Kd.int .i64) _ 3 ?hg (N := 16) ?hd (xs := ([] : List Int)) (inner := []) (ok := fun _ => True) (okp := fun _ => True) ?hr (Reps.none _ _) (fun _ hk => hk) trivial (Below.refl _ _) (Nat.le_refl _) (by simp) ?_; (case hd => rfl); (case hg => rfl); (case hr => first | (go_simp; done) | (go_simp; rfl)); intro v4 w2 ho hb _ _; have HO2 := Aside0.mk (Kd.R_lower ho HB1.out.size); have HB2 := Aside0.mk (below_step HB1.out hb); clear ho hb)
  | (go_at_call 25; refine (newSinging_calls m _ _ _ (HT.out.below HB2.out) (Kd.C_below HR0.out HB2.out) HC0.out HHH.out.2.2.2.1 HHH.out.2.2.2.2.1 HHH.out.2.2.2.2.2.1).mono ?_; rintro e w3 ⟨σ, rs, rfl, hS, hF, hb⟩; have SH3 := Aside0.mk hS; rw [← HHH.out.2.2.2.2.2.2] at hF; have HF := Aside0.mk hF; have HO3 := Aside0.mk (Kd.R_below HO2.out hb); have HB3 := Aside0.mk (below_step HB2.out hb); have NB3 : Aside0 (NoB rs v4) := ⟨fun i r hr => by have h1 := Kd.R_lt HO2.out; have h2 := hS.lts i r hr; exact ⟨fun e => by have := h1 _ e; omega, fun e => by have := h1 _ e; omega⟩⟩; clear hS hF hb)
  | ((with_reducible refine gate_dst (N := 6) rfl ?_); refine box_event ?hg (N := 6) ?hd (cs := #[.int .i64 0, .int .i64 0]) (t := 57) ?hr ?_; (case hd => rfl); (case hg => rfl); (case hr => first | (go_simp; done) | (go_simp; rfl)); intro g6 hg w4 hbox hb; have K6 := Aside0.mk hbox; have SH4 := Aside0.mk (SH3.out.below hb); have HO4 := Aside0.mk (Kd.R_below HO3.out hb); have HB4 := Aside0.mk (below_step HB3.out hb); have G6 : Aside0 (w.heap.size ≤ g6) := ⟨by rw [hg]; exact HB3.out.size⟩; clear hb hbox hg)
  | ((with_reducible refine gate_ (.store 57 (.tmp 6) (.tmp 23)) rfl ?_); (refine box_store rfl rfl 57 (.tmp 6) (.tmp 23) rfl (g := g6) (off := 0) (new := #[.int .i64 0, .int .i64 0]) _ [.int .i64 0, .int .i64 0] K6.out rfl rfl rfl (by kernel_rfl) (by simp [Value.oneCell']) (Nat.le_of_ble_eq_true rfl) rfl ?_); intro w5 hh hg hz; have SH5 := Aside0.mk (SH4.out.grownSpl K6.out hg); have HO5 := Aside0.mk (Kd.R_reok rfl (Kd.R_grown (Kd.R_tight rfl HO4.out) hg (fun k hk e => Kd.R_ne HO4.out K6.out (by decide) (e.symm.trans hk))) (fun _ _ => trivial)); have HB5 := Aside0.mk (below_grown HB4.out hg G6.out HB4.out.size); have K65 := Aside0.mk hh; clear hh hg hz))
 obtain ⟨B, hB⟩ : ∃ B, B = w2.heap.size := ⟨_, rfl⟩
 rw [← hB] at SH5
 clear hB HO2 HB2 HB1 SH3 HO3 HB3 SH4 HO4 HB4 K6
 obtain ⟨n, hn⟩ : ∃ n, n = rs.length := ⟨_, rfl⟩
 have HNN : Aside0 (n = rs.length ∧ n = m.length) := ⟨hn, by rw [hn, HF.out.1, HHH.out.1]⟩
 clear hn
 go_loopg [4, 26] n (fun kq v4 v26 w' => ∃ (i : Nat) (a b : Int), v26 = .int .i64 (i : Int) ∧ Aside0 (kq = n - i ∧ i ≤ n) ∧ Aside0 ((Kd.int .i64).R 3 w' w.heap.size (fun _ => True) v4 (singB H i)) ∧ Aside0 (NoB rs v4) ∧ Aside0 (SHas w' B σ rs) ∧ Aside0 (w'.heap[g6]? = some (.cells #[.int .i64 a, .int .i64 b] 57 (0, 0))) ∧ Aside0 (0 < i → ∃ bn : Nat, a = ((i - 1 : Nat) : Int) ∧ b = (bn : Int) ∧ bn < (H.getD (i - 1) []).length ∧ (H.getD (i - 1) []).getD bn 0 = lastOf (singB H i)) ∧ Aside0 (Below w.heap.size w w'))
 case atStart => exact ⟨0, 0, 0, rfl, ⟨by omega⟩, HO5, NB3, SH5, K65, ⟨fun h => absurd h (Nat.lt_irrefl _)⟩, HB5⟩
 case round =>
  clear HO5 NB3 SH5 K65 HB5 d1
  obtain ⟨i, a, b6, rfl, HX, HO, NB, SH, K6, H6, HB⟩ := hrel
  obtain ⟨hkq, hin⟩ := HX.out
  clear HX
  by_cases hi : i < n
  rotate_left
  ·
   obtain rfl : i = n := by omega
   have d4 : decide ((i : Int) < (m.length : Int)) = false := decide_eq_false (by have := HNN.out.2; omega)
   have d4n : decide (i < m.length) = false := decide_eq_false (by have := HNN.out.2; omega)
   go_wp2
   go_ret2
   exact ⟨_, rfl, by rw [← HNN.out.2]; exact HO.out, HB.out⟩
  have d4 : decide ((i : Int) < (m.length : Int)) = true := decide_eq_true (by have := HNN.out.2; omega)
  have d4n : decide (i < m.length) = true := decide_eq_true (by have := HNN.out.2; omega)
  have q0 := eq_true (show (0 : Int) ≤ (i : Int) by omega)
  have q1 := eq_true (show (i : Int) < (n : Int) by omega)
  have p1 : IntKind.i64.wrap ((i : Int) + 1) = (i : Int) + 1 := by have := HNN.out.2; have := HHH.out.2.2.2.1; rw [Go.IntKind.wrap_i64]; omega
  have NX : Aside0 (n - (i + 1) < gk ∧ i + 1 ≤ n ∧ i < n) := ⟨by omega, by omega, hi⟩
  obtain ⟨r, hr⟩ : ∃ r, rs[i]? = some r := ⟨_, List.getElem?_eq_getElem (by have := HNN.out.1; omega)⟩
  obtain ⟨f1, f2⟩ := HF.out.2 i r hr
  have f2 : r.cs = finC (H.drop i) := f2
  obtain ⟨rr1, rr2, -, -⟩ := SH.out.rows i r hr
  obtain ⟨L, hL⟩ : ∃ L, L = r.hx.length := ⟨_, rfl⟩
  obtain ⟨y, hy⟩ : ∃ y, y = lastOf (singB H i) := ⟨_, rfl⟩
  obtain ⟨f, hf⟩ : ∃ f, f = stepF H i y := ⟨_, rfl⟩
  have hfa := finC_at H HHH.out.2.2.1 i (by have := HHH.out.1; have := HNN.out.2; omega)
  rw [← f1, ← f2] at hfa
  have HRW := Aside0.mk (And.intro hr (And.intro f1 (And.intro f2 (And.intro rr1 (And.intro rr2 (And.intro hL (And.intro hy (And.intro hf hfa.2))))))))
  have hL7 : L ≤ 7 := by
   rw [hL, f1, List.getD_eq_getElem?_getD, List.getElem?_eq_getElem (show i < H.length by have := HHH.out.1; have := HNN.out.2; omega)]
   exact HHH.out.2.1 _ (List.getElem_mem _)
  have HL7 := Aside0.mk hL7
  clear hkq hin hi hr f1 f2 rr1 rr2 hL hy hf hfa hL7
  have G6r := Aside0.mk (blk_lt K6.out)
  go_wp2_with (first
   | ((with_reducible refine gate_dst (N := 8) rfl ?_); refine box_event ?hg (N := 8) ?hd (cs := #[.int .i64 0, .int .i64 0]) (t := 57) ?hr ?_; (case hd => rfl); (case hg => rfl); (case hr => first | (go_simp; done) | (go_simp; rfl)); intro g8 hg w2 hbox hb; have K8 := Aside0.mk hbox; have SH2 := Aside0.mk (SH.out.below hb); have HO2 := Aside0.mk (Kd.R_below HO.out hb); have HB2 := Aside0.mk (below_step HB.out hb); have K62 := Aside0.mk (blk_below K6.out hb); have G8 : Aside0 (w.heap.size ≤ g8 ∧ g6 < g8) := ⟨by rw [hg]; exact HB.out.size, by rw [hg]; exact G6r.out⟩; clear hb hbox hg)
   | ((with_reducible refine gate_ (.store 57 (.tmp 8) (.tmp 30)) rfl ?_); (refine box_store rfl rfl 57 (.tmp 8) (.tmp 30) rfl (g := g8) (off := 0) (new := #[.int .i64 (i : Int), .int .i64 (-1)]) _ [.int .i64 (i : Int), .int .i64 (-1)] K8.out rfl rfl rfl (by kernel_rfl) (by simp [Value.oneCell']) (Nat.le_of_ble_eq_true rfl) rfl ?_); intro w3 hh hg hz; have SH3 := Aside0.mk (SH2.out.grownSpl K8.out hg); have HO3 := Aside0.mk (Kd.R_reok rfl (Kd.R_grown (Kd.R_tight rfl HO2.out) hg (fun k hk e => Kd.R_ne HO2.out K8.out (by decide) (e.symm.trans hk))) (fun _ _ => trivial)); have HB3 := Aside0.mk (below_grown HB2.out hg G8.out.1 HB2.out.size); have K83 := Aside0.mk hh; have K63 := Aside0.mk (blk_grown K62.out hg (fun h => by have h2 := Option.some.inj h; have h3 := G8.out.2; omega)); have m0 : w3.cell? ⟨σ.gs, 1, none⟩ = some (.slice (some ⟨σ.bC, 0, none⟩) n σ.cC) := (by rw [HNN.out.1]; exact SH3.out.c1); have m1 : w3.cell? ⟨σ.bC, i, none⟩ = some (.slice (some ⟨r.cb, 0, none⟩) L r.cc) := (by have h2 := SH3.out.crow HRW.out.1; unfold SRow.cv at h2; rw [HRW.out.2.2.2.1, ← HRW.out.2.2.2.2.2.1] at h2; exact h2); clear hh hg hz))
  obtain ⟨wo, hwo⟩ : ∃ x, x = wr := ⟨_, rfl⟩
  subst hwo
  go_loopg [9, 39] L (fun kq v9 v39 w' => ∃ (j : Nat), v39 = .int .i64 (j : Int) ∧ v9 = .int .i64 (pickB f j).2 ∧ Aside0 (kq = L - j ∧ j ≤ L) ∧ Aside0 ((Kd.int .i64).R 3 w' w.heap.size (fun _ => True) u4 (singB H i)) ∧ Aside0 (SHas w' B σ rs) ∧ Aside0 (w'.heap[g6]? = some (.cells #[.int .i64 a, .int .i64 b6] 57 (0, 0))) ∧ Aside0 (w'.heap[g8]? = some (.cells #[.int .i64 (i : Int), .int .i64 (pickB f j).1] 57 (0, 0))) ∧ Aside0 (Below w.heap.size w w'))
  case atStart => exact ⟨0, rfl, rfl, ⟨by omega⟩, HO3, SH3, K63, K83, HB3⟩
  case round =>
   clear HO HO2 HO3 SH SH2 SH3 K6 K62 K63 K8 K83 HB HB2 HB3 m0 m1 G6r
   obtain ⟨j, rfl, rfl, HX, HO, SH, K6, K8, HB⟩ := hrel
   obtain ⟨hkq, hjL⟩ := HX.out
   clear HX
   obtain ⟨b, hb⟩ : ∃ b, b = (pickB f j).1 := ⟨_, rfl⟩
   obtain ⟨l, hl⟩ : ∃ l, l = (pickB f j).2 := ⟨_, rfl⟩
   rw [← hb] at K8
   rw [← hl]
   have HBL := Aside0.mk (And.intro hb hl)
   by_cases hj : j < L
   ·
    skip
    have d5 : decide ((j : Int) < (L : Int)) = true := decide_eq_true (by omega)
    have d5n : decide (j < L) = true := decide_eq_true hj
    have q2 := eq_true (show (0 : Int) ≤ (j : Int) by omega)
    have q3 := eq_true (show (j : Int) < (L : Int) by omega)
    have p2 : IntKind.i64.wrap ((j : Int) + 1) = (j : Int) + 1 := by have := HL7.out; rw [Go.IntKind.wrap_i64]; omega
    have JX : Aside0 (L - (j + 1) < gk ∧ j + 1 ≤ L ∧ j < L) := ⟨by omega, by omega, hj⟩
    obtain ⟨c, hc⟩ : ∃ c, c = r.cs.getD j 0 := ⟨_, rfl⟩
    obtain ⟨h, hh⟩ : ∃ h, h = r.hx.getD j 0 := ⟨_, rfl⟩
    have hcb := HRW.out.2.2.2.2.2.2.2.2 j (by rw [← HRW.out.2.2.2.2.2.1]; exact hj)
    rw [← hc] at hcb
    have hfj : f j = c + (if i = 0 then 0 else if y = h then 0 else 1) := by
     rw [HRW.out.2.2.2.2.2.2.2.1, gset, ← HRW.out.2.2.1, ← HRW.out.2.1, ← hc, ← hh]
    obtain ⟨x, hx⟩ : ∃ x, x = f j := ⟨_, rfl⟩
    have hpk : pickB f (j + 1) = if b < 0 ∨ x < l then ((j : Int), x) else pickB f j := by rw [hb, hl, hx]; rfl
    have HPK := Aside0.mk hpk
    have HCH := Aside0.mk (And.intro hc (And.intro hh (And.intro hx (And.intro hfj hcb))))
    have y0 : wr.cell? ⟨r.cb, j, none⟩ = some (.int .i64 c) := by rw [hc]; exact SH.out.ccell HRW.out.1 j (by rw [HRW.out.2.2.2.1, ← HRW.out.2.2.2.2.2.1]; exact hj)
    have hjH : j < r.hx.length := by rw [← HRW.out.2.2.2.2.2.1]; exact hj
    have HJH := Aside0.mk hjH
    have G68r := Aside0.mk (And.intro (blk_lt K6.out) (blk_lt K8.out))
    clear hkq hjL hb hl hj hc hh hcb hfj hx hpk hjH
    by_cases hi0 : i = 0
    ·
     have d6 : decide ((0 : Int) < (i : Int)) = false := decide_eq_false (by omega)
     have d6' : decide ((i : Int) > 0) = false := decide_eq_false (by omega)
     have d6n : decide (0 < i) = false := decide_eq_false (by omega)
     have hxc : x = c := by rw [HCH.out.2.2.1, HCH.out.2.2.2.1, if_pos hi0, Int.add_zero]
     subst hxc
     clear hi0
     by_cases hb0 : b < 0
     ·
      have d7 : decide (b < 0) = true := decide_eq_true hb0
      have e9 := HPK.out
      rw [if_pos (.inl hb0)] at e9
      have HE := Aside0.mk e9
      clear e9 hb0
      go_wp2_with (first
       | ((with_reducible refine gate_dst (N := 12) rfl ?_); refine box_event ?hg (N := 12) ?hd (cs := #[.int .i64 0, .int .i64 0]) (t := 57) ?hr ?_; (case hd => rfl); (case hg => rfl); (case hr => first | (go_simp; done) | (go_simp; rfl)); intro gn hg w2 hbox hb; have KN := Aside0.mk hbox; have SH2 := Aside0.mk (SH.out.below hb); have HO2 := Aside0.mk (Kd.R_below HO.out hb); have HB2 := Aside0.mk (below_step HB.out hb); have K62 := Aside0.mk (blk_below K6.out hb); have K82 := Aside0.mk (blk_below K8.out hb); have GN : Aside0 (w.heap.size ≤ gn ∧ g6 < gn ∧ g8 < gn) := ⟨by rw [hg]; exact HB.out.size, by rw [hg]; exact G68r.out.1, by rw [hg]; exact G68r.out.2⟩; clear hb hbox hg)
       | ((with_reducible refine gate_ (.store 57 (.tmp 12) (.tmp 46)) rfl ?_); (refine box_store rfl rfl 57 (.tmp 12) (.tmp 46) rfl (g := gn) (off := 0) (new := #[.int .i64 (i : Int), .int .i64 (j : Int)]) _ [.int .i64 (i : Int), .int .i64 (j : Int)] KN.out rfl rfl rfl (by kernel_rfl) (by simp [Value.oneCell']) (Nat.le_of_ble_eq_true rfl) rfl ?_); intro w3 hh hg hz; have SH3 := Aside0.mk (SH2.out.grownSpl KN.out hg); have HO3 := Aside0.mk (Kd.R_reok rfl (Kd.R_grown (Kd.R_tight rfl HO2.out) hg (fun k hk e => Kd.R_ne HO2.out KN.out (by decide) (e.symm.trans hk))) (fun _ _ => trivial)); have HB3 := Aside0.mk (below_grown HB2.out hg GN.out.1 HB2.out.size); have KN3 := Aside0.mk hh; have K63 := Aside0.mk (blk_grown K62.out hg (fun h => by have h2 := Option.some.inj h; have h3 := GN.out; omega)); have K83 := Aside0.mk (blk_grown K82.out hg (fun h => by have h2 := Option.some.inj h; have h3 := GN.out; omega)); have e0 : w3.cell? ⟨g8, 1, none⟩ = some (.int .i64 b) := (blk_cell K83.out 1).trans rfl; have e1 : w3.cell? ⟨gn, 0, none⟩ = some (.int .i64 (i : Int)) := (blk_cell KN3.out 0).trans rfl; have e2 : w3.cell? ⟨gn, 1, none⟩ = some (.int .i64 (j : Int)) := (blk_cell KN3.out 1).trans rfl; clear hh hg hz)
       | ((with_reducible refine gate_ (.store 57 (.tmp 8) (.tmp 63)) rfl ?_); (refine box_store rfl rfl 57 (.tmp 8) (.tmp 63) rfl (g := g8) (off := 0) (new := #[.int .i64 (i : Int), .int .i64 (j : Int)]) _ [.int .i64 (i : Int), .int .i64 (j : Int)] K83.out rfl rfl rfl (by kernel_rfl) (by simp [Value.oneCell']) (Nat.le_of_ble_eq_true rfl) rfl ?_); intro w9 hh hg hz; have SH9 := Aside0.mk (SH3.out.grownSpl K83.out hg); have HO9 := Aside0.mk (Kd.R_reok rfl (Kd.R_grown (Kd.R_tight rfl HO3.out) hg (fun k hk e => Kd.R_ne HO3.out K83.out (by decide) (e.symm.trans hk))) (fun _ _ => trivial)); have HB9 := Aside0.mk (below_grown HB3.out hg G8.out.1 HB3.out.size); have K89 := Aside0.mk hh; have K69 := Aside0.mk (blk_grown K63.out hg (fun h => by have h2 := Option.some.inj h; have h3 := G8.out.2; omega)); clear hh hg hz))
      go_roundg (L - (j + 1))
      case measure => exact JX.out.1
      case rel => exact ⟨j + 1, by simp, by rw [HE.out], ⟨rfl, JX.out.2.1⟩, HO9, SH9, K69, ⟨by rw [HE.out]; exact K89.out⟩, HB9⟩
     have d7 : decide (b < 0) = false := decide_eq_false hb0
     by_cases hx0 : x < l
     ·
      have d8 : decide (x < l) = true := decide_eq_true hx0
      have e9 := HPK.out
      rw [if_pos (.inr hx0)] at e9
      have HE := Aside0.mk e9
      clear e9 hb0 hx0
      go_wp2_with (first
       | ((with_reducible refine gate_dst (N := 12) rfl ?_); refine box_event ?hg (N := 12) ?hd (cs := #[.int .i64 0, .int .i64 0]) (t := 57) ?hr ?_; (case hd => rfl); (case hg => rfl); (case hr => first | (go_simp; done) | (go_simp; rfl)); intro gn hg w2 hbox hb; have KN := Aside0.mk hbox; have SH2 := Aside0.mk (SH.out.below hb); have HO2 := Aside0.mk (Kd.R_below HO.out hb); have HB2 := Aside0.mk (below_step HB.out hb); have K62 := Aside0.mk (blk_below K6.out hb); have K82 := Aside0.mk (blk_below K8.out hb); have GN : Aside0 (w.heap.size ≤ gn ∧ g6 < gn ∧ g8 < gn) := ⟨by rw [hg]; exact HB.out.size, by rw [hg]; exact G68r.out.1, by rw [hg]; exact G68r.out.2⟩; clear hb hbox hg)
       | ((with_reducible refine gate_ (.store 57 (.tmp 12) (.tmp 46)) rfl ?_); (refine box_store rfl rfl 57 (.tmp 12) (.tmp 46) rfl (g := gn) (off := 0) (new := #[.int .i64 (i : Int), .int .i64 (j : Int)]) _ [.int .i64 (i : Int), .int .i64 (j : Int)] KN.out rfl rfl rfl (by kernel_rfl) (by simp [Value.oneCell']) (Nat.le_of_ble_eq_true rfl) rfl ?_); intro w3 hh hg hz; have SH3 := Aside0.mk (SH2.out.grownSpl KN.out hg); have HO3 := Aside0.mk (Kd.R_reok rfl (Kd.R_grown (Kd.R_tight rfl HO2.out) hg (fun k hk e => Kd.R_ne HO2.out KN.out (by decide) (e.symm.trans hk))) (fun _ _ => trivial)); have HB3 := Aside0.mk (below_grown HB2.out hg GN.out.1 HB2.out.size); have KN3 := Aside0.mk hh; have K63 := Aside0.mk (blk_grown K62.out hg (fun h => by have h2 := Option.some.inj h; have h3 := GN.out; omega)); have K83 := Aside0.mk (blk_grown K82.out hg (fun h => by have h2 := Option.some.inj h; have h3 := GN.out; omega)); have e0 : w3.cell? ⟨g8, 1, none⟩ = some (.int .i64 b) := (blk_cell K83.out 1).trans rfl; have e1 : w3.cell? ⟨gn, 0, none⟩ = some (.int .i64 (i : Int)) := (blk_cell KN3.out 0).trans rfl; have e2 : w3.cell? ⟨gn, 1, none⟩ = some (.int .i64 (j : Int)) := (blk_cell KN3.out 1).trans rfl; clear hh hg hz)
       | ((with_reducible refine gate_ (.store 57 (.tmp 8) (.tmp 63)) rfl ?_); (refine box_store rfl rfl 57 (.tmp 8) (.tmp 63) rfl (g := g8) (off := 0) (new := #[.int .i64 (i : Int), .int .i64 (j : Int)]) _ [.int .i64 (i : Int), .int .i64 (j : Int)] K83.out rfl rfl rfl (by kernel_rfl) (by simp [Value.oneCell']) (Nat.le_of_ble_eq_true rfl) rfl ?_); intro w9 hh hg hz; have SH9 := Aside0.mk (SH3.out.grownSpl K83.out hg); have HO9 := Aside0.mk (Kd.R_reok rfl (Kd.R_grown (Kd.R_tight rfl HO3.out) hg (fun k hk e => Kd.R_ne HO3.out K83.out (by decide) (e.symm.trans hk))) (fun _ _ => trivial)); have HB9 := Aside0.mk (below_grown HB3.out hg G8.out.1 HB3.out.size); have K89 := Aside0.mk hh; have K69 := Aside0.mk (blk_grown K63.out hg (fun h => by have h2 := Option.some.inj h; have h3 := G8.out.2; omega)); clear hh hg hz))
      go_roundg (L - (j + 1))
      case measure => exact JX.out.1
      case rel => exact ⟨j + 1, by simp, by rw [HE.out], ⟨rfl, JX.out.2.1⟩, HO9, SH9, K69, ⟨by rw [HE.out]; exact K89.out⟩, HB9⟩
     have d8 : decide (x < l) = false := decide_eq_false hx0
     have e9 := HPK.out
     rw [if_neg (by omega)] at e9
     have HE := Aside0.mk e9
     clear e9 hb0 hx0
     go_wp2_with (first
      | ((with_reducible refine gate_dst (N := 12) rfl ?_); refine box_event ?hg (N := 12) ?hd (cs := #[.int .i64 0, .int .i64 0]) (t := 57) ?hr ?_; (case hd => rfl); (case hg => rfl); (case hr => first | (go_simp; done) | (go_simp; rfl)); intro gn hg w2 hbox hb; have KN := Aside0.mk hbox; have SH2 := Aside0.mk (SH.out.below hb); have HO2 := Aside0.mk (Kd.R_below HO.out hb); have HB2 := Aside0.mk (below_step HB.out hb); have K62 := Aside0.mk (blk_below K6.out hb); have K82 := Aside0.mk (blk_below K8.out hb); have GN : Aside0 (w.heap.size ≤ gn ∧ g6 < gn ∧ g8 < gn) := ⟨by rw [hg]; exact HB.out.size, by rw [hg]; exact G68r.out.1, by rw [hg]; exact G68r.out.2⟩; clear hb hbox hg)
      | ((with_reducible refine gate_ (.store 57 (.tmp 12) (.tmp 46)) rfl ?_); (refine box_store rfl rfl 57 (.tmp 12) (.tmp 46) rfl (g := gn) (off := 0) (new := #[.int .i64 (i : Int), .int .i64 (j : Int)]) _ [.int .i64 (i : Int), .int .i64 (j : Int)] KN.out rfl rfl rfl (by kernel_rfl) (by simp [Value.oneCell']) (Nat.le_of_ble_eq_true rfl) rfl ?_); intro w3 hh hg hz; have SH3 := Aside0.mk (SH2.out.grownSpl KN.out hg); have HO3 := Aside0.mk (Kd.R_reok rfl (Kd.R_grown (Kd.R_tight rfl HO2.out) hg (fun k hk e => Kd.R_ne HO2.out KN.out (by decide) (e.symm.trans hk))) (fun _ _ => trivial)); have HB3 := Aside0.mk (below_grown HB2.out hg GN.out.1 HB2.out.size); have KN3 := Aside0.mk hh; have K63 := Aside0.mk (blk_grown K62.out hg (fun h => by have h2 := Option.some.inj h; have h3 := GN.out; omega)); have K83 := Aside0.mk (blk_grown K82.out hg (fun h => by have h2 := Option.some.inj h; have h3 := GN.out; omega)); have e0 : w3.cell? ⟨g8, 1, none⟩ = some (.int .i64 b) := (blk_cell K83.out 1).trans rfl; have e1 : w3.cell? ⟨gn, 0, none⟩ = some (.int .i64 (i : Int)) := (blk_cell KN3.out 0).trans rfl; have e2 : w3.cell? ⟨gn, 1, none⟩ = some (.int .i64 (j : Int)) := (blk_cell KN3.out 1).trans rfl; clear hh hg hz))
     go_roundg (L - (j + 1))
     case measure => exact JX.out.1
     case rel => exact ⟨j + 1, by simp, by rw [HE.out, HBL.out.2], ⟨rfl, JX.out.2.1⟩, HO3, SH3, K63, ⟨by rw [HE.out, ← HBL.out.1]; exact K83.out⟩, HB3⟩
    have d6 : decide ((0 : Int) < (i : Int)) = true := decide_eq_true (by omega)
    have d6' : decide ((i : Int) > 0) = true := decide_eq_true (by omega)
    have d6n : decide (0 < i) = true := decide_eq_true (by omega)
    obtain ⟨d, hd⟩ : ∃ d : Int, d = if y = h then 0 else 1 := ⟨_, rfl⟩
    have HD := Aside0.mk hd
    have hdb : 0 ≤ d ∧ d ≤ 1 := by rw [hd]; split <;> omega
    have pc : IntKind.i64.wrap (c + d) = x := by
     have h1 := HCH.out.2.2.2.2
     have h2 := HHH.out.1
     have h3 := HHH.out.2.2.2.1
     rw [HCH.out.2.2.1, HCH.out.2.2.2.1, if_neg hi0, ← hd, Go.IntKind.wrap_i64]
     omega
    obtain ⟨i1, hi1⟩ : ∃ i1, i1 = i - 1 := ⟨_, rfl⟩
    obtain ⟨bn, ha, hbn, hbl, hbv⟩ := H6.out (by omega)
    rw [← hi1] at ha hbl hbv
    obtain ⟨p, hp⟩ : ∃ p, rs[i1]? = some p := ⟨_, List.getElem?_eq_getElem (by have := HNN.out.1; have := NX.out.2.2; omega)⟩
    have hp1 := (HF.out.2 i1 p hp).1
    have HI1 := Aside0.mk (And.intro hi1 (And.intro (show i1 < n by have := NX.out.2.2; omega) (And.intro hp (And.intro (show bn < p.hx.length by rw [hp1]; exact hbl) (show p.hx.getD bn 0 = y by rw [hp1, HRW.out.2.2.2.2.2.2.1]; exact hbv)))))
    rw [ha, hbn] at K6
    clear hi0 hd hdb hi1 hbl hbv hp hp1
    subst ha
    subst hbn
    by_cases hb0 : b < 0
    ·
     have d7 : decide (b < 0) = true := decide_eq_true hb0
     have e9 := HPK.out
     rw [if_pos (.inl hb0)] at e9
     have HE := Aside0.mk e9
     clear e9 hb0
     go_wp2_with (first
      | ((with_reducible refine gate_dst (N := 12) rfl ?_); refine box_event ?hg (N := 12) ?hd (cs := #[.int .i64 0, .int .i64 0]) (t := 57) ?hr ?_; (case hd => rfl); (case hg => rfl); (case hr => first | (go_simp; done) | (go_simp; rfl)); intro gn hg w2 hbox hb; have KN := Aside0.mk hbox; have SH2 := Aside0.mk (SH.out.below hb); have HO2 := Aside0.mk (Kd.R_below HO.out hb); have HB2 := Aside0.mk (below_step HB.out hb); have K62 := Aside0.mk (blk_below K6.out hb); have K82 := Aside0.mk (blk_below K8.out hb); have GN : Aside0 (w.heap.size ≤ gn ∧ g6 < gn ∧ g8 < gn) := ⟨by rw [hg]; exact HB.out.size, by rw [hg]; exact G68r.out.1, by rw [hg]; exact G68r.out.2⟩; clear hb hbox hg)
      | ((with_reducible refine gate_ (.store 57 (.tmp 12) (.tmp 46)) rfl ?_); (refine box_store rfl rfl 57 (.tmp 12) (.tmp 46) rfl (g := gn) (off := 0) (new := #[.int .i64 (i : Int), .int .i64 (j : Int)]) _ [.int .i64 (i : Int), .int .i64 (j : Int)] KN.out rfl rfl rfl (by kernel_rfl) (by simp [Value.oneCell']) (Nat.le_of_ble_eq_true rfl) rfl ?_); intro w3 hh hg hz; have SH3 := Aside0.mk (SH2.out.grownSpl KN.out hg); have HO3 := Aside0.mk (Kd.R_reok rfl (Kd.R_grown (Kd.R_tight rfl HO2.out) hg (fun k hk e => Kd.R_ne HO2.out KN.out (by decide) (e.symm.trans hk))) (fun _ _ => trivial)); have HB3 := Aside0.mk (below_grown HB2.out hg GN.out.1 HB2.out.size); have KN3 := Aside0.mk hh; have K63 := Aside0.mk (blk_grown K62.out hg (fun h => by have h2 := Option.some.inj h; have h3 := GN.out; omega)); have K83 := Aside0.mk (blk_grown K82.out hg (fun h => by have h2 := Option.some.inj h; have h3 := GN.out; omega)); have e3 : w3.cell? ⟨g6, 0, none⟩ = some (.int .i64 (i1 : Int)) := (blk_cell K63.out 0).trans rfl; have e4 : w3.cell? ⟨g6, 1, none⟩ = some (.int .i64 (bn : Int)) := (blk_cell K63.out 1).trans rfl; have e1 : w3.cell? ⟨gn, 0, none⟩ = some (.int .i64 (i : Int)) := (blk_cell KN3.out 0).trans rfl; have e2 : w3.cell? ⟨gn, 1, none⟩ = some (.int .i64 (j : Int)) := (blk_cell KN3.out 1).trans rfl; clear hh hg hz)
      | (go_at_call 26; refine (sing_change_calls σ.gs σ.bH σ.cH n i1 bn i j p.hb p.hx.length p.hc r.hb r.hx.length r.hc y h _ (by rw [HNN.out.1]; exact SH3.out.c0) HI1.out.2.1 NX.out.2.2 (SH3.out.hrow HI1.out.2.2.1) (SH3.out.hrow HRW.out.1) HI1.out.2.2.2.1 HJH.out (by rw [← HI1.out.2.2.2.2]; exact SH3.out.hcell HI1.out.2.2.1 bn HI1.out.2.2.2.1) (by rw [HCH.out.2.1]; exact SH3.out.hcell HRW.out.1 j HJH.out)).mono ?_; rintro e w4 ⟨rfl, hb4⟩; rw [← HD.out]; have SH4 := Aside0.mk (SH3.out.below hb4); have HO4 := Aside0.mk (Kd.R_below HO3.out hb4); have HB4 := Aside0.mk (below_step HB3.out hb4); have KN4 := Aside0.mk (blk_below KN3.out hb4); have K64 := Aside0.mk (blk_below K63.out hb4); have K84 := Aside0.mk (blk_below K83.out hb4); have e0 : w4.cell? ⟨g8, 1, none⟩ = some (.int .i64 b) := (blk_cell K84.out 1).trans rfl; have e1 : w4.cell? ⟨gn, 0, none⟩ = some (.int .i64 (i : Int)) := (blk_cell KN4.out 0).trans rfl; have e2 : w4.cell? ⟨gn, 1, none⟩ = some (.int .i64 (j : Int)) := (blk_cell KN4.out 1).trans rfl; clear hb4)
      | ((with_reducible refine gate_ (.store 57 (.tmp 8) (.tmp 63)) rfl ?_); (refine box_store rfl rfl 57 (.tmp 8) (.tmp 63) rfl (g := g8) (off := 0) (new := #[.int .i64 (i : Int), .int .i64 (j : Int)]) _ [.int .i64 (i : Int), .int .i64 (j : Int)] K84.out rfl rfl rfl (by kernel_rfl) (by simp [Value.oneCell']) (Nat.le_of_ble_eq_true rfl) rfl ?_); intro w9 hh hg hz; have SH9 := Aside0.mk (SH4.out.grownSpl K84.out hg); have HO9 := Aside0.mk (Kd.R_reok rfl (Kd.R_grown (Kd.R_tight rfl HO4.out) hg (fun k hk e => Kd.R_ne HO4.out K84.out (by decide) (e.symm.trans hk))) (fun _ _ => trivial)); have HB9 := Aside0.mk (below_grown HB4.out hg G8.out.1 HB4.out.size); have K89 := Aside0.mk hh; have K69 := Aside0.mk (blk_grown K64.out hg (fun h => by have h2 := Option.some.inj h; have h3 := G8.out.2; omega)); clear hh hg hz))
     go_roundg (L - (j + 1))
     case measure => exact JX.out.1
     case rel => exact ⟨j + 1, by simp, by rw [HE.out], ⟨rfl, JX.out.2.1⟩, HO9, SH9, K69, ⟨by rw [HE.out]; exact K89.out⟩, HB9⟩
    have d7 : decide (b < 0) = false := decide_eq_false hb0
    by_cases hx0 : x < l
    ·
     have d8 : decide (x < l) = true := decide_eq_true hx0
     have e9 := HPK.out
     rw [if_pos (.inr hx0)] at e9
     have HE := Aside0.mk e9
     clear e9 hb0 hx0
     go_wp2_with (first
      | ((with_reducible refine gate_dst (N := 12) rfl ?_); refine box_event ?hg (N := 12) ?hd (cs := #[.int .i64 0, .int .i64 0]) (t := 57) ?hr ?_; (case hd => rfl); (case hg => rfl); (case hr => first | (go_simp; done) | (go_simp; rfl)); intro gn hg w2 hbox hb; have KN := Aside0.mk hbox; have SH2 := Aside0.mk (SH.out.below hb); have HO2 := Aside0.mk (Kd.R_below HO.out hb); have HB2 := Aside0.mk (below_step HB.out hb); have K62 := Aside0.mk (blk_below K6.out hb); have K82 := Aside0.mk (blk_below K8.out hb); have GN : Aside0 (w.heap.size ≤ gn ∧ g6 < gn ∧ g8 < gn) := ⟨by rw [hg]; exact HB.out.size, by rw [hg]; exact G68r.out.1, by rw [hg]; exact G68r.out.2⟩; clear hb hbox hg)
      | ((with_reducible refine gate_ (.store 57 (.tmp 12) (.tmp 46)) rfl ?_); (refine box_store rfl rfl 57 (.tmp 12) (.tmp 46) rfl (g := gn) (off := 0) (new := #[.int .i64 (i : Int), .int .i64 (j : Int)]) _ [.int .i64 (i : Int), .int .i64 (j : Int)] KN.out rfl rfl rfl (by kernel_rfl) (by simp [Value.oneCell']) (Nat.le_of_ble_eq_true rfl) rfl ?_); intro w3 hh hg hz; have SH3 := Aside0.mk (SH2.out.grownSpl KN.out hg); have HO3 := Aside0.mk (Kd.R_reok rfl (Kd.R_grown (Kd.R_tight rfl HO2.out) hg (fun k hk e => Kd.R_ne HO2.out KN.out (by decide) (e.symm.trans hk))) (fun _ _ => trivial)); have HB3 := Aside0.mk (below_grown HB2.out hg GN.out.1 HB2.out.size); have KN3 := Aside0.mk hh; have K63 := Aside0.mk (blk_grown K62.out hg (fun h => by have h2 := Option.some.inj h; have h3 := GN.out; omega)); have K83 := Aside0.mk (blk_grown K82.out hg (fun h => by have h2 := Option.some.inj h; have h3 := GN.out; omega)); have e3 : w3.cell? ⟨g6, 0, none⟩ = some (.int .i64 (i1 : Int)) := (blk_cell K63.out 0).trans rfl; have e4 : w3.cell? ⟨g6, 1, none⟩ = some (.int .i64 (bn : Int)) := (blk_cell K63.out 1).trans rfl; have e1 : w3.cell? ⟨gn, 0, none⟩ = some (.int .i64 (i : Int)) := (blk_cell KN3.out 0).trans rfl; have e2 : w3.cell? ⟨gn, 1, none⟩ = some (.int .i64 (j : Int)) := (blk_cell KN3.out 1).trans rfl; clear hh hg hz)
      | (go_at_call 26; refine (sing_change_calls σ.gs σ.bH σ.cH n i1 bn i j p.hb p.hx.length p.hc r.hb r.hx.length r.hc y h _ (by rw [HNN.out.1]; exact SH3.out.c0) HI1.out.2.1 NX.out.2.2 (SH3.out.hrow HI1.out.2.2.1) (SH3.out.hrow HRW.out.1) HI1.out.2.2.2.1 HJH.out (by rw [← HI1.out.2.2.2.2]; exact SH3.out.hcell HI1.out.2.2.1 bn HI1.out.2.2.2.1) (by rw [HCH.out.2.1]; exact SH3.out.hcell HRW.out.1 j HJH.out)).mono ?_; rintro e w4 ⟨rfl, hb4⟩; rw [← HD.out]; have SH4 := Aside0.mk (SH3.out.below hb4); have HO4 := Aside0.mk (Kd.R_below HO3.out hb4); have HB4 := Aside0.mk (below_step HB3.out hb4); have KN4 := Aside0.mk (blk_below KN3.out hb4); have K64 := Aside0.mk (blk_below K63.out hb4); have K84 := Aside0.mk (blk_below K83.out hb4); have e0 : w4.cell? ⟨g8, 1, none⟩ = some (.int .i64 b) := (blk_cell K84.out 1).trans rfl; have e1 : w4.cell? ⟨gn, 0, none⟩ = some (.int .i64 (i : Int)) := (blk_cell KN4.out 0).trans rfl; have e2 : w4.cell? ⟨gn, 1, none⟩ = some (.int .i64 (j : Int)) := (blk_cell KN4.out 1).trans rfl; clear hb4)
      | ((with_reducible refine gate_ (.store 57 (.tmp 8) (.tmp 63)) rfl ?_); (refine box_store rfl rfl 57 (.tmp 8) (.tmp 63) rfl (g := g8) (off := 0) (new := #[.int .i64 (i : Int), .int .i64 (j : Int)]) _ [.int .i64 (i : Int), .int .i64 (j : Int)] K84.out rfl rfl rfl (by kernel_rfl) (by simp [Value.oneCell']) (Nat.le_of_ble_eq_true rfl) rfl ?_); intro w9 hh hg hz; have SH9 := Aside0.mk (SH4.out.grownSpl K84.out hg); have HO9 := Aside0.mk (Kd.R_reok rfl (Kd.R_grown (Kd.R_tight rfl HO4.out) hg (fun k hk e => Kd.R_ne HO4.out K84.out (by decide) (e.symm.trans hk))) (fun _ _ => trivial)); have HB9 := Aside0.mk (below_grown HB4.out hg G8.out.1 HB4.out.size); have K89 := Aside0.mk hh; have K69 := Aside0.mk (blk_grown K64.out hg (fun h => by have h2 := Option.some.inj h; have h3 := G8.out.2; omega)); clear hh hg hz))
     go_roundg (L - (j + 1))
     case measure => exact JX.out.1
     case rel => exact ⟨j + 1, by simp, by rw [HE.out], ⟨rfl, JX.out.2.1⟩, HO9, SH9, K69, ⟨by rw [HE.out]; exact K89.out⟩, HB9⟩
    have d8 : decide (x < l) = false := decide_eq_false hx0
    have e9 := HPK.out
    rw [if_neg (by omega)] at e9
    have HE := Aside0.mk e9
    clear e9 hb0 hx0
    go_wp2_with (first
     | ((with_reducible refine gate_dst (N := 12) rfl ?_); refine box_event ?hg (N := 12) ?hd (cs := #[.int .i64 0, .int .i64 0]) (t := 57) ?hr ?_; (case hd => rfl); (case hg => rfl); (case hr => first | (go_simp; done) | (go_simp; rfl)); intro gn hg w2 hbox hb; have KN := Aside0.mk hbox; have SH2 := Aside0.mk (SH.out.below hb); have HO2 := Aside0.mk (Kd.R_below HO.out hb); have HB2 := Aside0.mk (below_step HB.out hb); have K62 := Aside0.mk (blk_below K6.out hb); have K82 := Aside0.mk (blk_below K8.out hb); have GN : Aside0 (w.heap.size ≤ gn ∧ g6 < gn ∧ g8 < gn) := ⟨by rw [hg]; exact HB.out.size, by rw [hg]; exact G68r.out.1, by rw [hg]; exact G68r.out.2⟩; clear hb hbox hg)
     | ((with_reducible refine gate_ (.store 57 (.tmp 12) (.tmp 46)) rfl ?_); (refine box_store rfl rfl 57 (.tmp 12) (.tmp 46) rfl (g := gn) (off := 0) (new := #[.int .i64 (i : Int), .int .i64 (j : Int)]) _ [.int .i64 (i : Int), .int .i64 (j : Int)] KN.out rfl rfl rfl (by kernel_rfl) (by simp [Value.oneCell']) (Nat.le_of_ble_eq_true rfl) rfl ?_); intro w3 hh hg hz; have SH3 := Aside0.mk (SH2.out.grownSpl KN.out hg); have HO3 := Aside0.mk (Kd.R_reok rfl (Kd.R_grown (Kd.R_tight rfl HO2.out) hg (fun k hk e => Kd.R_ne HO2.out KN.out (by decide) (e.symm.trans hk))) (fun _ _ => trivial)); have HB3 := Aside0.mk (below_grown HB2.out hg GN.out.1 HB2.out.size); have KN3 := Aside0.mk hh; have K63 := Aside0.mk (blk_grown K62.out hg (fun h => by have h2 := Option.some.inj h; have h3 := GN.out; omega)); have K83 := Aside0.mk (blk_grown K82.out hg (fun h => by have h2 := Option.some.inj h; have h3 := GN.out; omega)); have e3 : w3.cell? ⟨g6, 0, none⟩ = some (.int .i64 (i1 : Int)) := (blk_cell K63.out 0).trans rfl; have e4 : w3.cell? ⟨g6, 1, none⟩ = some (.int .i64 (bn : Int)) := (blk_cell K63.out 1).trans rfl; have e1 : w3.cell? ⟨gn, 0, none⟩ = some (.int .i64 (i : Int)) := (blk_cell KN3.out 0).trans rfl; have e2 : w3.cell? ⟨gn, 1, none⟩ = some (.int .i64 (j : Int)) := (blk_cell KN3.out 1).trans rfl; clear hh hg hz)
     | (go_at_call 26; refine (sing_change_calls σ.gs σ.bH σ.cH n i1 bn i j p.hb p.hx.length p.hc r.hb r.hx.length r.hc y h _ (by rw [HNN.out.1]; exact SH3.out.c0) HI1.out.2.1 NX.out.2.2 (SH3.out.hrow HI1.out.2.2.1) (SH3.out.hrow HRW.out.1) HI1.out.2.2.2.1 HJH.out (by rw [← HI1.out.2.2.2.2]; exact SH3.out.hcell HI1.out.2.2.1 bn HI1.out.2.2.2.1) (by rw [HCH.out.2.1]; exact SH3.out.hcell HRW.out.1 j HJH.out)).mono ?_; rintro e w4 ⟨rfl, hb4⟩; rw [← HD.out]; have SH4 := Aside0.mk (SH3.out.below hb4); have HO4 := Aside0.mk (Kd.R_below HO3.out hb4); have HB4 := Aside0.mk (below_step HB3.out hb4); have KN4 := Aside0.mk (blk_below KN3.out hb4); have K64 := Aside0.mk (blk_below K63.out hb4); have K84 := Aside0.mk (blk_below K83.out hb4); have e0 : w4.cell? ⟨g8, 1, none⟩ = some (.int .i64 b) := (blk_cell K84.out 1).trans rfl; have e1 : w4.cell? ⟨gn, 0, none⟩ = some (.int .i64 (i : Int)) := (blk_cell KN4.out 0).trans rfl; have e2 : w4.cell? ⟨gn, 1, none⟩ = some (.int .i64 (j : Int)) := (blk_cell KN4.out 1).trans rfl; clear hb4))
    go_roundg (L - (j + 1))
    case measure => exact JX.out.1
    case rel => exact ⟨j + 1, by simp, by rw [HE.out, HBL.out.2], ⟨rfl, JX.out.2.1⟩, HO4, SH4, K64, ⟨by rw [HE.out, ← HBL.out.1]; exact K84.out⟩, HB4⟩
   obtain rfl : j = L := by omega
   have d5 : decide ((j : Int) < (j : Int)) = false := decide_eq_false (by omega)
   obtain ⟨bn, hbn⟩ : ∃ bn : Nat, b = (bn : Int) ∧ bn < j := by
    have h1 := pickB_range f j
    rw [← hb] at h1
    have h2 := HRW.out.2.2.2.2.1
    have h3 := HRW.out.2.2.2.2.2.1
    rcases h1 with ⟨h1, _⟩ | h1
    ·
     omega
    ·
     exact ⟨b.toNat, by omega, by omega⟩
   obtain ⟨hbn, hbj⟩ := hbn
   have hbA : bAt H i y = bn := by
    unfold bAt
    rw [← HRW.out.2.2.2.2.2.2.2.1, ← HRW.out.2.1, ← HRW.out.2.2.2.2.2.1, ← hb, hbn, Int.toNat_natCast]
   subst hbn
   obtain ⟨z, hz⟩ : ∃ z, z = r.hx.getD bn 0 := ⟨_, rfl⟩
   have hsb : singB H (i + 1) = singB H i ++ [z] := by rw [hz, ← hbA, HRW.out.2.1, HRW.out.2.2.2.2.2.2.1]; rfl
   have HSB := Aside0.mk (And.intro hsb (And.intro hbj hz))
   have e0 : wr.cell? ⟨g8, 0, none⟩ = some (.int .i64 (i : Int)) := (blk_cell K8.out 0).trans rfl
   have e1 : wr.cell? ⟨g8, 1, none⟩ = some (.int .i64 (bn : Int)) := (blk_cell K8.out 1).trans rfl
   have q2 := eq_true (show (0 : Int) ≤ (bn : Int) by omega)
   have q3 := eq_true (show (bn : Int) < (j : Int) by omega)
   clear hkq hjL hb hl hj hbj hbA hz hsb
   go_upto_region 23 with (first
    | ((with_reducible refine gate_ (.store 57 (.tmp 6) (.tmp 66)) rfl ?_); (refine box_store rfl rfl 57 (.tmp 6) (.tmp 66) rfl (g := g6) (off := 0) (new := #[.int .i64 (i : Int), .int .i64 (bn : Int)]) _ [.int .i64 (i : Int), .int .i64 (bn : Int)] K6.out rfl rfl rfl (by kernel_rfl) (by simp [Value.oneCell']) (Nat.le_of_ble_eq_true rfl) rfl ?_); intro w3 hh hg hz; have SH3 := Aside0.mk (SH.out.grownSpl K6.out hg); have HO3 := Aside0.mk (Kd.R_reok rfl (Kd.R_grown (Kd.R_tight rfl HO.out) hg (fun k hk e => Kd.R_ne HO.out K6.out (by decide) (e.symm.trans hk))) (fun _ _ => trivial)); have HB3 := Aside0.mk (below_grown HB.out hg G6.out HB.out.size); have K63 := Aside0.mk hh; clear hh hg hz)
    | fail)
   (try simp only [Act.put, List.setIfInBounds_toArray, List.set_cons_zero, List.set_cons_succ])
   have CE : Aside0 (w3.cell? ⟨σ.gs, 0, none⟩ = some (.slice (some ⟨σ.bH, 0, none⟩) n σ.cH) ∧ w3.cell? ⟨σ.bH, i, none⟩ = some (.slice (some ⟨r.hb, 0, none⟩) j r.hc) ∧ w3.cell? ⟨g6, 1, none⟩ = some (.int .i64 (bn : Int)) ∧ w3.cell? ⟨r.hb, bn, none⟩ = some (.int .i64 z)) := ⟨by rw [HNN.out.1]; exact SH3.out.c0, by have h2 := SH3.out.hrow HRW.out.1; unfold SRow.hv at h2; rw [← HRW.out.2.2.2.2.2.1] at h2; exact h2, (blk_cell K63.out 1).trans rfl, by rw [HSB.out.2.2]; exact SH3.out.hcell HRW.out.1 bn (by rw [← HRW.out.2.2.2.2.2.1]; exact HSB.out.2.1)⟩
   clear e0 e1
   refine start_ (n := 15) (S := (fun w' => w'.cell? ⟨σ.gs, 0, none⟩ = some (.slice (some ⟨σ.bH, 0, none⟩) n σ.cH) ∧ w'.cell? ⟨σ.bH, i, none⟩ = some (.slice (some ⟨r.hb, 0, none⟩) j r.hc) ∧ w'.cell? ⟨g6, 1, none⟩ = some (.int .i64 (bn : Int)) ∧ w'.cell? ⟨r.hb, bn, none⟩ = some (.int .i64 z))) (ds := [13]) (rowB 15 0) (by kernel_rfl) rfl rfl CE.out (fun hHeld => ?_)
   refine pure_ (i := 0) (N := some 67) (v := ?_) (a' := ?_) (rowB 15 1) rfl rfl (by kernel_rfl) (fun _ _ _ h => h) (Or.inl ⟨by rfl, ?_⟩) ?_ ?_
   rotate_left
   ·
    intro w'
    go_simp
    with_reducible rfl
   rotate_left
   ·
    simp only [Act.put, List.setIfInBounds_toArray, List.set_cons_zero, List.set_cons_succ, i64_w, i32_w]
    rfl
   refine pure_ (i := 1) (N := some 68) (v := ?_) (a' := ?_) (rowB 15 3) rfl rfl (by kernel_rfl) (fun _ _ _ h => h) (Or.inl ⟨by rfl, ?_⟩) ?_ ?_
   rotate_left
   ·
    intro w'
    go_simp
    with_reducible rfl
   rotate_left
   ·
    simp only [Act.put, List.setIfInBounds_toArray, List.set_cons_zero, List.set_cons_succ, i64_w, i32_w]
    rfl
   refine pure_ (i := 2) (N := some 69) (v := ?_) (a' := ?_) (rowB 15 7) rfl rfl (by kernel_rfl) (fun _ _ _ h => h) (Or.inl ⟨by rfl, ?_⟩) ?_ ?_
   rotate_left
   ·
    intro w'
    go_simp
    with_reducible rfl
   rotate_left
   ·
    simp only [Act.put, List.setIfInBounds_toArray, List.set_cons_zero, List.set_cons_succ, i64_w, i32_w]
    rfl
   refine pure_ (i := 3) (N := some 70) (v := ?_) (a' := ?_) (rowB 15 15) rfl rfl (by kernel_rfl) (fun _ _ _ h => h) (Or.inl ⟨by rfl, ?_⟩) ?_ ?_
   rotate_left
   ·
    intro w'
    go_simp
    with_reducible rfl
   rotate_left
   ·
    simp only [Act.put, List.setIfInBounds_toArray, List.set_cons_zero, List.set_cons_succ, i64_w, i32_w]
    rfl
   refine take_ (i := 4) (N := some 71) (v := ?_) (a' := ?_) (rowB 15 31) rfl rfl (by kernel_rfl) (fun _ _ _ h => h) (Or.inl ⟨by rfl, ?_⟩) hHeld ?_ ?_
   rotate_left
   ·
    rintro w' ⟨s0, s1, s2, s3⟩
    go_simp
    with_reducible rfl
   rotate_left
   ·
    simp only [Act.put, List.setIfInBounds_toArray, List.set_cons_zero, List.set_cons_succ, i64_w, i32_w]
    rfl
   refine pure_ (i := 5) (N := some 72) (v := ?_) (a' := ?_) (rowB 15 63) rfl rfl (by kernel_rfl) (fun _ _ _ h => h) (Or.inl ⟨by rfl, ?_⟩) ?_ ?_
   rotate_left
   ·
    intro w'
    go_simp
    with_reducible rfl
   rotate_left
   ·
    simp only [Act.put, List.setIfInBounds_toArray, List.set_cons_zero, List.set_cons_succ, i64_w, i32_w]
    rfl
   refine pure_ (i := 6) (N := some 73) (v := ?_) (a' := ?_) (rowB 15 127) rfl rfl (by kernel_rfl) (fun _ _ _ h => h) (Or.inl ⟨by rfl, ?_⟩) ?_ ?_
   rotate_left
   ·
    intro w'
    go_simp
    with_reducible rfl
   rotate_left
   ·
    simp only [Act.put, List.setIfInBounds_toArray, List.set_cons_zero, List.set_cons_succ, i64_w, i32_w]
    rfl
   refine take_ (i := 7) (N := some 74) (v := ?_) (a' := ?_) (rowB 15 255) rfl rfl (by kernel_rfl) (fun _ _ _ h => h) (Or.inl ⟨by rfl, ?_⟩) hHeld ?_ ?_
   rotate_left
   ·
    rintro w' ⟨s0, s1, s2, s3⟩
    go_simp
    with_reducible rfl
   rotate_left
   ·
    simp only [Act.put, List.setIfInBounds_toArray, List.set_cons_zero, List.set_cons_succ, i64_w, i32_w]
    rfl
   refine pure_ (i := 8) (N := some 75) (v := ?_) (a' := ?_) (rowB 15 511) rfl rfl (by kernel_rfl) (fun _ _ _ h => h) (Or.inl ⟨by rfl, ?_⟩) ?_ ?_
   rotate_left
   ·
    intro w'
    go_simp
    with_reducible rfl
   rotate_left
   ·
    simp only [Act.put, List.setIfInBounds_toArray, List.set_cons_zero, List.set_cons_succ, i64_w, i32_w]
    rfl
   refine take_ (i := 9) (N := some 76) (v := ?_) (a' := ?_) (rowB 15 1023) rfl rfl (by kernel_rfl) (fun _ _ _ h => h) (Or.inl ⟨by rfl, ?_⟩) hHeld ?_ ?_
   rotate_left
   ·
    rintro w' ⟨s0, s1, s2, s3⟩
    go_simp
    with_reducible rfl
   rotate_left
   ·
    simp only [Act.put, List.setIfInBounds_toArray, List.set_cons_zero, List.set_cons_succ, i64_w, i32_w]
    rfl
   refine pure_ (i := 10) (N := some 77) (v := ?_) (a' := ?_) (rowB 15 2047) rfl rfl (by kernel_rfl) (fun _ _ _ h => h) (Or.inl ⟨by rfl, ?_⟩) ?_ ?_
   rotate_left
   ·
    intro w'
    go_simp
    with_reducible rfl
   rotate_left
   ·
    simp only [Act.put, List.setIfInBounds_toArray, List.set_cons_zero, List.set_cons_succ, i64_w, i32_w]
    rfl
   refine take_ (i := 11) (N := some 78) (v := ?_) (a' := ?_) (rowB 15 4095) rfl rfl (by kernel_rfl) (fun _ _ _ h => h) (Or.inl ⟨by rfl, ?_⟩) hHeld ?_ ?_
   rotate_left
   ·
    rintro w' ⟨s0, s1, s2, s3⟩
    go_simp
    with_reducible rfl
   rotate_left
   ·
    simp only [Act.put, List.setIfInBounds_toArray, List.set_cons_zero, List.set_cons_succ, i64_w, i32_w]
    rfl
   refine one_ (i := 12) (N := some 79) (rowB 15 8191) rfl rfl (by kernel_rfl) (by decide) (fun K hK => ?_)
   refine event_step (w1 := ?_) (v := ?_) (by rfl) ?_ ?_
   rotate_left 2
   ·
    go_simp
    constructor
    ·
     rfl
    ·
     rfl
   refine hK.out _ _ (by have hb := below_alloc (Below.refl w3.drew.heap.size w3.drew) (.cells (#[.int .i64 z]) 3 (0, 0)); have hc := CE.out; exact ⟨pw_cell_below hb hc.1, pw_cell_below hb hc.2.1, pw_cell_below hb hc.2.2.1, pw_cell_below hb hc.2.2.2⟩) (fun hHeld => ?_)
   clear hK K
   refine norm_ (a' := ?_) ?_ ?_
   rotate_left
   ·
    show Act.put _ (some 79) _ = _
    simp only [Act.put, List.setIfInBounds_toArray, List.set_cons_zero, List.set_cons_succ, i64_w, i32_w]
    rfl
   refine last_ (i := 13) (N := some 80) (rowB 15 16383) rfl rfl (by kernel_rfl) (by decide) (fun K hK => ?_)
   refine Kd.R_append_step (Kd.int .i64) (w0 := w) (W := w3.drew) w.heap.size (by rfl) (.tmp 67) (.tmp 79) 26 3 (.int .i64 0) 8 rfl Tryd.underlying26 hinf rfl (by decide) (by omega) u4 (singB H i) z [.int .i64 z] (fun _ => True) (fun _ => False) rfl rfl rfl (fun _ h => h.elim) (fun _ _ => trivial) ?aO ?aB ?aS ?aL ?_
   (case aO => exact Kd.R_drew HO3.out)
   (case aB => exact below_drew HB3.out)
   (case aS => exact HB3.out.size)
   (case aL => rw [singB_len]; have := NX.out.2.2; have := HNN.out.2; have := HHH.out.2.2.2.1; omega)
   intro v80 w8 ho hb hg hat
   have HO8 := Aside0.mk ho
   have HB8 := Aside0.mk hb
   have SH8 := Aside0.mk ((SH3.out.below (below_drew (Below.refl _ _))).grownOwn (Kd.R_drew HO3.out) NB.out hg)
   have K68 := Aside0.mk (blk_grown (blk_drew K63.out) hg (Kd.R_ne HO3.out K63.out (by decide)))
   have NB8 : Aside0 (NoB rs v80) := ⟨fun i2 r2 hr2 => by
    have h1 := NB.out i2 r2 hr2
    have h2 := SH3.out.lts i2 r2 hr2
    rcases hat with hat | ⟨k, hat, hk⟩
    ·
     rw [hat]; exact h1
    ·
     rw [hat]
     have hk : w3.heap.size ≤ k := hk
     exact ⟨fun e => by have := Option.some.inj e; omega, fun e => by have := Option.some.inj e; omega⟩⟩
   clear ho hb hg hat
   refine hK.out _ _ ?_
   clear hK K
   refine norm_ (a' := ?_) ?_ ?_
   rotate_left
   ·
    show Act.put _ (some 80) _ = _
    simp only [Act.put, List.setIfInBounds_toArray, List.set_cons_zero, List.set_cons_succ, i64_w, i32_w]
    rfl
   refine pure_ (i := 14) (N := some 4) (v := ?_) (a' := ?_) (rowB 15 32767) rfl rfl (by kernel_rfl) (fun _ _ _ h => h) (Or.inl ⟨by rfl, ?_⟩) ?_ ?_
   rotate_left
   ·
    intro w'
    go_simp
    with_reducible rfl
   rotate_left
   ·
    simp only [Act.put, List.setIfInBounds_toArray, List.set_cons_zero, List.set_cons_succ, i64_w, i32_w]
    rfl
   refine done_ (by kernel_rfl) ?_
   go_wp2
   go_roundg (n - (i + 1))
   case measure => exact NX.out.1
   case rel => exact ⟨i + 1, (i : Int), (bn : Int), by simp, ⟨rfl, NX.out.2.1⟩, ⟨by rw [HSB.out.1]; exact HO8.out⟩, NB8, SH8, K68, ⟨fun _ => ⟨bn, by simp, rfl, by rw [Nat.add_sub_cancel, ← HRW.out.2.1, ← HRW.out.2.2.2.2.2.1]; exact HSB.out.2.1, by rw [Nat.add_sub_cancel, HSB.out.1, lastOf_snoc, ← HRW.out.2.1]; exact HSB.out.2.2.symm⟩⟩, HB8⟩
theorem impl_SingBest_calls (m : List S29) (A0 : Option Addr) (c0 : Nat) (w : World) (ht : NTab w) (hr0 : Kd.C k29 w A0 m.length m) (hc0 : m.length ≤ c0) :
 Calls Tryd.prog 9 #[.slice A0 m.length c0] w fun e w' => ∃ v, e = .returned (.tuple #[v, .bool (sBest m).2]) ∧ (Kd.int .i64).R 3 w' w.heap.size (fun _ => True) v (sBest m).1 ∧ Below w.heap.size w w' := by
 unfold sBest
 by_cases h : 0 < sMany m
 ·
  rw [if_pos h]
  match m, hr0, hc0, h with
  | [], hr0, hc0, h => exact impl_SingBest_nil A0 c0 w ht hr0 h
  | t :: ts, hr0, hc0, h => exact impl_SingBest_some (t :: ts) A0 c0 w ht hr0 hc0 h (Nat.succ_pos _)
 ·
  rw [if_neg h]
  refine (impl_SingBest_none m A0 c0 w ht hr0 hc0 (by omega)).mono ?_
  rintro e w' ⟨rfl, hb⟩
  exact ⟨_, rfl, Kd.R_nil _ _ _ _ _, hb⟩

end Go.Proofs.YtiagfjbngpbejaaDoor.Pure
namespace Go.Proofs.YtiagfjbngpbejaaDoor.PFnExactSingBest
open Go.RowKit Go.Proofs.YtiagfjbngpbejaaDoorW.PrintWords Go.Proofs.YtiagfjbngpbejaaDoorW.PrintLast Go.Proofs.YtiagfjbngpbejaaDoorW.PrintMore
attribute [local go_sem] max2_int min2_int max_two min_two max_three min_three max_four min_four   -- for this text's walks alone
set_option linter.unusedVariables false
set_option linter.unusedSimpArgs false

def spec_l1Letter.f (a0 : Int) : Option (Int) := some (Int.tmod a0 7)
set_option maxHeartbeats 8000000 in
set_option maxRecDepth 100000 in
theorem spec_l1Letter.calls (a0 : Int) (r : Int) (w : World) (h : spec_l1Letter.f a0 = some r) :
 Calls Tryd.prog 31 #[.int .i64 a0] w fun e w' => e = .returned (.int .i64 r) ∧ Drawn0 w w' := by
 have H : (some (Int.tmod a0 7)) = some r := h; clear h; obtain rfl := Option.some.inj H; go_enter Tryd.func31, Tryd.ntmps31
 go_wp2; go_ret
 exact ⟨by first | rfl | (simp; done) | (simp [*]; done), by repeat (first | exact Drawn0.refl _ | apply Drawn0.step)⟩

end Go.Proofs.YtiagfjbngpbejaaDoor.PFnExactSingBest
namespace Go.Proofs.YtiagfjbngpbejaaDoor.PFnExactSingBest
open Go.RowKit Go.Proofs.YtiagfjbngpbejaaDoorW.PrintWords Go.Proofs.YtiagfjbngpbejaaDoorW.PrintLast Go.Proofs.YtiagfjbngpbejaaDoorW.PrintMore
attribute [local go_sem] max2_int min2_int max_two min_two max_three min_three max_four min_four   -- for this text's walks alone
set_option linter.unusedVariables false
set_option linter.unusedSimpArgs false

def spec_l6In.f (a0 : Int) (a1 : Int) (a2 : Int) : Option (Bool) := if a0 ≥ a1 then (some (decide (a0 ≤ a2))) else (some false)
set_option maxHeartbeats 8000000 in
set_option maxRecDepth 100000 in
theorem spec_l6In.calls (a0 : Int) (a1 : Int) (a2 : Int) (r : Bool) (w : World) (h : spec_l6In.f a0 a1 a2 = some r) :
 Calls Tryd.prog 39 #[.int .i64 a0, .int .i64 a1, .int .i64 a2] w fun e w' => e = .returned (.bool r) ∧ Drawn0 w w' := by
 have H : (if a0 ≥ a1 then (some (decide (a0 ≤ a2))) else (some false)) = some r := h; clear h; by_cases c4 : a0 ≥ a1
 ·
  rw [if_pos c4] at H; have c4b0 : decide (a1 ≤ a0) = true := decide_eq_true c4; clear c4; obtain rfl := Option.some.inj H; go_enter Tryd.func39, Tryd.ntmps39
  go_wp2; go_ret
  exact ⟨by first | rfl | (simp; done) | (simp [*]; done), by repeat (first | exact Drawn0.refl _ | apply Drawn0.step)⟩
 ·
  rw [if_neg c4] at H; have c4b0 : decide (a1 ≤ a0) = false := decide_eq_false c4; clear c4; obtain rfl := Option.some.inj H; go_enter Tryd.func39, Tryd.ntmps39
  go_wp2; go_ret
  exact ⟨by first | rfl | (simp; done) | (simp [*]; done), by repeat (first | exact Drawn0.refl _ | apply Drawn0.step)⟩

end Go.Proofs.YtiagfjbngpbejaaDoor.PFnExactSingBest
namespace Go.Proofs.YtiagfjbngpbejaaDoor.PFnExactSingBest
open Go.RowKit Go.Proofs.YtiagfjbngpbejaaDoorW.PrintWords Go.Proofs.YtiagfjbngpbejaaDoorW.PrintLast Go.Proofs.YtiagfjbngpbejaaDoorW.PrintMore
attribute [local go_sem] max2_int min2_int max_two min_two max_three min_three max_four min_four   -- for this text's walks alone
set_option linter.unusedVariables false
set_option linter.unusedSimpArgs false

def spec_ToneValid.f (a0_0 : Int) (a0_1 : Bool) : Option (Bool) := (spec_l6In.f a0_0 0 20).bind fun t154 => (if t154 = true then (if a0_1 = true then ((spec_l1Letter.f a0_0).bind fun t155 => (some (t155 == 2))) else (some true)) else (some false))
set_option maxHeartbeats 8000000 in
set_option maxRecDepth 100000 in
theorem spec_ToneValid.calls (a0_0 : Int) (a0_1 : Bool) (r : Bool) (w : World) (h : spec_ToneValid.f a0_0 a0_1 = some r) :
 Calls Tryd.prog 33 #[.agg #[.int .i64 a0_0, .bool a0_1]] w fun e w' => e = .returned (.bool r) ∧ Below w.heap.size w w' := by
 have hu29 := Tryd.underlying29; have HB := Aside0.mk (Below.refl w.heap.size w); have H : ((spec_l6In.f a0_0 0 20).bind fun t154 => (if t154 = true then (if a0_1 = true then ((spec_l1Letter.f a0_0).bind fun t155 => (some (t155 == 2))) else (some true)) else (some false))) = some r := h; clear h; replace H := Option.bind_eq_some_iff.mp H; obtain ⟨t154, A20, H⟩ := H; replace H : (if t154 = true then (if a0_1 = true then ((spec_l1Letter.f a0_0).bind fun t155 => (some (t155 == 2))) else (some true)) else (some false)) = some r := H; have A2 := Aside0.mk A20; clear A20; by_cases c3 : t154 = true
 ·
  subst c3; have H1 : (if a0_1 = true then ((spec_l1Letter.f a0_0).bind fun t155 => (some (t155 == 2))) else (some true)) = some r := by rw [if_pos rfl] at H; exact H
  clear H; have H := H1; clear H1; by_cases c4 : a0_1 = true
  ·
   subst c4; have H1 : ((spec_l1Letter.f a0_0).bind fun t155 => (some (t155 == 2))) = some r := by rw [if_pos rfl] at H; exact H
   clear H; have H := H1; clear H1; replace H := Option.bind_eq_some_iff.mp H; obtain ⟨t155, A50, H⟩ := H; replace H : (some (t155 == 2)) = some r := H; have A5 := Aside0.mk A50; clear A50; obtain rfl := Option.some.inj H; go_enter Tryd.func33, Tryd.ntmps33
   go_wp2_with (first | ((with_reducible refine gate_dst (N := 1) rfl ?_); refine box_event ?hg (N := 1) ?hd (cs := #[.int .i64 a0_0, .bool true]) (t := 29) ?hr ?_; (case hd => rfl); (case hg => rfl); (case hr => first | (go_simp; done) | (go_simp; rfl)); intro gb153 hg w6 hbox hb; have n0_ := Aside0.mk (below_step (by repeat (first | (with_reducible first | exact HB.out | apply below_alloc | apply pw_below_drewN | apply below_drew1) | exact HB.out)) hb); have n1_ := Aside0.mk (hbox); have n2_ := Aside0.mk ((by rw [hg]; exact (below_size (by repeat (first | (with_reducible first | exact HB.out | apply below_alloc | apply pw_below_drewN | apply below_drew1) | exact HB.out))) : w.heap.size ≤ gb153)); have n3_ := Aside0.mk ((by rw [hg]; exact (below_size (by repeat (first | (with_reducible first | exact HB.out | apply below_alloc | apply pw_below_drewN | apply below_drew1) | exact HB.out))) : w.heap.size ≤ gb153)); clear HB; have HB := n0_; have BK153 := n1_; have GW153 := n2_; have GE153 := n3_; clear n0_ n1_ n2_ n3_; clear hb hbox hg; have hcz7_0 : w6.cell? ⟨gb153, 0, none⟩ = some (.int .i64 a0_0) := (blk_cell BK153.out 0).trans rfl; have hcz7_1 : w6.cell? ⟨gb153, 1, none⟩ = some (.bool true) := (blk_cell BK153.out 1).trans rfl; have hfz7_0 := blk_frozen BK153.out 0; have hfz7_1 := blk_frozen BK153.out 1) | ((with_reducible refine gate_callee (f := 39) rfl ?_); refine goesL_ (some 5) rfl rfl Tryd.func39 (by kernel_rfl) rfl #[.int .i64 a0_0, .int .i64 0, .int .i64 20] rfl (by (try simp only [List.map_toArray, List.map_cons, List.map_nil]); first | done | rfl | (simp only [List.length_drop, List.length_take]; rfl)) ?_; (with_reducible refine (spec_l6In.calls a0_0 0 20 true _ A2.out).mono ?_); rintro e w' ⟨rfl, ⟨nd, rfl⟩⟩; refine ⟨_, rfl, ?_⟩) | (go_at_call 31; (with_reducible refine (spec_l1Letter.calls a0_0 t155 _ A5.out).mono ?_); rintro e w' ⟨rfl, ⟨nd, rfl⟩⟩))
   go_ret
   exact ⟨by first | rfl | (simp [errW_none, errW_some] <;> rfl) | (simp [*, errW_none, errW_some] <;> rfl), by repeat (first | (with_reducible first | exact HB.out | apply below_alloc | apply pw_below_drewN | apply below_drew1 | refine below_set ?_ GE153.out) | exact HB.out)⟩
  ·
   replace c4 := Bool.eq_false_iff.mpr c4; subst c4; have H1 : (some true) = some r := by rw [if_neg (show ¬ (false = true) by decide)] at H; exact H
   clear H; have H := H1; clear H1; obtain rfl := Option.some.inj H; go_enter Tryd.func33, Tryd.ntmps33
   go_wp2_with (first | ((with_reducible refine gate_dst (N := 1) rfl ?_); refine box_event ?hg (N := 1) ?hd (cs := #[.int .i64 a0_0, .bool false]) (t := 29) ?hr ?_; (case hd => rfl); (case hg => rfl); (case hr => first | (go_simp; done) | (go_simp; rfl)); intro gb153 hg w8 hbox hb; have n0_ := Aside0.mk (below_step (by repeat (first | (with_reducible first | exact HB.out | apply below_alloc | apply pw_below_drewN | apply below_drew1) | exact HB.out)) hb); have n1_ := Aside0.mk (hbox); have n2_ := Aside0.mk ((by rw [hg]; exact (below_size (by repeat (first | (with_reducible first | exact HB.out | apply below_alloc | apply pw_below_drewN | apply below_drew1) | exact HB.out))) : w.heap.size ≤ gb153)); have n3_ := Aside0.mk ((by rw [hg]; exact (below_size (by repeat (first | (with_reducible first | exact HB.out | apply below_alloc | apply pw_below_drewN | apply below_drew1) | exact HB.out))) : w.heap.size ≤ gb153)); clear HB; have HB := n0_; have BK153 := n1_; have GW153 := n2_; have GE153 := n3_; clear n0_ n1_ n2_ n3_; clear hb hbox hg; have hcz9_0 : w8.cell? ⟨gb153, 0, none⟩ = some (.int .i64 a0_0) := (blk_cell BK153.out 0).trans rfl; have hcz9_1 : w8.cell? ⟨gb153, 1, none⟩ = some (.bool false) := (blk_cell BK153.out 1).trans rfl; have hfz9_0 := blk_frozen BK153.out 0; have hfz9_1 := blk_frozen BK153.out 1) | ((with_reducible refine gate_callee (f := 39) rfl ?_); refine goesL_ (some 5) rfl rfl Tryd.func39 (by kernel_rfl) rfl #[.int .i64 a0_0, .int .i64 0, .int .i64 20] rfl (by (try simp only [List.map_toArray, List.map_cons, List.map_nil]); first | done | rfl | (simp only [List.length_drop, List.length_take]; rfl)) ?_; (with_reducible refine (spec_l6In.calls a0_0 0 20 true _ A2.out).mono ?_); rintro e w' ⟨rfl, ⟨nd, rfl⟩⟩; refine ⟨_, rfl, ?_⟩))
   go_ret
   exact ⟨by first | rfl | (simp [errW_none, errW_some] <;> rfl) | (simp [*, errW_none, errW_some] <;> rfl), by repeat (first | (with_reducible first | exact HB.out | apply below_alloc | apply pw_below_drewN | apply below_drew1 | refine below_set ?_ GE153.out) | exact HB.out)⟩
 ·
  replace c3 := Bool.eq_false_iff.mpr c3; subst c3; have H1 : (some false) = some r := by rw [if_neg (show ¬ (false = true) by decide)] at H; exact H
  clear H; have H := H1; clear H1; obtain rfl := Option.some.inj H; go_enter Tryd.func33, Tryd.ntmps33
  go_wp2_with (first | ((with_reducible refine gate_dst (N := 1) rfl ?_); refine box_event ?hg (N := 1) ?hd (cs := #[.int .i64 a0_0, .bool a0_1]) (t := 29) ?hr ?_; (case hd => rfl); (case hg => rfl); (case hr => first | (go_simp; done) | (go_simp; rfl)); intro gb153 hg w10 hbox hb; have n0_ := Aside0.mk (below_step (by repeat (first | (with_reducible first | exact HB.out | apply below_alloc | apply pw_below_drewN | apply below_drew1) | exact HB.out)) hb); have n1_ := Aside0.mk (hbox); have n2_ := Aside0.mk ((by rw [hg]; exact (below_size (by repeat (first | (with_reducible first | exact HB.out | apply below_alloc | apply pw_below_drewN | apply below_drew1) | exact HB.out))) : w.heap.size ≤ gb153)); have n3_ := Aside0.mk ((by rw [hg]; exact (below_size (by repeat (first | (with_reducible first | exact HB.out | apply below_alloc | apply pw_below_drewN | apply below_drew1) | exact HB.out))) : w.heap.size ≤ gb153)); clear HB; have HB := n0_; have BK153 := n1_; have GW153 := n2_; have GE153 := n3_; clear n0_ n1_ n2_ n3_; clear hb hbox hg; have hcz11_0 : w10.cell? ⟨gb153, 0, none⟩ = some (.int .i64 a0_0) := (blk_cell BK153.out 0).trans rfl; have hcz11_1 : w10.cell? ⟨gb153, 1, none⟩ = some (.bool a0_1) := (blk_cell BK153.out 1).trans rfl; have hfz11_0 := blk_frozen BK153.out 0; have hfz11_1 := blk_frozen BK153.out 1) | ((with_reducible refine gate_callee (f := 39) rfl ?_); refine goesL_ (some 5) rfl rfl Tryd.func39 (by kernel_rfl) rfl #[.int .i64 a0_0, .int .i64 0, .int .i64 20] rfl (by (try simp only [List.map_toArray, List.map_cons, List.map_nil]); first | done | rfl | (simp only [List.length_drop, List.length_take]; rfl)) ?_; (with_reducible refine (spec_l6In.calls a0_0 0 20 false _ A2.out).mono ?_); rintro e w' ⟨rfl, ⟨nd, rfl⟩⟩; refine ⟨_, rfl, ?_⟩))
  go_ret
  exact ⟨by first | rfl | (simp [errW_none, errW_some] <;> rfl) | (simp [*, errW_none, errW_some] <;> rfl), by repeat (first | (with_reducible first | exact HB.out | apply below_alloc | apply pw_below_drewN | apply below_drew1 | refine below_set ?_ GE153.out) | exact HB.out)⟩

end Go.Proofs.YtiagfjbngpbejaaDoor.PFnExactSingBest
namespace Go.Proofs.YtiagfjbngpbejaaDoor.PFnExactSingBest
open Go.RowKit Go.Proofs.YtiagfjbngpbejaaDoorW.PrintWords Go.Proofs.YtiagfjbngpbejaaDoorW.PrintLast Go.Proofs.YtiagfjbngpbejaaDoorW.PrintMore
attribute [local go_sem] max2_int min2_int max_two min_two max_three min_three max_four min_four   -- for this text's walks alone
set_option linter.unusedVariables false
set_option linter.unusedSimpArgs false

def spec_MelodyValid.l0 : Nat → List (S29) → Int → Option (Bool)
 | 0, _, _ => none
 | k + 1, x0, x3 => if x3 < (x0.length : Int) then (if 0 ≤ x3 then ((spec_ToneValid.f ((rd_T29 x0 x3).f0) ((rd_T29 x0 x3).f1)).bind fun t157 => (if t157 = true then (spec_MelodyValid.l0 k x0 (wrap64 (x3 + 1))) else (some false))) else (none)) else (some (decide ((x0.length : Int) ≤ 24)))
def spec_MelodyValid.f (k : Nat) (l0 : List (S29)) : Option (Bool) := spec_MelodyValid.l0 k l0 0
set_option maxHeartbeats 8000000 in
set_option maxRecDepth 100000 in
theorem spec_MelodyValid.calls (k : Nat) (A0 : Option Addr) (c0 : Nat) (l0 : List (S29)) (r : Bool) (w : World) (hr0 : Kd.C k29 w A0 l0.length l0) (hc0 : l0.length ≤ c0) (h : spec_MelodyValid.f k l0 = some r) :
 Calls Tryd.prog 21 #[.slice A0 l0.length c0] w fun e w' => e = .returned (.bool r) ∧ Below w.heap.size w w' := by
 have hu29 := Tryd.underlying29; have HR0 := Aside0.mk hr0; have HC0 := Aside0.mk hc0; clear hr0 hc0; have HB := Aside0.mk (Below.refl w.heap.size w); have H : (spec_MelodyValid.l0 k l0 0) = some r := h; clear h; have H' := Aside0.mk H; clear H; go_enter Tryd.func21, Tryd.ntmps21
 go_wp2; go_loopg [3] k (fun kq v3 w' => ∃ (x3_1 : Int), v3 = .int .i64 x3_1 ∧ Aside0 (spec_MelodyValid.l0 kq l0 x3_1 = some r) ∧ Aside0 (kq ≤ k) ∧ Aside0 (Below w.heap.size w w'))
 case atStart => exact ⟨(0), (by first | rfl | (simp; done) | (simp [*]; done)), H', ⟨Nat.le_refl _⟩, ⟨by repeat (first | (with_reducible first | exact HB.out | apply below_alloc | apply pw_below_drewN | apply below_drew1) | exact HB.out)⟩⟩
 case round =>
  clear H'; obtain ⟨x3_1, rfl, HA, HK1, HB⟩ := hrel; cases gk with
  | zero => exact absurd HA.out (by simp [spec_MelodyValid.l0])
  | succ k1 =>
   have H := HA.out; clear HA; simp only [spec_MelodyValid.l0] at H; by_cases c2 : x3_1 < (l0.length : Int)
   ·
    rw [if_pos c2] at H; have c2b0 : decide (x3_1 < (l0.length : Int)) = true := decide_eq_true c2; clear c2; by_cases c3 : 0 ≤ x3_1
    ·
     rw [if_pos c3] at H; have c3b0 : decide (0 ≤ x3_1) = true := decide_eq_true c3; clear c3; replace H := Option.bind_eq_some_iff.mp H; obtain ⟨t157, A40, H⟩ := H; replace H : (if t157 = true then (spec_MelodyValid.l0 k1 l0 (wrap64 (x3_1 + 1))) else (some false)) = some r := H; have A4 := Aside0.mk A40; clear A40; by_cases c5 : t157 = true
     ·
      subst c5; have H1 : (spec_MelodyValid.l0 k1 l0 (wrap64 (x3_1 + 1))) = some r := by rw [if_pos rfl] at H; exact H
      clear H; have H := H1; clear H1; have H' := Aside0.mk H; clear H; have p156 : 0 ≤ (x3_1 : Int) := of_decide_eq_true (by first | (with_reducible assumption) | assumption); have q156 : x3_1 < (l0.length : Int) := of_decide_eq_true (by first | (with_reducible assumption) | assumption); obtain ⟨ad156, e156, hx156_0, hx156_1⟩ := at_T29 HR0.out x3_1 p156 q156; cases e156; replace hx156_0 := (HB.out.cell (World.block_lt_of_cell? w _ hx156_0)).trans hx156_0; replace hx156_1 := (HB.out.cell (World.block_lt_of_cell? w _ hx156_1)).trans hx156_1; replace p156 := eq_true p156; replace q156 := eq_true q156; go_wp2_with (first | ((with_reducible refine gate_callee (f := 33) rfl ?_); refine goesL_ (some 14) rfl rfl Tryd.func33 (by kernel_rfl) rfl #[.agg #[.int .i64 ((rd_T29 l0 x3_1).f0), .bool ((rd_T29 l0 x3_1).f1)]] rfl (by (try simp only [List.map_toArray, List.map_cons, List.map_nil]); first | done | rfl | (simp only [List.length_drop, List.length_take]; rfl)) ?_; (with_reducible refine (spec_ToneValid.calls ((rd_T29 l0 x3_1).f0) ((rd_T29 l0 x3_1).f1) true _ A4.out).mono ?_); rintro e w6 ⟨rfl, hb⟩; refine ⟨_, rfl, ?_⟩; have n0_ := Aside0.mk (below_step (by repeat (first | (with_reducible first | exact HB.out | apply below_alloc | apply pw_below_drewN | apply below_drew1) | exact HB.out)) hb); clear HB; have HB := n0_; clear n0_; (try clear hb); (try clear hb2); (try clear hk); (try clear hi)))
      go_roundg k1
      case measure => have := HK1.out; omega
      case rel => exact ⟨(wrap64 (x3_1 + 1)), (by first | rfl | (simp; done) | (simp [*]; done)), H', ⟨by have := HK1.out; omega⟩, ⟨by repeat (first | (with_reducible first | exact HB.out | apply below_alloc | apply pw_below_drewN | apply below_drew1) | exact HB.out)⟩⟩
     ·
      replace c5 := Bool.eq_false_iff.mpr c5; subst c5; have H1 : (some false) = some r := by rw [if_neg (show ¬ (false = true) by decide)] at H; exact H
      clear H; have H := H1; clear H1; obtain rfl := Option.some.inj H; have p156 : 0 ≤ (x3_1 : Int) := of_decide_eq_true (by first | (with_reducible assumption) | assumption); have q156 : x3_1 < (l0.length : Int) := of_decide_eq_true (by first | (with_reducible assumption) | assumption); obtain ⟨ad156, e156, hx156_0, hx156_1⟩ := at_T29 HR0.out x3_1 p156 q156; cases e156; replace hx156_0 := (HB.out.cell (World.block_lt_of_cell? w _ hx156_0)).trans hx156_0; replace hx156_1 := (HB.out.cell (World.block_lt_of_cell? w _ hx156_1)).trans hx156_1; replace p156 := eq_true p156; replace q156 := eq_true q156; go_wp2_with (first | ((with_reducible refine gate_callee (f := 33) rfl ?_); refine goesL_ (some 14) rfl rfl Tryd.func33 (by kernel_rfl) rfl #[.agg #[.int .i64 ((rd_T29 l0 x3_1).f0), .bool ((rd_T29 l0 x3_1).f1)]] rfl (by (try simp only [List.map_toArray, List.map_cons, List.map_nil]); first | done | rfl | (simp only [List.length_drop, List.length_take]; rfl)) ?_; (with_reducible refine (spec_ToneValid.calls ((rd_T29 l0 x3_1).f0) ((rd_T29 l0 x3_1).f1) false _ A4.out).mono ?_); rintro e w7 ⟨rfl, hb⟩; refine ⟨_, rfl, ?_⟩; have n0_ := Aside0.mk (below_step (by repeat (first | (with_reducible first | exact HB.out | apply below_alloc | apply pw_below_drewN | apply below_drew1) | exact HB.out)) hb); clear HB; have HB := n0_; clear n0_; (try clear hb); (try clear hb2); (try clear hk); (try clear hi)))
      go_ret
      exact ⟨by first | rfl | (simp [errW_none, errW_some] <;> rfl) | (simp [*, errW_none, errW_some] <;> rfl), by repeat (first | (with_reducible first | exact HB.out | apply below_alloc | apply pw_below_drewN | apply below_drew1) | exact HB.out)⟩
    ·
     rw [if_neg c3] at H; exact absurd H (by simp)
   ·
    rw [if_neg c2] at H; have c2b0 : decide (x3_1 < (l0.length : Int)) = false := decide_eq_false c2; clear c2; obtain rfl := Option.some.inj H; go_wp2; go_ret
    exact ⟨by first | rfl | (simp [errW_none, errW_some] <;> rfl) | (simp [*, errW_none, errW_some] <;> rfl), by repeat (first | (with_reducible first | exact HB.out | apply below_alloc | apply pw_below_drewN | apply below_drew1) | exact HB.out)⟩

end Go.Proofs.YtiagfjbngpbejaaDoor.PFnExactSingBest
namespace Go.Proofs.YtiagfjbngpbejaaDoor.PFnExactSingBest
open Go.RowKit Go.Proofs.YtiagfjbngpbejaaDoorW.PrintWords Go.Proofs.YtiagfjbngpbejaaDoorW.PrintLast Go.Proofs.YtiagfjbngpbejaaDoorW.PrintMore
attribute [local go_sem] max2_int min2_int max_two min_two max_three min_three max_four min_four   -- for this text's walks alone
set_option linter.unusedVariables false
set_option linter.unusedSimpArgs false

def spec_HexValid.f (a0 : Int) : Option (Bool) := (spec_l6In.f a0 0 15).bind fun t158 => (if t158 = true then ((spec_l1Letter.f a0).bind fun t159 => (if t159 = 0 then (some true) else (if t159 = 3 then (some true) else (some (t159 == 6))))) else (some false))
set_option maxHeartbeats 8000000 in
set_option maxRecDepth 100000 in
theorem spec_HexValid.calls (a0 : Int) (r : Bool) (w : World) (h : spec_HexValid.f a0 = some r) :
 Calls Tryd.prog 41 #[.int .i64 a0] w fun e w' => e = .returned (.bool r) ∧ Drawn0 w w' := by
 have H : ((spec_l6In.f a0 0 15).bind fun t158 => (if t158 = true then ((spec_l1Letter.f a0).bind fun t159 => (if t159 = 0 then (some true) else (if t159 = 3 then (some true) else (some (t159 == 6))))) else (some false))) = some r := h; clear h; replace H := Option.bind_eq_some_iff.mp H; obtain ⟨t158, A20, H⟩ := H; replace H : (if t158 = true then ((spec_l1Letter.f a0).bind fun t159 => (if t159 = 0 then (some true) else (if t159 = 3 then (some true) else (some (t159 == 6))))) else (some false)) = some r := H; have A2 := Aside0.mk A20; clear A20; by_cases c3 : t158 = true
 ·
  subst c3; have H1 : ((spec_l1Letter.f a0).bind fun t159 => (if t159 = 0 then (some true) else (if t159 = 3 then (some true) else (some (t159 == 6))))) = some r := by rw [if_pos rfl] at H; exact H
  clear H; have H := H1; clear H1; replace H := Option.bind_eq_some_iff.mp H; obtain ⟨t159, A40, H⟩ := H; replace H : (if t159 = 0 then (some true) else (if t159 = 3 then (some true) else (some (t159 == 6)))) = some r := H; have A4 := Aside0.mk A40; clear A40; by_cases c5 : t159 = 0
  ·
   rw [if_pos c5] at H; have c5b0 : (t159 == 0) = true := beq_iff_eq.mpr c5; have c5b1 : (t159 != 0) = false := bne_eq_false_iff_eq.mpr c5; clear c5; obtain rfl := Option.some.inj H; go_enter Tryd.func41, Tryd.ntmps41
   go_wp2_with (first | ((with_reducible refine gate_callee (f := 39) rfl ?_); refine goesL_ (some 5) rfl rfl Tryd.func39 (by kernel_rfl) rfl #[.int .i64 a0, .int .i64 0, .int .i64 15] rfl (by (try simp only [List.map_toArray, List.map_cons, List.map_nil]); first | done | rfl | (simp only [List.length_drop, List.length_take]; rfl)) ?_; (with_reducible refine (spec_l6In.calls a0 0 15 true _ A2.out).mono ?_); rintro e w' ⟨rfl, ⟨nd, rfl⟩⟩; refine ⟨_, rfl, ?_⟩) | ((with_reducible refine gate_callee (f := 31) rfl ?_); refine goesL_ (some 8) rfl rfl Tryd.func31 (by kernel_rfl) rfl #[.int .i64 a0] rfl (by (try simp only [List.map_toArray, List.map_cons, List.map_nil]); first | done | rfl | (simp only [List.length_drop, List.length_take]; rfl)) ?_; (with_reducible refine (spec_l1Letter.calls a0 t159 _ A4.out).mono ?_); rintro e w' ⟨rfl, ⟨nd, rfl⟩⟩; refine ⟨_, rfl, ?_⟩))
   go_ret
   exact ⟨by first | rfl | (simp; done) | (simp [*]; done), by repeat (first | exact Drawn0.refl _ | apply Drawn0.step)⟩
  ·
   rw [if_neg c5] at H; have c5b0 : (t159 == 0) = false := beq_eq_false_iff_ne.mpr c5; have c5b1 : (t159 != 0) = true := bne_iff_ne.mpr c5; by_cases c6 : t159 = 3
   ·
    rw [if_pos c6] at H; have c6b0 : (t159 == 3) = true := beq_iff_eq.mpr c6; have c6b1 : (t159 != 3) = false := bne_eq_false_iff_eq.mpr c6; clear c6; obtain rfl := Option.some.inj H; go_enter Tryd.func41, Tryd.ntmps41
    go_wp2_with (first | ((with_reducible refine gate_callee (f := 39) rfl ?_); refine goesL_ (some 5) rfl rfl Tryd.func39 (by kernel_rfl) rfl #[.int .i64 a0, .int .i64 0, .int .i64 15] rfl (by (try simp only [List.map_toArray, List.map_cons, List.map_nil]); first | done | rfl | (simp only [List.length_drop, List.length_take]; rfl)) ?_; (with_reducible refine (spec_l6In.calls a0 0 15 true _ A2.out).mono ?_); rintro e w' ⟨rfl, ⟨nd, rfl⟩⟩; refine ⟨_, rfl, ?_⟩) | ((with_reducible refine gate_callee (f := 31) rfl ?_); refine goesL_ (some 8) rfl rfl Tryd.func31 (by kernel_rfl) rfl #[.int .i64 a0] rfl (by (try simp only [List.map_toArray, List.map_cons, List.map_nil]); first | done | rfl | (simp only [List.length_drop, List.length_take]; rfl)) ?_; (with_reducible refine (spec_l1Letter.calls a0 t159 _ A4.out).mono ?_); rintro e w' ⟨rfl, ⟨nd, rfl⟩⟩; refine ⟨_, rfl, ?_⟩))
    go_ret
    exact ⟨by first | rfl | (simp; done) | (simp [*]; done), by repeat (first | exact Drawn0.refl _ | apply Drawn0.step)⟩
   ·
    rw [if_neg c6] at H; have c6b0 : (t159 == 3) = false := beq_eq_false_iff_ne.mpr c6; have c6b1 : (t159 != 3) = true := bne_iff_ne.mpr c6; obtain rfl := Option.some.inj H; go_enter Tryd.func41, Tryd.ntmps41
    go_wp2_with (first | ((with_reducible refine gate_callee (f := 39) rfl ?_); refine goesL_ (some 5) rfl rfl Tryd.func39 (by kernel_rfl) rfl #[.int .i64 a0, .int .i64 0, .int .i64 15] rfl (by (try simp only [List.map_toArray, List.map_cons, List.map_nil]); first | done | rfl | (simp only [List.length_drop, List.length_take]; rfl)) ?_; (with_reducible refine (spec_l6In.calls a0 0 15 true _ A2.out).mono ?_); rintro e w' ⟨rfl, ⟨nd, rfl⟩⟩; refine ⟨_, rfl, ?_⟩) | ((with_reducible refine gate_callee (f := 31) rfl ?_); refine goesL_ (some 8) rfl rfl Tryd.func31 (by kernel_rfl) rfl #[.int .i64 a0] rfl (by (try simp only [List.map_toArray, List.map_cons, List.map_nil]); first | done | rfl | (simp only [List.length_drop, List.length_take]; rfl)) ?_; (with_reducible refine (spec_l1Letter.calls a0 t159 _ A4.out).mono ?_); rintro e w' ⟨rfl, ⟨nd, rfl⟩⟩; refine ⟨_, rfl, ?_⟩))
    go_ret
    exact ⟨by first | rfl | (simp; done) | (simp [*]; done), by repeat (first | exact Drawn0.refl _ | apply Drawn0.step)⟩
 ·
  replace c3 := Bool.eq_false_iff.mpr c3; subst c3; have H1 : (some false) = some r := by rw [if_neg (show ¬ (false = true) by decide)] at H; exact H
  clear H; have H := H1; clear H1; obtain rfl := Option.some.inj H; go_enter Tryd.func41, Tryd.ntmps41
  go_wp2_with (first | ((with_reducible refine gate_callee (f := 39) rfl ?_); refine goesL_ (some 5) rfl rfl Tryd.func39 (by kernel_rfl) rfl #[.int .i64 a0, .int .i64 0, .int .i64 15] rfl (by (try simp only [List.map_toArray, List.map_cons, List.map_nil]); first | done | rfl | (simp only [List.length_drop, List.length_take]; rfl)) ?_; (with_reducible refine (spec_l6In.calls a0 0 15 false _ A2.out).mono ?_); rintro e w' ⟨rfl, ⟨nd, rfl⟩⟩; refine ⟨_, rfl, ?_⟩))
  go_ret
  exact ⟨by first | rfl | (simp; done) | (simp [*]; done), by repeat (first | exact Drawn0.refl _ | apply Drawn0.step)⟩

end Go.Proofs.YtiagfjbngpbejaaDoor.PFnExactSingBest
namespace Go.Proofs.YtiagfjbngpbejaaDoor.PFnExactSingBest
open Go.RowKit Go.Proofs.YtiagfjbngpbejaaDoorW.PrintWords Go.Proofs.YtiagfjbngpbejaaDoorW.PrintLast Go.Proofs.YtiagfjbngpbejaaDoorW.PrintMore
attribute [local go_sem] max2_int min2_int max_two min_two max_three min_three max_four min_four   -- for this text's walks alone
set_option linter.unusedVariables false
set_option linter.unusedSimpArgs false

def spec_HexTone.f (a0 : Int) (a1 : Int) : Option (Int × Bool × Bool) := (spec_HexValid.f a0).bind fun t161 => (if t161 = true then ((spec_l6In.f a1 0 5).bind fun t162 => (if t162 = true then ((spec_l1Letter.f a0).bind fun t163 => (if t163 = 6 then (some (wrap64 (a0 + a1), (a1 == 3), true)) else (some (wrap64 (a0 + a1), false, true)))) else (some (0, false, false)))) else (some (0, false, false)))
set_option maxHeartbeats 8000000 in
set_option maxRecDepth 100000 in
theorem spec_HexTone.calls (a0 : Int) (a1 : Int) (r1 : Int) (r2 : Bool) (r3 : Bool) (w : World) (h : spec_HexTone.f a0 a1 = some (r1, r2, r3)) :
 Calls Tryd.prog 40 #[.int .i64 a0, .int .i64 a1] w fun e w' => e = .returned (.tuple #[.agg #[.int .i64 r1, .bool r2], .bool r3]) ∧ Below w.heap.size w w' := by
 have hu29 := Tryd.underlying29; have HB := Aside0.mk (Below.refl w.heap.size w); have H : ((spec_HexValid.f a0).bind fun t161 => (if t161 = true then ((spec_l6In.f a1 0 5).bind fun t162 => (if t162 = true then ((spec_l1Letter.f a0).bind fun t163 => (if t163 = 6 then (some (wrap64 (a0 + a1), (a1 == 3), true)) else (some (wrap64 (a0 + a1), false, true)))) else (some (0, false, false)))) else (some (0, false, false)))) = some (r1, r2, r3) := h; clear h; replace H := Option.bind_eq_some_iff.mp H; obtain ⟨t161, A30, H⟩ := H; replace H : (if t161 = true then ((spec_l6In.f a1 0 5).bind fun t162 => (if t162 = true then ((spec_l1Letter.f a0).bind fun t163 => (if t163 = 6 then (some (wrap64 (a0 + a1), (a1 == 3), true)) else (some (wrap64 (a0 + a1), false, true)))) else (some (0, false, false)))) else (some (0, false, false))) = some (r1, r2, r3) := H; have A3 := Aside0.mk A30; clear A30; by_cases c4 : t161 = true
 ·
  subst c4; have H1 : ((spec_l6In.f a1 0 5).bind fun t162 => (if t162 = true then ((spec_l1Letter.f a0).bind fun t163 => (if t163 = 6 then (some (wrap64 (a0 + a1), (a1 == 3), true)) else (some (wrap64 (a0 + a1), false, true)))) else (some (0, false, false)))) = some (r1, r2, r3) := by rw [if_pos rfl] at H; exact H
  clear H; have H := H1; clear H1; replace H := Option.bind_eq_some_iff.mp H; obtain ⟨t162, A50, H⟩ := H; replace H : (if t162 = true then ((spec_l1Letter.f a0).bind fun t163 => (if t163 = 6 then (some (wrap64 (a0 + a1), (a1 == 3), true)) else (some (wrap64 (a0 + a1), false, true)))) else (some (0, false, false))) = some (r1, r2, r3) := H; have A5 := Aside0.mk A50; clear A50; by_cases c6 : t162 = true
  ·
   subst c6; have H1 : ((spec_l1Letter.f a0).bind fun t163 => (if t163 = 6 then (some (wrap64 (a0 + a1), (a1 == 3), true)) else (some (wrap64 (a0 + a1), false, true)))) = some (r1, r2, r3) := by rw [if_pos rfl] at H; exact H
   clear H; have H := H1; clear H1; replace H := Option.bind_eq_some_iff.mp H; obtain ⟨t163, A70, H⟩ := H; replace H : (if t163 = 6 then (some (wrap64 (a0 + a1), (a1 == 3), true)) else (some (wrap64 (a0 + a1), false, true))) = some (r1, r2, r3) := H; have A7 := Aside0.mk A70; clear A70; by_cases c8 : t163 = 6
   ·
    rw [if_pos c8] at H; have c8b0 : (t163 == 6) = true := beq_iff_eq.mpr c8; have c8b1 : (t163 != 6) = false := bne_eq_false_iff_eq.mpr c8; clear c8; simp only [Option.some.injEq, Prod.mk.injEq] at H; obtain ⟨rfl, rfl, rfl⟩ := H; go_enter Tryd.func40, Tryd.ntmps40
    go_wp2_with (first | ((with_reducible refine gate_dst (N := 4) rfl ?_); refine box_event ?hg (N := 4) ?hd (cs := #[.int .i64 0, .bool false]) (t := 29) ?hr ?_; (case hd => rfl); (case hg => rfl); (case hr => first | (go_simp; done) | (go_simp; rfl)); intro gb160 hg w9 hbox hb; have n0_ := Aside0.mk (below_step (by repeat (first | (with_reducible first | exact HB.out | apply below_alloc | apply pw_below_drewN | apply below_drew1) | exact HB.out)) hb); have n1_ := Aside0.mk (hbox); have n2_ := Aside0.mk ((by rw [hg]; exact (below_size (by repeat (first | (with_reducible first | exact HB.out | apply below_alloc | apply pw_below_drewN | apply below_drew1) | exact HB.out))) : w.heap.size ≤ gb160)); have n3_ := Aside0.mk ((by rw [hg]; exact (below_size (by repeat (first | (with_reducible first | exact HB.out | apply below_alloc | apply pw_below_drewN | apply below_drew1) | exact HB.out))) : w.heap.size ≤ gb160)); clear HB; have HB := n0_; have BK160 := n1_; have GW160 := n2_; have GE160 := n3_; clear n0_ n1_ n2_ n3_; clear hb hbox hg) | ((with_reducible refine gate_callee (f := 41) rfl ?_); refine goesL_ (some 8) rfl rfl Tryd.func41 (by kernel_rfl) rfl #[.int .i64 a0] rfl (by (try simp only [List.map_toArray, List.map_cons, List.map_nil]); first | done | rfl | (simp only [List.length_drop, List.length_take]; rfl)) ?_; (with_reducible refine (spec_HexValid.calls a0 true _ A3.out).mono ?_); rintro e w' ⟨rfl, ⟨nd, rfl⟩⟩; refine ⟨_, rfl, ?_⟩; (try (rw [drewN_self w9]; generalize hq_ : World.drewN w9 _ = w9; have n0_ : Aside0 (w9.heap[gb160]? = some (.cells #[.int .i64 0, .bool false] 29 (0, 0))) := ⟨by rw [← hq_]; exact (by (with_reducible repeat (first | refine blk_drewN ?_ _ | refine blk_drew ?_ | refine blk_alloc ?_ _)); exact BK160.out)⟩; have n1_ : Aside0 (Below w.heap.size w w9) := ⟨by rw [← hq_]; exact (by repeat (first | (with_reducible first | exact HB.out | apply below_alloc | apply pw_below_drewN | apply below_drew1 | refine below_set ?_ GE160.out) | exact HB.out))⟩; clear BK160 HB hq_; have BK160 := n0_; have HB := n1_; clear n0_ n1_))) | (go_at_call 39; (with_reducible refine (spec_l6In.calls a1 0 5 true _ A5.out).mono ?_); rintro e w' ⟨rfl, ⟨nd, rfl⟩⟩; (try (rw [drewN_self w9]; generalize hq_ : World.drewN w9 _ = w9; have n0_ : Aside0 (w9.heap[gb160]? = some (.cells #[.int .i64 0, .bool false] 29 (0, 0))) := ⟨by rw [← hq_]; exact (by (with_reducible repeat (first | refine blk_drewN ?_ _ | refine blk_drew ?_ | refine blk_alloc ?_ _)); exact BK160.out)⟩; have n1_ : Aside0 (Below w.heap.size w w9) := ⟨by rw [← hq_]; exact (by repeat (first | (with_reducible first | exact HB.out | apply below_alloc | apply pw_below_drewN | apply below_drew1 | refine below_set ?_ GE160.out) | exact HB.out))⟩; clear BK160 HB hq_; have BK160 := n0_; have HB := n1_; clear n0_ n1_))) | ((with_reducible refine gate_callee (f := 31) rfl ?_); refine goesL_ (some 17) rfl rfl Tryd.func31 (by kernel_rfl) rfl #[.int .i64 a0] rfl (by (try simp only [List.map_toArray, List.map_cons, List.map_nil]); first | done | rfl | (simp only [List.length_drop, List.length_take]; rfl)) ?_; (with_reducible refine (spec_l1Letter.calls a0 t163 _ A7.out).mono ?_); rintro e w' ⟨rfl, ⟨nd, rfl⟩⟩; refine ⟨_, rfl, ?_⟩; (try (rw [drewN_self w9]; generalize hq_ : World.drewN w9 _ = w9; have n0_ : Aside0 (w9.heap[gb160]? = some (.cells #[.int .i64 0, .bool false] 29 (0, 0))) := ⟨by rw [← hq_]; exact (by (with_reducible repeat (first | refine blk_drewN ?_ _ | refine blk_drew ?_ | refine blk_alloc ?_ _)); exact BK160.out)⟩; have n1_ : Aside0 (Below w.heap.size w w9) := ⟨by rw [← hq_]; exact (by repeat (first | (with_reducible first | exact HB.out | apply below_alloc | apply pw_below_drewN | apply below_drew1 | refine below_set ?_ GE160.out) | exact HB.out))⟩; clear BK160 HB hq_; have BK160 := n0_; have HB := n1_; clear n0_ n1_)); have hcz10_0 : w9.cell? ⟨gb160, 0, none⟩ = some (.int .i64 0) := (blk_cell BK160.out 0).trans rfl; have hcz10_1 : w9.cell? ⟨gb160, 1, none⟩ = some (.bool false) := (blk_cell BK160.out 1).trans rfl; have hfz10_0 := blk_frozen BK160.out 0; have hfz10_1 := blk_frozen BK160.out 1))
    refine bodyPost_ret (results_ct rfl _ _ gb160 29 #[.int .i64 (wrap64 (a0 + a1)), .bool (a1 == 3)] (0, 0) _ rfl (by (with_reducible repeat (first | refine blk_drewN ?_ _ | refine blk_drew ?_ | refine blk_alloc ?_ _)); refine blk_put (cs := #[.int .i64 (wrap64 (a0 + a1)), .bool false]) ?_ 1 _ rfl; (with_reducible repeat (first | refine blk_drewN ?_ _ | refine blk_drew ?_ | refine blk_alloc ?_ _)); refine blk_put (cs := #[.int .i64 0, .bool false]) ?_ 0 _ rfl; (with_reducible repeat (first | refine blk_drewN ?_ _ | refine blk_drew ?_ | refine blk_alloc ?_ _)); exact BK160.out) Tryd.underlying29 rfl (by kernel_rfl)) rfl ?_; exact ⟨by first | rfl | (simp [errW_none, errW_some] <;> rfl) | (simp [*, errW_none, errW_some] <;> rfl), by repeat (first | (with_reducible first | exact HB.out | apply below_alloc | apply pw_below_drewN | apply below_drew1 | refine below_set ?_ GE160.out) | exact HB.out)⟩
   ·
    rw [if_neg c8] at H; have c8b0 : (t163 == 6) = false := beq_eq_false_iff_ne.mpr c8; have c8b1 : (t163 != 6) = true := bne_iff_ne.mpr c8; simp only [Option.some.injEq, Prod.mk.injEq] at H; obtain ⟨rfl, rfl, rfl⟩ := H; go_enter Tryd.func40, Tryd.ntmps40
    go_wp2_with (first | ((with_reducible refine gate_dst (N := 4) rfl ?_); refine box_event ?hg (N := 4) ?hd (cs := #[.int .i64 0, .bool false]) (t := 29) ?hr ?_; (case hd => rfl); (case hg => rfl); (case hr => first | (go_simp; done) | (go_simp; rfl)); intro gb160 hg w11 hbox hb; have n0_ := Aside0.mk (below_step (by repeat (first | (with_reducible first | exact HB.out | apply below_alloc | apply pw_below_drewN | apply below_drew1) | exact HB.out)) hb); have n1_ := Aside0.mk (hbox); have n2_ := Aside0.mk ((by rw [hg]; exact (below_size (by repeat (first | (with_reducible first | exact HB.out | apply below_alloc | apply pw_below_drewN | apply below_drew1) | exact HB.out))) : w.heap.size ≤ gb160)); have n3_ := Aside0.mk ((by rw [hg]; exact (below_size (by repeat (first | (with_reducible first | exact HB.out | apply below_alloc | apply pw_below_drewN | apply below_drew1) | exact HB.out))) : w.heap.size ≤ gb160)); clear HB; have HB := n0_; have BK160 := n1_; have GW160 := n2_; have GE160 := n3_; clear n0_ n1_ n2_ n3_; clear hb hbox hg) | ((with_reducible refine gate_callee (f := 41) rfl ?_); refine goesL_ (some 8) rfl rfl Tryd.func41 (by kernel_rfl) rfl #[.int .i64 a0] rfl (by (try simp only [List.map_toArray, List.map_cons, List.map_nil]); first | done | rfl | (simp only [List.length_drop, List.length_take]; rfl)) ?_; (with_reducible refine (spec_HexValid.calls a0 true _ A3.out).mono ?_); rintro e w' ⟨rfl, ⟨nd, rfl⟩⟩; refine ⟨_, rfl, ?_⟩; (try (rw [drewN_self w11]; generalize hq_ : World.drewN w11 _ = w11; have n0_ : Aside0 (w11.heap[gb160]? = some (.cells #[.int .i64 0, .bool false] 29 (0, 0))) := ⟨by rw [← hq_]; exact (by (with_reducible repeat (first | refine blk_drewN ?_ _ | refine blk_drew ?_ | refine blk_alloc ?_ _)); exact BK160.out)⟩; have n1_ : Aside0 (Below w.heap.size w w11) := ⟨by rw [← hq_]; exact (by repeat (first | (with_reducible first | exact HB.out | apply below_alloc | apply pw_below_drewN | apply below_drew1 | refine below_set ?_ GE160.out) | exact HB.out))⟩; clear BK160 HB hq_; have BK160 := n0_; have HB := n1_; clear n0_ n1_))) | (go_at_call 39; (with_reducible refine (spec_l6In.calls a1 0 5 true _ A5.out).mono ?_); rintro e w' ⟨rfl, ⟨nd, rfl⟩⟩; (try (rw [drewN_self w11]; generalize hq_ : World.drewN w11 _ = w11; have n0_ : Aside0 (w11.heap[gb160]? = some (.cells #[.int .i64 0, .bool false] 29 (0, 0))) := ⟨by rw [← hq_]; exact (by (with_reducible repeat (first | refine blk_drewN ?_ _ | refine blk_drew ?_ | refine blk_alloc ?_ _)); exact BK160.out)⟩; have n1_ : Aside0 (Below w.heap.size w w11) := ⟨by rw [← hq_]; exact (by repeat (first | (with_reducible first | exact HB.out | apply below_alloc | apply pw_below_drewN | apply below_drew1 | refine below_set ?_ GE160.out) | exact HB.out))⟩; clear BK160 HB hq_; have BK160 := n0_; have HB := n1_; clear n0_ n1_))) | ((with_reducible refine gate_callee (f := 31) rfl ?_); refine goesL_ (some 17) rfl rfl Tryd.func31 (by kernel_rfl) rfl #[.int .i64 a0] rfl (by (try simp only [List.map_toArray, List.map_cons, List.map_nil]); first | done | rfl | (simp only [List.length_drop, List.length_take]; rfl)) ?_; (with_reducible refine (spec_l1Letter.calls a0 t163 _ A7.out).mono ?_); rintro e w' ⟨rfl, ⟨nd, rfl⟩⟩; refine ⟨_, rfl, ?_⟩; (try (rw [drewN_self w11]; generalize hq_ : World.drewN w11 _ = w11; have n0_ : Aside0 (w11.heap[gb160]? = some (.cells #[.int .i64 0, .bool false] 29 (0, 0))) := ⟨by rw [← hq_]; exact (by (with_reducible repeat (first | refine blk_drewN ?_ _ | refine blk_drew ?_ | refine blk_alloc ?_ _)); exact BK160.out)⟩; have n1_ : Aside0 (Below w.heap.size w w11) := ⟨by rw [← hq_]; exact (by repeat (first | (with_reducible first | exact HB.out | apply below_alloc | apply pw_below_drewN | apply below_drew1 | refine below_set ?_ GE160.out) | exact HB.out))⟩; clear BK160 HB hq_; have BK160 := n0_; have HB := n1_; clear n0_ n1_)); have hcz12_0 : w11.cell? ⟨gb160, 0, none⟩ = some (.int .i64 0) := (blk_cell BK160.out 0).trans rfl; have hcz12_1 : w11.cell? ⟨gb160, 1, none⟩ = some (.bool false) := (blk_cell BK160.out 1).trans rfl; have hfz12_0 := blk_frozen BK160.out 0; have hfz12_1 := blk_frozen BK160.out 1))
    refine bodyPost_ret (results_ct rfl _ _ gb160 29 #[.int .i64 (wrap64 (a0 + a1)), .bool false] (0, 0) _ rfl (by (with_reducible repeat (first | refine blk_drewN ?_ _ | refine blk_drew ?_ | refine blk_alloc ?_ _)); refine blk_put (cs := #[.int .i64 (wrap64 (a0 + a1)), .bool false]) ?_ 1 _ rfl; (with_reducible repeat (first | refine blk_drewN ?_ _ | refine blk_drew ?_ | refine blk_alloc ?_ _)); refine blk_put (cs := #[.int .i64 0, .bool false]) ?_ 0 _ rfl; (with_reducible repeat (first | refine blk_drewN ?_ _ | refine blk_drew ?_ | refine blk_alloc ?_ _)); exact BK160.out) Tryd.underlying29 rfl (by kernel_rfl)) rfl ?_; exact ⟨by first | rfl | (simp [errW_none, errW_some] <;> rfl) | (simp [*, errW_none, errW_some] <;> rfl), by repeat (first | (with_reducible first | exact HB.out | apply below_alloc | apply pw_below_drewN | apply below_drew1 | refine below_set ?_ GE160.out) | exact HB.out)⟩
  ·
   replace c6 := Bool.eq_false_iff.mpr c6; subst c6; have H1 : (some (0, false, false)) = some (r1, r2, r3) := by rw [if_neg (show ¬ (false = true) by decide)] at H; exact H
   clear H; have H := H1; clear H1; simp only [Option.some.injEq, Prod.mk.injEq] at H; obtain ⟨rfl, rfl, rfl⟩ := H; go_enter Tryd.func40, Tryd.ntmps40
   go_wp2_with (first | ((with_reducible refine gate_dst (N := 4) rfl ?_); refine box_event ?hg (N := 4) ?hd (cs := #[.int .i64 0, .bool false]) (t := 29) ?hr ?_; (case hd => rfl); (case hg => rfl); (case hr => first | (go_simp; done) | (go_simp; rfl)); intro gb160 hg w13 hbox hb; have n0_ := Aside0.mk (below_step (by repeat (first | (with_reducible first | exact HB.out | apply below_alloc | apply pw_below_drewN | apply below_drew1) | exact HB.out)) hb); have n1_ := Aside0.mk (hbox); have n2_ := Aside0.mk ((by rw [hg]; exact (below_size (by repeat (first | (with_reducible first | exact HB.out | apply below_alloc | apply pw_below_drewN | apply below_drew1) | exact HB.out))) : w.heap.size ≤ gb160)); have n3_ := Aside0.mk ((by rw [hg]; exact (below_size (by repeat (first | (with_reducible first | exact HB.out | apply below_alloc | apply pw_below_drewN | apply below_drew1) | exact HB.out))) : w.heap.size ≤ gb160)); clear HB; have HB := n0_; have BK160 := n1_; have GW160 := n2_; have GE160 := n3_; clear n0_ n1_ n2_ n3_; clear hb hbox hg) | ((with_reducible refine gate_callee (f := 41) rfl ?_); refine goesL_ (some 8) rfl rfl Tryd.func41 (by kernel_rfl) rfl #[.int .i64 a0] rfl (by (try simp only [List.map_toArray, List.map_cons, List.map_nil]); first | done | rfl | (simp only [List.length_drop, List.length_take]; rfl)) ?_; (with_reducible refine (spec_HexValid.calls a0 true _ A3.out).mono ?_); rintro e w' ⟨rfl, ⟨nd, rfl⟩⟩; refine ⟨_, rfl, ?_⟩; (try (rw [drewN_self w13]; generalize hq_ : World.drewN w13 _ = w13; have n0_ : Aside0 (w13.heap[gb160]? = some (.cells #[.int .i64 0, .bool false] 29 (0, 0))) := ⟨by rw [← hq_]; exact (by (with_reducible repeat (first | refine blk_drewN ?_ _ | refine blk_drew ?_ | refine blk_alloc ?_ _)); exact BK160.out)⟩; have n1_ : Aside0 (Below w.heap.size w w13) := ⟨by rw [← hq_]; exact (by repeat (first | (with_reducible first | exact HB.out | apply below_alloc | apply pw_below_drewN | apply below_drew1 | refine below_set ?_ GE160.out) | exact HB.out))⟩; clear BK160 HB hq_; have BK160 := n0_; have HB := n1_; clear n0_ n1_))) | (go_at_call 39; (with_reducible refine (spec_l6In.calls a1 0 5 false _ A5.out).mono ?_); rintro e w' ⟨rfl, ⟨nd, rfl⟩⟩; (try (rw [drewN_self w13]; generalize hq_ : World.drewN w13 _ = w13; have n0_ : Aside0 (w13.heap[gb160]? = some (.cells #[.int .i64 0, .bool false] 29 (0, 0))) := ⟨by rw [← hq_]; exact (by (with_reducible repeat (first | refine blk_drewN ?_ _ | refine blk_drew ?_ | refine blk_alloc ?_ _)); exact BK160.out)⟩; have n1_ : Aside0 (Below w.heap.size w w13) := ⟨by rw [← hq_]; exact (by repeat (first | (with_reducible first | exact HB.out | apply below_alloc | apply pw_below_drewN | apply below_drew1 | refine below_set ?_ GE160.out) | exact HB.out))⟩; clear BK160 HB hq_; have BK160 := n0_; have HB := n1_; clear n0_ n1_)); have hcz14_0 : w13.cell? ⟨gb160, 0, none⟩ = some (.int .i64 0) := (blk_cell BK160.out 0).trans rfl; have hcz14_1 : w13.cell? ⟨gb160, 1, none⟩ = some (.bool false) := (blk_cell BK160.out 1).trans rfl; have hfz14_0 := blk_frozen BK160.out 0; have hfz14_1 := blk_frozen BK160.out 1))
   refine bodyPost_ret (results_ct rfl _ _ gb160 29 #[.int .i64 0, .bool false] (0, 0) _ rfl (by (with_reducible repeat (first | refine blk_drewN ?_ _ | refine blk_drew ?_ | refine blk_alloc ?_ _)); refine blk_put (cs := #[.int .i64 0, .bool false]) ?_ 1 _ rfl; (with_reducible repeat (first | refine blk_drewN ?_ _ | refine blk_drew ?_ | refine blk_alloc ?_ _)); refine blk_put (cs := #[.int .i64 0, .bool false]) ?_ 0 _ rfl; (with_reducible repeat (first | refine blk_drewN ?_ _ | refine blk_drew ?_ | refine blk_alloc ?_ _)); exact BK160.out) Tryd.underlying29 rfl (by kernel_rfl)) rfl ?_; exact ⟨by first | rfl | (simp [errW_none, errW_some] <;> rfl) | (simp [*, errW_none, errW_some] <;> rfl), by repeat (first | (with_reducible first | exact HB.out | apply below_alloc | apply pw_below_drewN | apply below_drew1 | refine below_set ?_ GE160.out) | exact HB.out)⟩
 ·
  replace c4 := Bool.eq_false_iff.mpr c4; subst c4; have H1 : (some (0, false, false)) = some (r1, r2, r3) := by rw [if_neg (show ¬ (false = true) by decide)] at H; exact H
  clear H; have H := H1; clear H1; simp only [Option.some.injEq, Prod.mk.injEq] at H; obtain ⟨rfl, rfl, rfl⟩ := H; go_enter Tryd.func40, Tryd.ntmps40
  go_wp2_with (first | ((with_reducible refine gate_dst (N := 4) rfl ?_); refine box_event ?hg (N := 4) ?hd (cs := #[.int .i64 0, .bool false]) (t := 29) ?hr ?_; (case hd => rfl); (case hg => rfl); (case hr => first | (go_simp; done) | (go_simp; rfl)); intro gb160 hg w15 hbox hb; have n0_ := Aside0.mk (below_step (by repeat (first | (with_reducible first | exact HB.out | apply below_alloc | apply pw_below_drewN | apply below_drew1) | exact HB.out)) hb); have n1_ := Aside0.mk (hbox); have n2_ := Aside0.mk ((by rw [hg]; exact (below_size (by repeat (first | (with_reducible first | exact HB.out | apply below_alloc | apply pw_below_drewN | apply below_drew1) | exact HB.out))) : w.heap.size ≤ gb160)); have n3_ := Aside0.mk ((by rw [hg]; exact (below_size (by repeat (first | (with_reducible first | exact HB.out | apply below_alloc | apply pw_below_drewN | apply below_drew1) | exact HB.out))) : w.heap.size ≤ gb160)); clear HB; have HB := n0_; have BK160 := n1_; have GW160 := n2_; have GE160 := n3_; clear n0_ n1_ n2_ n3_; clear hb hbox hg) | ((with_reducible refine gate_callee (f := 41) rfl ?_); refine goesL_ (some 8) rfl rfl Tryd.func41 (by kernel_rfl) rfl #[.int .i64 a0] rfl (by (try simp only [List.map_toArray, List.map_cons, List.map_nil]); first | done | rfl | (simp only [List.length_drop, List.length_take]; rfl)) ?_; (with_reducible refine (spec_HexValid.calls a0 false _ A3.out).mono ?_); rintro e w' ⟨rfl, ⟨nd, rfl⟩⟩; refine ⟨_, rfl, ?_⟩; (try (rw [drewN_self w15]; generalize hq_ : World.drewN w15 _ = w15; have n0_ : Aside0 (w15.heap[gb160]? = some (.cells #[.int .i64 0, .bool false] 29 (0, 0))) := ⟨by rw [← hq_]; exact (by (with_reducible repeat (first | refine blk_drewN ?_ _ | refine blk_drew ?_ | refine blk_alloc ?_ _)); exact BK160.out)⟩; have n1_ : Aside0 (Below w.heap.size w w15) := ⟨by rw [← hq_]; exact (by repeat (first | (with_reducible first | exact HB.out | apply below_alloc | apply pw_below_drewN | apply below_drew1 | refine below_set ?_ GE160.out) | exact HB.out))⟩; clear BK160 HB hq_; have BK160 := n0_; have HB := n1_; clear n0_ n1_)); have hcz16_0 : w15.cell? ⟨gb160, 0, none⟩ = some (.int .i64 0) := (blk_cell BK160.out 0).trans rfl; have hcz16_1 : w15.cell? ⟨gb160, 1, none⟩ = some (.bool false) := (blk_cell BK160.out 1).trans rfl; have hfz16_0 := blk_frozen BK160.out 0; have hfz16_1 := blk_frozen BK160.out 1))
  refine bodyPost_ret (results_ct rfl _ _ gb160 29 #[.int .i64 0, .bool false] (0, 0) _ rfl (by (with_reducible repeat (first | refine blk_drewN ?_ _ | refine blk_drew ?_ | refine blk_alloc ?_ _)); refine blk_put (cs := #[.int .i64 0, .bool false]) ?_ 1 _ rfl; (with_reducible repeat (first | refine blk_drewN ?_ _ | refine blk_drew ?_ | refine blk_alloc ?_ _)); refine blk_put (cs := #[.int .i64 0, .bool false]) ?_ 0 _ rfl; (with_reducible repeat (first | refine blk_drewN ?_ _ | refine blk_drew ?_ | refine blk_alloc ?_ _)); exact BK160.out) Tryd.underlying29 rfl (by kernel_rfl)) rfl ?_; exact ⟨by first | rfl | (simp [errW_none, errW_some] <;> rfl) | (simp [*, errW_none, errW_some] <;> rfl), by repeat (first | (with_reducible first | exact HB.out | apply below_alloc | apply pw_below_drewN | apply below_drew1 | refine below_set ?_ GE160.out) | exact HB.out)⟩

end Go.Proofs.YtiagfjbngpbejaaDoor.PFnExactSingBest
namespace Go.Proofs.YtiagfjbngpbejaaDoor.PFnExactSingBest
open Go.RowKit Go.Proofs.YtiagfjbngpbejaaDoorW.PrintWords Go.Proofs.YtiagfjbngpbejaaDoorW.PrintLast Go.Proofs.YtiagfjbngpbejaaDoorW.PrintMore
attribute [local go_sem] max2_int min2_int max_two min_two max_three min_three max_four min_four   -- for this text's walks alone
set_option linter.unusedVariables false
set_option linter.unusedSimpArgs false

attribute [local go_sem high] eqA29
def spec_HexSyllable.l0 : Nat → Int → Int → Int → Bool → Option (Int)
 | 0, _, _, _, _ => none
 | k + 1, x0, x5, x165000, x165001 => if x5 < 6 then ((spec_HexTone.f x0 x5).bind fun bt165 => (if bt165.2.2 = true then (if (bt165.1 == x165000 && (bt165.2.1 == x165001)) = true then ((spec_ToneValid.f x165000 x165001).bind fun t169 => (if t169 = true then (some x5) else (spec_HexSyllable.l0 k x0 (wrap64 (x5 + 1)) x165000 x165001))) else (spec_HexSyllable.l0 k x0 (wrap64 (x5 + 1)) x165000 x165001)) else (spec_HexSyllable.l0 k x0 (wrap64 (x5 + 1)) x165000 x165001))) else (some (-1))
def spec_HexSyllable.f (k : Nat) (a0 : Int) (a1_0 : Int) (a1_1 : Bool) : Option (Int) := spec_HexSyllable.l0 k a0 0 a1_0 a1_1
theorem spec_HexSyllable.mono_l : ∀ k, (∀ y0 y1 y2 y3, LeO (spec_HexSyllable.l0 k y0 y1 y2 y3) (spec_HexSyllable.l0 (k + 1) y0 y1 y2 y3))
 | 0 => fun _ _ _ _ r h => by simp [spec_HexSyllable.l0] at h
 | k + 1 => by
  have ih0 := spec_HexSyllable.mono_l k
  ·
   intro y0 y1 y2 y3; unfold spec_HexSyllable.l0; repeat' first
   | (with_reducible exact ih0 _ _ _ _)
   | (with_reducible exact LeO.refl _)
   | (with_reducible exact LeO.none _)
   | (with_reducible refine LeO.ite ?_ ?_)
   | (with_reducible refine LeO.bind ?_ (fun _ => ?_))
   | exact ih0 _ _ _ _
   | exact LeO.none _
   | refine LeO.ite ?_ ?_
   | refine LeO.bind ?_ (fun _ => ?_)
theorem spec_HexSyllable.mono : ∀ a0 a1 a2 k, LeO (spec_HexSyllable.f k a0 a1 a2) (spec_HexSyllable.f (k + 1) a0 a1 a2) := by
 intro a0 a1 a2 k; have ih0 := spec_HexSyllable.mono_l k; unfold spec_HexSyllable.f; repeat' first
  | (with_reducible exact ih0 _ _ _ _)
  | (with_reducible exact LeO.refl _)
  | (with_reducible exact LeO.none _)
  | (with_reducible refine LeO.ite ?_ ?_)
  | (with_reducible refine LeO.bind ?_ (fun _ => ?_))
  | exact ih0 _ _ _ _
  | exact LeO.none _
  | refine LeO.ite ?_ ?_
  | refine LeO.bind ?_ (fun _ => ?_)
set_option maxHeartbeats 8000000 in
set_option maxRecDepth 100000 in
theorem spec_HexSyllable.calls (k : Nat) (a0 : Int) (a1_0 : Int) (a1_1 : Bool) (r : Int) (w : World) (h : spec_HexSyllable.f k a0 a1_0 a1_1 = some r) :
 Calls Tryd.prog 34 #[.int .i64 a0, .agg #[.int .i64 a1_0, .bool a1_1]] w fun e w' => e = .returned (.int .i64 r) ∧ Below w.heap.size w w' := by
 have hu29 := Tryd.underlying29; have HB := Aside0.mk (Below.refl w.heap.size w); have H : (spec_HexSyllable.l0 k a0 0 a1_0 a1_1) = some r := h; clear h; have H' := Aside0.mk H; clear H; go_enter Tryd.func34, Tryd.ntmps34
 go_wp2_with (first | ((with_reducible refine gate_dst (N := 3) rfl ?_); refine box_event ?hg (N := 3) ?hd (cs := #[.int .i64 a1_0, .bool a1_1]) (t := 29) ?hr ?_; (case hd => rfl); (case hg => rfl); (case hr => first | (go_simp; done) | (go_simp; rfl)); intro gb164 hg w3 hbox hb; have n0_ := Aside0.mk (below_step (by repeat (first | (with_reducible first | exact HB.out | apply below_alloc | apply pw_below_drewN | apply below_drew1) | exact HB.out)) hb); have n1_ := Aside0.mk (hbox); have n2_ := Aside0.mk ((by rw [hg]; exact (below_size (by repeat (first | (with_reducible first | exact HB.out | apply below_alloc | apply pw_below_drewN | apply below_drew1) | exact HB.out))) : w.heap.size ≤ gb164)); have n3_ := Aside0.mk ((by rw [hg]; exact (below_size (by repeat (first | (with_reducible first | exact HB.out | apply below_alloc | apply pw_below_drewN | apply below_drew1) | exact HB.out))) : w.heap.size ≤ gb164)); clear HB; have HB := n0_; have BK164 := n1_; have GW164 := n2_; have GE164 := n3_; clear n0_ n1_ n2_ n3_; clear hb hbox hg))
 go_loopg [5] k (fun kq v5 w' => ∃ (x5_1 : Int), v5 = .int .i64 x5_1 ∧ Aside0 (spec_HexSyllable.l0 kq a0 x5_1 a1_0 a1_1 = some r) ∧ Aside0 (kq ≤ k) ∧ Aside0 (w'.heap[gb164]? = some (.cells #[.int .i64 a1_0, .bool a1_1] 29 (0, 0))) ∧ Aside0 (Below w.heap.size w w'))
 case atStart => exact ⟨(0), (by first | rfl | (simp; done) | (simp [*]; done)), H', ⟨Nat.le_refl _⟩, ⟨by (with_reducible repeat (first | refine blk_drewN ?_ _ | refine blk_drew ?_ | refine blk_alloc ?_ _)); exact BK164.out⟩, ⟨by repeat (first | (with_reducible first | exact HB.out | apply below_alloc | apply pw_below_drewN | apply below_drew1 | refine below_set ?_ GE164.out) | exact HB.out)⟩⟩
 case round =>
  clear H'; try clear p2
  try clear c3
  obtain ⟨x5_1, rfl, HA, HK1, BK164, HB⟩ := hrel; cases gk with
  | zero => exact absurd HA.out (by simp [spec_HexSyllable.l0])
  | succ k1 =>
   have H := HA.out; clear HA; simp only [spec_HexSyllable.l0] at H; by_cases c4 : x5_1 < 6
   ·
    rw [if_pos c4] at H; have c4b0 : decide (x5_1 < 6) = true := decide_eq_true c4; clear c4; replace H := Option.bind_eq_some_iff.mp H; obtain ⟨⟨t165, t166, t167⟩, A50, H⟩ := H; replace H : (if t167 = true then (if (t165 == a1_0 && (t166 == a1_1)) = true then ((spec_ToneValid.f a1_0 a1_1).bind fun t169 => (if t169 = true then (some x5_1) else (spec_HexSyllable.l0 k1 a0 (wrap64 (x5_1 + 1)) a1_0 a1_1))) else (spec_HexSyllable.l0 k1 a0 (wrap64 (x5_1 + 1)) a1_0 a1_1)) else (spec_HexSyllable.l0 k1 a0 (wrap64 (x5_1 + 1)) a1_0 a1_1)) = some r := H; have A5 := Aside0.mk A50; clear A50; by_cases c6 : t167 = true
    ·
     subst c6; have H1 : (if (t165 == a1_0 && (t166 == a1_1)) = true then ((spec_ToneValid.f a1_0 a1_1).bind fun t169 => (if t169 = true then (some x5_1) else (spec_HexSyllable.l0 k1 a0 (wrap64 (x5_1 + 1)) a1_0 a1_1))) else (spec_HexSyllable.l0 k1 a0 (wrap64 (x5_1 + 1)) a1_0 a1_1)) = some r := by rw [if_pos rfl] at H; exact H
     clear H; have H := H1; clear H1; by_cases c7 : (t165 == a1_0 && (t166 == a1_1)) = true
     ·
      rw [if_pos c7] at H; have c7b0 : (t165 == a1_0 && (t166 == a1_1)) = true := c7; (try (have c7b1 : decide (t165 = a1_0 && (t166 == a1_1)) = true := by simpa using c7))
      (try (have c7b2 : (t165 == a1_0 && (t166 == a1_1)) = true := by simpa using c7))
      clear c7; replace H := Option.bind_eq_some_iff.mp H; obtain ⟨t169, A80, H⟩ := H; replace H : (if t169 = true then (some x5_1) else (spec_HexSyllable.l0 k1 a0 (wrap64 (x5_1 + 1)) a1_0 a1_1)) = some r := H; have A8 := Aside0.mk A80; clear A80; by_cases c9 : t169 = true
      ·
       subst c9; have H1 : (some x5_1) = some r := by rw [if_pos rfl] at H; exact H
       clear H; have H := H1; clear H1; obtain rfl := Option.some.inj H; go_wp2_with (first | ((with_reducible refine gate_callee (f := 40) rfl ?_); refine goesL_ (some 15) rfl rfl Tryd.func40 (by kernel_rfl) rfl #[.int .i64 a0, .int .i64 x5_1] rfl (by (try simp only [List.map_toArray, List.map_cons, List.map_nil]); first | done | rfl | (simp only [List.length_drop, List.length_take]; rfl)) ?_; (with_reducible refine (spec_HexTone.calls a0 x5_1 t165 t166 true _ A5.out).mono ?_); rintro e w10 ⟨rfl, hb⟩; refine ⟨_, rfl, ?_⟩; have n0_ := Aside0.mk (blk_below (g := gb164) (o := .cells #[.int .i64 a1_0, .bool a1_1] 29 (0, 0)) (by (with_reducible repeat (first | refine blk_drewN ?_ _ | refine blk_drew ?_ | refine blk_alloc ?_ _)); exact BK164.out) hb); have n1_ := Aside0.mk (below_step (by repeat (first | (with_reducible first | exact HB.out | apply below_alloc | apply pw_below_drewN | apply below_drew1 | refine below_set ?_ GE164.out) | exact HB.out)) hb); clear BK164; clear HB; have BK164 := n0_; have HB := n1_; clear n0_ n1_; (try clear hb); (try clear hb2); (try clear hk); (try clear hi)) | ((with_reducible refine gate_dst (N := 6) rfl ?_); refine box_event ?hg (N := 6) ?hd (cs := #[.int .i64 0, .bool false]) (t := 29) ?hr ?_; (case hd => rfl); (case hg => rfl); (case hr => first | (go_simp; done) | (go_simp; rfl)); intro gb168 hg w11 hbox hb; have n0_ := Aside0.mk (blk_below (g := gb164) (o := .cells #[.int .i64 a1_0, .bool a1_1] 29 (0, 0)) (by (with_reducible repeat (first | refine blk_drewN ?_ _ | refine blk_drew ?_ | refine blk_alloc ?_ _)); exact BK164.out) hb); have n1_ := Aside0.mk (below_step (by repeat (first | (with_reducible first | exact HB.out | apply below_alloc | apply pw_below_drewN | apply below_drew1 | refine below_set ?_ GE164.out) | exact HB.out)) hb); have n2_ := Aside0.mk (hbox); have n3_ := Aside0.mk ((by rw [hg]; exact (below_size (by repeat (first | (with_reducible first | exact HB.out | apply below_alloc | apply pw_below_drewN | apply below_drew1 | refine below_set ?_ GE164.out) | exact HB.out))) : w.heap.size ≤ gb168)); have n4_ := Aside0.mk ((by rw [hg]; exact (below_size (by repeat (first | (with_reducible first | exact HB.out | apply below_alloc | apply pw_below_drewN | apply below_drew1 | refine below_set ?_ GE164.out) | exact HB.out))) : w.heap.size ≤ gb168)); have n5_ := Aside0.mk ((by rw [hg]; exact Nat.ne_of_lt (blk_lt (g := gb164) (o := .cells #[.int .i64 a1_0, .bool a1_1] 29 (0, 0)) (by (with_reducible repeat (first | refine blk_drewN ?_ _ | refine blk_drew ?_ | refine blk_alloc ?_ _)); exact BK164.out)) : gb164 ≠ gb168)); have n6_ := Aside0.mk ((by rw [hg]; exact Nat.ne_of_gt (blk_lt (g := gb164) (o := .cells #[.int .i64 a1_0, .bool a1_1] 29 (0, 0)) (by (with_reducible repeat (first | refine blk_drewN ?_ _ | refine blk_drew ?_ | refine blk_alloc ?_ _)); exact BK164.out)) : gb168 ≠ gb164)); clear BK164; clear HB; have BK164 := n0_; have HB := n1_; have BK168 := n2_; have GW168 := n3_; have GE168 := n4_; have NB164_168 := n5_; have NB168_164 := n6_; clear n0_ n1_ n2_ n3_ n4_ n5_ n6_; clear hb hbox hg; have hnb12 := NB168_164.out; have hnc12 := NB164_168.out; have hcz13_0 : w11.cell? ⟨gb168, 0, none⟩ = some (.int .i64 0) := (blk_cell BK168.out 0).trans rfl; have hcz13_1 : w11.cell? ⟨gb168, 1, none⟩ = some (.bool false) := (blk_cell BK168.out 1).trans rfl; have hfz13_0 := blk_frozen BK168.out 0; have hfz13_1 := blk_frozen BK168.out 1; have hcz14_0 : w11.cell? ⟨gb164, 0, none⟩ = some (.int .i64 a1_0) := (blk_cell BK164.out 0).trans rfl; have hcz14_1 : w11.cell? ⟨gb164, 1, none⟩ = some (.bool a1_1) := (blk_cell BK164.out 1).trans rfl; have hfz14_0 := blk_frozen BK164.out 0; have hfz14_1 := blk_frozen BK164.out 1) | (go_at_call 33; (with_reducible refine (spec_ToneValid.calls a1_0 a1_1 true _ A8.out).mono ?_); rintro e w15 ⟨rfl, hb⟩; have n0_ := Aside0.mk (blk_below (g := gb164) (o := .cells #[.int .i64 a1_0, .bool a1_1] 29 (0, 0)) (by (with_reducible repeat (first | refine blk_drewN ?_ _ | refine blk_drew ?_ | refine blk_alloc ?_ _)); refine blk_far ?_ NB164_168.out _; (with_reducible repeat (first | refine blk_drewN ?_ _ | refine blk_drew ?_ | refine blk_alloc ?_ _)); refine blk_far ?_ NB164_168.out _; (with_reducible repeat (first | refine blk_drewN ?_ _ | refine blk_drew ?_ | refine blk_alloc ?_ _)); exact BK164.out) hb); have n1_ := Aside0.mk (blk_below (g := gb168) (o := .cells #[.int .i64 t165, .bool t166] 29 (0, 0)) (by (with_reducible repeat (first | refine blk_drewN ?_ _ | refine blk_drew ?_ | refine blk_alloc ?_ _)); refine blk_put (cs := #[.int .i64 t165, .bool false]) ?_ 1 _ rfl; (with_reducible repeat (first | refine blk_drewN ?_ _ | refine blk_drew ?_ | refine blk_alloc ?_ _)); refine blk_put (cs := #[.int .i64 0, .bool false]) ?_ 0 _ rfl; (with_reducible repeat (first | refine blk_drewN ?_ _ | refine blk_drew ?_ | refine blk_alloc ?_ _)); exact BK168.out) hb); have n2_ := Aside0.mk (below_step (by repeat (first | (with_reducible first | exact HB.out | apply below_alloc | apply pw_below_drewN | apply below_drew1 | refine below_set ?_ GE164.out | refine below_set ?_ GE168.out) | exact HB.out)) hb); clear BK164; clear BK168; clear HB; have BK164 := n0_; have BK168 := n1_; have HB := n2_; clear n0_ n1_ n2_; (try clear hb); (try clear hb2); (try clear hk); (try clear hi)))
       go_ret
       exact ⟨by first | rfl | (simp [errW_none, errW_some] <;> rfl) | (simp [*, errW_none, errW_some] <;> rfl), by repeat (first | (with_reducible first | exact HB.out | apply below_alloc | apply pw_below_drewN | apply below_drew1 | refine below_set ?_ GE164.out | refine below_set ?_ GE168.out) | exact HB.out)⟩
      ·
       replace c9 := Bool.eq_false_iff.mpr c9; subst c9; have H1 : (spec_HexSyllable.l0 k1 a0 (wrap64 (x5_1 + 1)) a1_0 a1_1) = some r := by rw [if_neg (show ¬ (false = true) by decide)] at H; exact H
       clear H; have H := H1; clear H1; have H' := Aside0.mk H; clear H; go_wp2_with (first | ((with_reducible refine gate_callee (f := 40) rfl ?_); refine goesL_ (some 15) rfl rfl Tryd.func40 (by kernel_rfl) rfl #[.int .i64 a0, .int .i64 x5_1] rfl (by (try simp only [List.map_toArray, List.map_cons, List.map_nil]); first | done | rfl | (simp only [List.length_drop, List.length_take]; rfl)) ?_; (with_reducible refine (spec_HexTone.calls a0 x5_1 t165 t166 true _ A5.out).mono ?_); rintro e w16 ⟨rfl, hb⟩; refine ⟨_, rfl, ?_⟩; have n0_ := Aside0.mk (blk_below (g := gb164) (o := .cells #[.int .i64 a1_0, .bool a1_1] 29 (0, 0)) (by (with_reducible repeat (first | refine blk_drewN ?_ _ | refine blk_drew ?_ | refine blk_alloc ?_ _)); exact BK164.out) hb); have n1_ := Aside0.mk (below_step (by repeat (first | (with_reducible first | exact HB.out | apply below_alloc | apply pw_below_drewN | apply below_drew1 | refine below_set ?_ GE164.out) | exact HB.out)) hb); clear BK164; clear HB; have BK164 := n0_; have HB := n1_; clear n0_ n1_; (try clear hb); (try clear hb2); (try clear hk); (try clear hi)) | ((with_reducible refine gate_dst (N := 6) rfl ?_); refine box_event ?hg (N := 6) ?hd (cs := #[.int .i64 0, .bool false]) (t := 29) ?hr ?_; (case hd => rfl); (case hg => rfl); (case hr => first | (go_simp; done) | (go_simp; rfl)); intro gb168 hg w17 hbox hb; have n0_ := Aside0.mk (blk_below (g := gb164) (o := .cells #[.int .i64 a1_0, .bool a1_1] 29 (0, 0)) (by (with_reducible repeat (first | refine blk_drewN ?_ _ | refine blk_drew ?_ | refine blk_alloc ?_ _)); exact BK164.out) hb); have n1_ := Aside0.mk (below_step (by repeat (first | (with_reducible first | exact HB.out | apply below_alloc | apply pw_below_drewN | apply below_drew1 | refine below_set ?_ GE164.out) | exact HB.out)) hb); have n2_ := Aside0.mk (hbox); have n3_ := Aside0.mk ((by rw [hg]; exact (below_size (by repeat (first | (with_reducible first | exact HB.out | apply below_alloc | apply pw_below_drewN | apply below_drew1 | refine below_set ?_ GE164.out) | exact HB.out))) : w.heap.size ≤ gb168)); have n4_ := Aside0.mk ((by rw [hg]; exact (below_size (by repeat (first | (with_reducible first | exact HB.out | apply below_alloc | apply pw_below_drewN | apply below_drew1 | refine below_set ?_ GE164.out) | exact HB.out))) : w.heap.size ≤ gb168)); have n5_ := Aside0.mk ((by rw [hg]; exact Nat.ne_of_lt (blk_lt (g := gb164) (o := .cells #[.int .i64 a1_0, .bool a1_1] 29 (0, 0)) (by (with_reducible repeat (first | refine blk_drewN ?_ _ | refine blk_drew ?_ | refine blk_alloc ?_ _)); exact BK164.out)) : gb164 ≠ gb168)); have n6_ := Aside0.mk ((by rw [hg]; exact Nat.ne_of_gt (blk_lt (g := gb164) (o := .cells #[.int .i64 a1_0, .bool a1_1] 29 (0, 0)) (by (with_reducible repeat (first | refine blk_drewN ?_ _ | refine blk_drew ?_ | refine blk_alloc ?_ _)); exact BK164.out)) : gb168 ≠ gb164)); clear BK164; clear HB; have BK164 := n0_; have HB := n1_; have BK168 := n2_; have GW168 := n3_; have GE168 := n4_; have NB164_168 := n5_; have NB168_164 := n6_; clear n0_ n1_ n2_ n3_ n4_ n5_ n6_; clear hb hbox hg; have hnb18 := NB168_164.out; have hnc18 := NB164_168.out; have hcz19_0 : w17.cell? ⟨gb168, 0, none⟩ = some (.int .i64 0) := (blk_cell BK168.out 0).trans rfl; have hcz19_1 : w17.cell? ⟨gb168, 1, none⟩ = some (.bool false) := (blk_cell BK168.out 1).trans rfl; have hfz19_0 := blk_frozen BK168.out 0; have hfz19_1 := blk_frozen BK168.out 1; have hcz20_0 : w17.cell? ⟨gb164, 0, none⟩ = some (.int .i64 a1_0) := (blk_cell BK164.out 0).trans rfl; have hcz20_1 : w17.cell? ⟨gb164, 1, none⟩ = some (.bool a1_1) := (blk_cell BK164.out 1).trans rfl; have hfz20_0 := blk_frozen BK164.out 0; have hfz20_1 := blk_frozen BK164.out 1) | (go_at_call 33; (with_reducible refine (spec_ToneValid.calls a1_0 a1_1 false _ A8.out).mono ?_); rintro e w21 ⟨rfl, hb⟩; have n0_ := Aside0.mk (blk_below (g := gb164) (o := .cells #[.int .i64 a1_0, .bool a1_1] 29 (0, 0)) (by (with_reducible repeat (first | refine blk_drewN ?_ _ | refine blk_drew ?_ | refine blk_alloc ?_ _)); refine blk_far ?_ NB164_168.out _; (with_reducible repeat (first | refine blk_drewN ?_ _ | refine blk_drew ?_ | refine blk_alloc ?_ _)); refine blk_far ?_ NB164_168.out _; (with_reducible repeat (first | refine blk_drewN ?_ _ | refine blk_drew ?_ | refine blk_alloc ?_ _)); exact BK164.out) hb); have n1_ := Aside0.mk (blk_below (g := gb168) (o := .cells #[.int .i64 t165, .bool t166] 29 (0, 0)) (by (with_reducible repeat (first | refine blk_drewN ?_ _ | refine blk_drew ?_ | refine blk_alloc ?_ _)); refine blk_put (cs := #[.int .i64 t165, .bool false]) ?_ 1 _ rfl; (with_reducible repeat (first | refine blk_drewN ?_ _ | refine blk_drew ?_ | refine blk_alloc ?_ _)); refine blk_put (cs := #[.int .i64 0, .bool false]) ?_ 0 _ rfl; (with_reducible repeat (first | refine blk_drewN ?_ _ | refine blk_drew ?_ | refine blk_alloc ?_ _)); exact BK168.out) hb); have n2_ := Aside0.mk (below_step (by repeat (first | (with_reducible first | exact HB.out | apply below_alloc | apply pw_below_drewN | apply below_drew1 | refine below_set ?_ GE164.out | refine below_set ?_ GE168.out) | exact HB.out)) hb); clear BK164; clear BK168; clear HB; have BK164 := n0_; have BK168 := n1_; have HB := n2_; clear n0_ n1_ n2_; (try clear hb); (try clear hb2); (try clear hk); (try clear hi)))
       go_roundg k1
       case measure => have := HK1.out; omega
       case rel => exact ⟨(wrap64 (x5_1 + 1)), (by first | rfl | (simp; done) | (simp [*]; done)), H', ⟨by have := HK1.out; omega⟩, ⟨by (with_reducible repeat (first | refine blk_drewN ?_ _ | refine blk_drew ?_ | refine blk_alloc ?_ _)); exact BK164.out⟩, ⟨by repeat (first | (with_reducible first | exact HB.out | apply below_alloc | apply pw_below_drewN | apply below_drew1 | refine below_set ?_ GE164.out | refine below_set ?_ GE168.out) | exact HB.out)⟩⟩
     ·
      rw [if_neg c7] at H; have c7b0 : (t165 == a1_0 && (t166 == a1_1)) = false := by simpa using c7
      (try (have c7b1 : decide (t165 = a1_0 && (t166 == a1_1)) = false := by simpa using c7))
      (try (have c7b2 : (t165 == a1_0 && (t166 == a1_1)) = false := by simpa using c7))
      (try (have c7b3 : ¬ (t165 = a1_0 && (t166 == a1_1)) := by simpa using c7))
      clear c7; have H' := Aside0.mk H; clear H; go_wp2_with (first | ((with_reducible refine gate_callee (f := 40) rfl ?_); refine goesL_ (some 15) rfl rfl Tryd.func40 (by kernel_rfl) rfl #[.int .i64 a0, .int .i64 x5_1] rfl (by (try simp only [List.map_toArray, List.map_cons, List.map_nil]); first | done | rfl | (simp only [List.length_drop, List.length_take]; rfl)) ?_; (with_reducible refine (spec_HexTone.calls a0 x5_1 t165 t166 true _ A5.out).mono ?_); rintro e w22 ⟨rfl, hb⟩; refine ⟨_, rfl, ?_⟩; have n0_ := Aside0.mk (blk_below (g := gb164) (o := .cells #[.int .i64 a1_0, .bool a1_1] 29 (0, 0)) (by (with_reducible repeat (first | refine blk_drewN ?_ _ | refine blk_drew ?_ | refine blk_alloc ?_ _)); exact BK164.out) hb); have n1_ := Aside0.mk (below_step (by repeat (first | (with_reducible first | exact HB.out | apply below_alloc | apply pw_below_drewN | apply below_drew1 | refine below_set ?_ GE164.out) | exact HB.out)) hb); clear BK164; clear HB; have BK164 := n0_; have HB := n1_; clear n0_ n1_; (try clear hb); (try clear hb2); (try clear hk); (try clear hi)) | ((with_reducible refine gate_dst (N := 6) rfl ?_); refine box_event ?hg (N := 6) ?hd (cs := #[.int .i64 0, .bool false]) (t := 29) ?hr ?_; (case hd => rfl); (case hg => rfl); (case hr => first | (go_simp; done) | (go_simp; rfl)); intro gb168 hg w23 hbox hb; have n0_ := Aside0.mk (blk_below (g := gb164) (o := .cells #[.int .i64 a1_0, .bool a1_1] 29 (0, 0)) (by (with_reducible repeat (first | refine blk_drewN ?_ _ | refine blk_drew ?_ | refine blk_alloc ?_ _)); exact BK164.out) hb); have n1_ := Aside0.mk (below_step (by repeat (first | (with_reducible first | exact HB.out | apply below_alloc | apply pw_below_drewN | apply below_drew1 | refine below_set ?_ GE164.out) | exact HB.out)) hb); have n2_ := Aside0.mk (hbox); have n3_ := Aside0.mk ((by rw [hg]; exact (below_size (by repeat (first | (with_reducible first | exact HB.out | apply below_alloc | apply pw_below_drewN | apply below_drew1 | refine below_set ?_ GE164.out) | exact HB.out))) : w.heap.size ≤ gb168)); have n4_ := Aside0.mk ((by rw [hg]; exact (below_size (by repeat (first | (with_reducible first | exact HB.out | apply below_alloc | apply pw_below_drewN | apply below_drew1 | refine below_set ?_ GE164.out) | exact HB.out))) : w.heap.size ≤ gb168)); have n5_ := Aside0.mk ((by rw [hg]; exact Nat.ne_of_lt (blk_lt (g := gb164) (o := .cells #[.int .i64 a1_0, .bool a1_1] 29 (0, 0)) (by (with_reducible repeat (first | refine blk_drewN ?_ _ | refine blk_drew ?_ | refine blk_alloc ?_ _)); exact BK164.out)) : gb164 ≠ gb168)); have n6_ := Aside0.mk ((by rw [hg]; exact Nat.ne_of_gt (blk_lt (g := gb164) (o := .cells #[.int .i64 a1_0, .bool a1_1] 29 (0, 0)) (by (with_reducible repeat (first | refine blk_drewN ?_ _ | refine blk_drew ?_ | refine blk_alloc ?_ _)); exact BK164.out)) : gb168 ≠ gb164)); clear BK164; clear HB; have BK164 := n0_; have HB := n1_; have BK168 := n2_; have GW168 := n3_; have GE168 := n4_; have NB164_168 := n5_; have NB168_164 := n6_; clear n0_ n1_ n2_ n3_ n4_ n5_ n6_; clear hb hbox hg; have hnb24 := NB168_164.out; have hnc24 := NB164_168.out; have hcz25_0 : w23.cell? ⟨gb168, 0, none⟩ = some (.int .i64 0) := (blk_cell BK168.out 0).trans rfl; have hcz25_1 : w23.cell? ⟨gb168, 1, none⟩ = some (.bool false) := (blk_cell BK168.out 1).trans rfl; have hfz25_0 := blk_frozen BK168.out 0; have hfz25_1 := blk_frozen BK168.out 1; have hcz26_0 : w23.cell? ⟨gb164, 0, none⟩ = some (.int .i64 a1_0) := (blk_cell BK164.out 0).trans rfl; have hcz26_1 : w23.cell? ⟨gb164, 1, none⟩ = some (.bool a1_1) := (blk_cell BK164.out 1).trans rfl; have hfz26_0 := blk_frozen BK164.out 0; have hfz26_1 := blk_frozen BK164.out 1))
      go_roundg k1
      case measure => have := HK1.out; omega
      case rel => exact ⟨(wrap64 (x5_1 + 1)), (by first | rfl | (simp; done) | (simp [*]; done)), H', ⟨by have := HK1.out; omega⟩, ⟨by (with_reducible repeat (first | refine blk_drewN ?_ _ | refine blk_drew ?_ | refine blk_alloc ?_ _)); refine blk_far ?_ NB164_168.out _; (with_reducible repeat (first | refine blk_drewN ?_ _ | refine blk_drew ?_ | refine blk_alloc ?_ _)); refine blk_far ?_ NB164_168.out _; (with_reducible repeat (first | refine blk_drewN ?_ _ | refine blk_drew ?_ | refine blk_alloc ?_ _)); exact BK164.out⟩, ⟨by repeat (first | (with_reducible first | exact HB.out | apply below_alloc | apply pw_below_drewN | apply below_drew1 | refine below_set ?_ GE164.out | refine below_set ?_ GE168.out) | exact HB.out)⟩⟩
    ·
     replace c6 := Bool.eq_false_iff.mpr c6; subst c6; have H1 : (spec_HexSyllable.l0 k1 a0 (wrap64 (x5_1 + 1)) a1_0 a1_1) = some r := by rw [if_neg (show ¬ (false = true) by decide)] at H; exact H
     clear H; have H := H1; clear H1; have H' := Aside0.mk H; clear H; go_wp2_with (first | ((with_reducible refine gate_callee (f := 40) rfl ?_); refine goesL_ (some 15) rfl rfl Tryd.func40 (by kernel_rfl) rfl #[.int .i64 a0, .int .i64 x5_1] rfl (by (try simp only [List.map_toArray, List.map_cons, List.map_nil]); first | done | rfl | (simp only [List.length_drop, List.length_take]; rfl)) ?_; (with_reducible refine (spec_HexTone.calls a0 x5_1 t165 t166 false _ A5.out).mono ?_); rintro e w27 ⟨rfl, hb⟩; refine ⟨_, rfl, ?_⟩; have n0_ := Aside0.mk (blk_below (g := gb164) (o := .cells #[.int .i64 a1_0, .bool a1_1] 29 (0, 0)) (by (with_reducible repeat (first | refine blk_drewN ?_ _ | refine blk_drew ?_ | refine blk_alloc ?_ _)); exact BK164.out) hb); have n1_ := Aside0.mk (below_step (by repeat (first | (with_reducible first | exact HB.out | apply below_alloc | apply pw_below_drewN | apply below_drew1 | refine below_set ?_ GE164.out) | exact HB.out)) hb); clear BK164; clear HB; have BK164 := n0_; have HB := n1_; clear n0_ n1_; (try clear hb); (try clear hb2); (try clear hk); (try clear hi)) | ((with_reducible refine gate_dst (N := 6) rfl ?_); refine box_event ?hg (N := 6) ?hd (cs := #[.int .i64 0, .bool false]) (t := 29) ?hr ?_; (case hd => rfl); (case hg => rfl); (case hr => first | (go_simp; done) | (go_simp; rfl)); intro gb168 hg w28 hbox hb; have n0_ := Aside0.mk (blk_below (g := gb164) (o := .cells #[.int .i64 a1_0, .bool a1_1] 29 (0, 0)) (by (with_reducible repeat (first | refine blk_drewN ?_ _ | refine blk_drew ?_ | refine blk_alloc ?_ _)); exact BK164.out) hb); have n1_ := Aside0.mk (below_step (by repeat (first | (with_reducible first | exact HB.out | apply below_alloc | apply pw_below_drewN | apply below_drew1 | refine below_set ?_ GE164.out) | exact HB.out)) hb); have n2_ := Aside0.mk (hbox); have n3_ := Aside0.mk ((by rw [hg]; exact (below_size (by repeat (first | (with_reducible first | exact HB.out | apply below_alloc | apply pw_below_drewN | apply below_drew1 | refine below_set ?_ GE164.out) | exact HB.out))) : w.heap.size ≤ gb168)); have n4_ := Aside0.mk ((by rw [hg]; exact (below_size (by repeat (first | (with_reducible first | exact HB.out | apply below_alloc | apply pw_below_drewN | apply below_drew1 | refine below_set ?_ GE164.out) | exact HB.out))) : w.heap.size ≤ gb168)); have n5_ := Aside0.mk ((by rw [hg]; exact Nat.ne_of_lt (blk_lt (g := gb164) (o := .cells #[.int .i64 a1_0, .bool a1_1] 29 (0, 0)) (by (with_reducible repeat (first | refine blk_drewN ?_ _ | refine blk_drew ?_ | refine blk_alloc ?_ _)); exact BK164.out)) : gb164 ≠ gb168)); have n6_ := Aside0.mk ((by rw [hg]; exact Nat.ne_of_gt (blk_lt (g := gb164) (o := .cells #[.int .i64 a1_0, .bool a1_1] 29 (0, 0)) (by (with_reducible repeat (first | refine blk_drewN ?_ _ | refine blk_drew ?_ | refine blk_alloc ?_ _)); exact BK164.out)) : gb168 ≠ gb164)); clear BK164; clear HB; have BK164 := n0_; have HB := n1_; have BK168 := n2_; have GW168 := n3_; have GE168 := n4_; have NB164_168 := n5_; have NB168_164 := n6_; clear n0_ n1_ n2_ n3_ n4_ n5_ n6_; clear hb hbox hg; have hnb29 := NB168_164.out; have hnc29 := NB164_168.out; have hcz30_0 : w28.cell? ⟨gb168, 0, none⟩ = some (.int .i64 0) := (blk_cell BK168.out 0).trans rfl; have hcz30_1 : w28.cell? ⟨gb168, 1, none⟩ = some (.bool false) := (blk_cell BK168.out 1).trans rfl; have hfz30_0 := blk_frozen BK168.out 0; have hfz30_1 := blk_frozen BK168.out 1))
     go_roundg k1
     case measure => have := HK1.out; omega
     case rel => exact ⟨(wrap64 (x5_1 + 1)), (by first | rfl | (simp; done) | (simp [*]; done)), H', ⟨by have := HK1.out; omega⟩, ⟨by (with_reducible repeat (first | refine blk_drewN ?_ _ | refine blk_drew ?_ | refine blk_alloc ?_ _)); refine blk_far ?_ NB164_168.out _; (with_reducible repeat (first | refine blk_drewN ?_ _ | refine blk_drew ?_ | refine blk_alloc ?_ _)); refine blk_far ?_ NB164_168.out _; (with_reducible repeat (first | refine blk_drewN ?_ _ | refine blk_drew ?_ | refine blk_alloc ?_ _)); exact BK164.out⟩, ⟨by repeat (first | (with_reducible first | exact HB.out | apply below_alloc | apply pw_below_drewN | apply below_drew1 | refine below_set ?_ GE164.out | refine below_set ?_ GE168.out) | exact HB.out)⟩⟩
   ·
    rw [if_neg c4] at H; have c4b0 : decide (x5_1 < 6) = false := decide_eq_false c4; clear c4; obtain rfl := Option.some.inj H; go_wp2; go_ret
    exact ⟨by first | rfl | (simp [errW_none, errW_some] <;> rfl) | (simp [*, errW_none, errW_some] <;> rfl), by repeat (first | (with_reducible first | exact HB.out | apply below_alloc | apply pw_below_drewN | apply below_drew1 | refine below_set ?_ GE164.out) | exact HB.out)⟩

end Go.Proofs.YtiagfjbngpbejaaDoor.PFnExactSingBest
namespace Go.Proofs.YtiagfjbngpbejaaDoor.PFnExactSingBest
open Go.RowKit Go.Proofs.YtiagfjbngpbejaaDoorW.PrintWords Go.Proofs.YtiagfjbngpbejaaDoorW.PrintLast Go.Proofs.YtiagfjbngpbejaaDoorW.PrintMore
attribute [local go_sem] max2_int min2_int max_two min_two max_three min_three max_four min_four   -- for this text's walks alone
set_option linter.unusedVariables false
set_option linter.unusedSimpArgs false

def spec_HexAll.l0 : Nat → List Int → Int → Int → Bool → Option (List Int)
 | 0, _, _, _, _ => none
 | k + 1, x3, x4, x171000, x171001 => if x4 ≤ 20 then ((spec_HexSyllable.f k x4 x171000 x171001).bind fun t174 => (if t174 ≥ 0 then (if x3.length < 17592186044416 then (spec_HexAll.l0 k (x3 ++ [x4]) (wrap64 (x4 + 1)) x171000 x171001) else (none)) else (spec_HexAll.l0 k x3 (wrap64 (x4 + 1)) x171000 x171001))) else (some x3)
def spec_HexAll.f (k : Nat) (a0_0 : Int) (a0_1 : Bool) : Option (List Int) := spec_HexAll.l0 k (([] : List Int)) 0 a0_0 a0_1
theorem spec_HexAll.mono_l : ∀ k, (∀ y0 y1 y2 y3, LeO (spec_HexAll.l0 k y0 y1 y2 y3) (spec_HexAll.l0 (k + 1) y0 y1 y2 y3))
 | 0 => fun _ _ _ _ r h => by simp [spec_HexAll.l0] at h
 | k + 1 => by
  have ih0 := spec_HexAll.mono_l k
  ·
   intro y0 y1 y2 y3; unfold spec_HexAll.l0; repeat' first
   | (with_reducible exact ih0 _ _ _ _)
   | (with_reducible exact spec_HexSyllable.mono _ _ _ _)
   | (with_reducible exact LeO.refl _)
   | (with_reducible exact LeO.none _)
   | (with_reducible refine LeO.ite ?_ ?_)
   | (with_reducible refine LeO.bind ?_ (fun _ => ?_))
   | exact ih0 _ _ _ _
   | exact spec_HexSyllable.mono _ _ _ _
   | exact LeO.none _
   | refine LeO.ite ?_ ?_
   | refine LeO.bind ?_ (fun _ => ?_)
theorem spec_HexAll.mono : ∀ a0 a1 k, LeO (spec_HexAll.f k a0 a1) (spec_HexAll.f (k + 1) a0 a1) := by
 intro a0 a1 k; have ih0 := spec_HexAll.mono_l k; unfold spec_HexAll.f; repeat' first
  | (with_reducible exact ih0 _ _ _ _)
  | (with_reducible exact spec_HexSyllable.mono _ _ _ _)
  | (with_reducible exact LeO.refl _)
  | (with_reducible exact LeO.none _)
  | (with_reducible refine LeO.ite ?_ ?_)
  | (with_reducible refine LeO.bind ?_ (fun _ => ?_))
  | exact ih0 _ _ _ _
  | exact spec_HexSyllable.mono _ _ _ _
  | exact LeO.none _
  | refine LeO.ite ?_ ?_
  | refine LeO.bind ?_ (fun _ => ?_)
set_option maxHeartbeats 8000000 in
set_option maxRecDepth 100000 in
theorem spec_HexAll.calls (k : Nat) (a0_0 : Int) (a0_1 : Bool) (r : List Int) (w : World) (h : spec_HexAll.f k a0_0 a0_1 = some r) :
 Calls Tryd.prog 22 #[.agg #[.int .i64 a0_0, .bool a0_1]] w fun e w' => ∃ v0_ : Value, e = .returned (v0_) ∧ Kd.R (Kd.int .i64) 3 w' w.heap.size (fun _ => True) v0_ r ∧ Below w.heap.size w w' := by
 have hu29 := Tryd.underlying29; have HB := Aside0.mk (Below.refl w.heap.size w); have H : (spec_HexAll.l0 k (([] : List Int)) 0 a0_0 a0_1) = some r := h; clear h; obtain ⟨y171, hy171⟩ : ∃ y_ : List Int, y_ = (([] : List Int)) := ⟨_, rfl⟩
 replace H : (spec_HexAll.l0 k y171 0 a0_0 a0_1) = some r := by first | (rw [hy171]; with_reducible exact H) | (have H2_ := (Option.bind_some _ _).symm.trans H; rw [hy171]; with_reducible exact H2_) | (have H2_ := (Option.bind_some _ _).symm.trans H; with_reducible exact H2_) | with_reducible exact H | (rw [hy171]; exact H) | exact H
 have Ny171 := Aside0.mk hy171; clear hy171; have H' := Aside0.mk H; clear H; go_enter Tryd.func22, Tryd.ntmps22
 go_wp2_with (first | ((with_reducible refine gate_dst (N := 1) rfl ?_); refine box_event ?hg (N := 1) ?hd (cs := #[.int .i64 a0_0, .bool a0_1]) (t := 29) ?hr ?_; (case hd => rfl); (case hg => rfl); (case hr => first | (go_simp; done) | (go_simp; rfl)); intro gb170 hg w2 hbox hb; have n0_ := Aside0.mk (below_step (by repeat (first | (with_reducible first | exact HB.out | apply below_alloc | apply pw_below_drewN | apply below_drew1) | exact HB.out)) hb); have n1_ := Aside0.mk (hbox); have n2_ := Aside0.mk ((by rw [hg]; exact (below_size (by repeat (first | (with_reducible first | exact HB.out | apply below_alloc | apply pw_below_drewN | apply below_drew1) | exact HB.out))) : w.heap.size ≤ gb170)); have n3_ := Aside0.mk ((by rw [hg]; exact (below_size (by repeat (first | (with_reducible first | exact HB.out | apply below_alloc | apply pw_below_drewN | apply below_drew1) | exact HB.out))) : w.heap.size ≤ gb170)); clear HB; have HB := n0_; have BK170 := n1_; have GW170 := n2_; have GE170 := n3_; clear n0_ n1_ n2_ n3_; clear hb hbox hg) | ((with_reducible refine gate_dst (N := 5) rfl ?_); refine Kd.R_lit (Kd.int .i64) _ 3 ?hg (N := 5) ?hd (xs := ([] : List Int)) (inner := []) (ok := fun _ => True) (okp := fun _ => True) ?hr ?hp (fun _ hk => hk) trivial (Below.refl _ _) (Nat.le_refl _) (by simp) ?_; (case hd => rfl); (case hg => rfl); (case hr => first | (go_simp; done) | (go_simp; rfl)); (case hp => exact (Reps.none _ _)); intro v172 w3 ho4 hb hg_ hnew_; clear hg_ hnew_; (first | rw [← Ny171.out] at ho4 | (simp only [Int.reduceToNat] at ho4; rw [← Ny171.out] at ho4)); have n0_ := Aside0.mk (Kd.R_lower ho4 (below_size (by repeat (first | (with_reducible first | exact HB.out | apply below_alloc | apply pw_below_drewN | apply below_drew1 | refine below_set ?_ GE170.out) | exact HB.out)))); have n1_ := Aside0.mk (blk_below (g := gb170) (o := .cells #[.int .i64 a0_0, .bool a0_1] 29 (0, 0)) (by (with_reducible repeat (first | refine blk_drewN ?_ _ | refine blk_drew ?_ | refine blk_alloc ?_ _)); exact BK170.out) hb); have n2_ := Aside0.mk (below_step (by repeat (first | (with_reducible first | exact HB.out | apply below_alloc | apply pw_below_drewN | apply below_drew1 | refine below_set ?_ GE170.out) | exact HB.out)) hb); clear BK170; clear HB; have HO173 := n0_; have BK170 := n1_; have HB := n2_; clear n0_ n1_ n2_; clear hb ho4))
 go_loopg [3, 4] k (fun kq v3 v4 w' => ∃ (x3_1 : List Int) (x4_1 : Int), v4 = .int .i64 x4_1 ∧ Aside0 (spec_HexAll.l0 kq x3_1 x4_1 a0_0 a0_1 = some r) ∧ Aside0 (kq ≤ k) ∧ Aside0 (Kd.R (Kd.int .i64) 3 w' w.heap.size (fun _ => True) v3 x3_1) ∧ Aside0 (w'.heap[gb170]? = some (.cells #[.int .i64 a0_0, .bool a0_1] 29 (0, 0))) ∧ Aside0 (Below w.heap.size w w'))
 case atStart => exact ⟨(y171), (0), (by first | rfl | (simp; done) | (simp [*]; done)), H', ⟨Nat.le_refl _⟩, ⟨by (with_reducible repeat (first | apply Kd.R_alloc | apply Kd.R_drewN | apply Kd.R_drew)); exact HO173.out⟩, ⟨by (with_reducible repeat (first | refine blk_drewN ?_ _ | refine blk_drew ?_ | refine blk_alloc ?_ _)); exact BK170.out⟩, ⟨by repeat (first | (with_reducible first | exact HB.out | apply below_alloc | apply pw_below_drewN | apply below_drew1 | refine below_set ?_ GE170.out) | exact HB.out)⟩⟩
 case round =>
  clear H'; try clear c2
  try clear p2
  obtain ⟨x3_1, x4_1, rfl, HA, HK1, HO_3, BK170, HB⟩ := hrel; cases gk with
  | zero => exact absurd HA.out (by simp [spec_HexAll.l0])
  | succ k1 =>
   have H := HA.out; clear HA; simp only [spec_HexAll.l0] at H; by_cases c5 : x4_1 ≤ 20
   ·
    rw [if_pos c5] at H; have c5b0 : decide (x4_1 ≤ 20) = true := decide_eq_true c5; clear c5; replace H := Option.bind_eq_some_iff.mp H; obtain ⟨t174, A60, H⟩ := H; replace H : (if t174 ≥ 0 then (if x3_1.length < 17592186044416 then (spec_HexAll.l0 k1 (x3_1 ++ [x4_1]) (wrap64 (x4_1 + 1)) a0_0 a0_1) else (none)) else (spec_HexAll.l0 k1 x3_1 (wrap64 (x4_1 + 1)) a0_0 a0_1)) = some r := H; have A6 := Aside0.mk A60; clear A60; by_cases c7 : t174 ≥ 0
    ·
     rw [if_pos c7] at H; have c7b0 : decide (0 ≤ t174) = true := decide_eq_true c7; clear c7; by_cases c8 : x3_1.length < 17592186044416
     ·
      rw [if_pos c8] at H; have LMc8 := Aside0.mk c8; clear c8; obtain ⟨y175, hy175⟩ : ∃ y_ : List Int, y_ = (x3_1 ++ [x4_1]) := ⟨_, rfl⟩
      replace H : (spec_HexAll.l0 k1 y175 (wrap64 (x4_1 + 1)) a0_0 a0_1) = some r := by first | (rw [hy175]; with_reducible exact H) | (have H2_ := (Option.bind_some _ _).symm.trans H; rw [hy175]; with_reducible exact H2_) | (have H2_ := (Option.bind_some _ _).symm.trans H; with_reducible exact H2_) | with_reducible exact H | (rw [hy175]; exact H) | exact H
      have Ny175 := Aside0.mk hy175; clear hy175; have H' := Aside0.mk H; clear H; have hcz9_0 : wr.cell? ⟨gb170, 0, none⟩ = some (.int .i64 a0_0) := (blk_cell BK170.out 0).trans rfl; have hcz9_1 : wr.cell? ⟨gb170, 1, none⟩ = some (.bool a0_1) := (blk_cell BK170.out 1).trans rfl; have hfz9_0 := blk_frozen BK170.out 0; have hfz9_1 := blk_frozen BK170.out 1; go_wp2_with (first | ((with_reducible refine gate_callee (f := 34) rfl ?_); refine goesL_ (some 12) rfl rfl Tryd.func34 (by kernel_rfl) rfl #[.int .i64 x4_1, .agg #[.int .i64 a0_0, .bool a0_1]] rfl (by (try simp only [List.map_toArray, List.map_cons, List.map_nil]); first | done | rfl | (simp only [List.length_drop, List.length_take]; rfl)) ?_; (with_reducible refine (spec_HexSyllable.calls k1 x4_1 a0_0 a0_1 t174 _ A6.out).mono ?_); rintro e w10 ⟨rfl, hb⟩; refine ⟨_, rfl, ?_⟩; have n0_ := Aside0.mk (Kd.R_below (by (with_reducible repeat (first | apply Kd.R_alloc | apply Kd.R_drewN | apply Kd.R_drew)); exact HO_3.out) hb); have n1_ := Aside0.mk (blk_below (g := gb170) (o := .cells #[.int .i64 a0_0, .bool a0_1] 29 (0, 0)) (by (with_reducible repeat (first | refine blk_drewN ?_ _ | refine blk_drew ?_ | refine blk_alloc ?_ _)); exact BK170.out) hb); have n2_ := Aside0.mk (below_step (by repeat (first | (with_reducible first | exact HB.out | apply below_alloc | apply pw_below_drewN | apply below_drew1 | refine below_set ?_ GE170.out) | exact HB.out)) hb); clear HO_3; clear BK170; clear HB; have HO_3 := n0_; have BK170 := n1_; have HB := n2_; clear n0_ n1_ n2_; (try clear hb); (try clear hb2); (try clear hk); (try clear hi)) | ((with_reducible refine gate_builtin (b := .append) (xs := #[.tmp 14, .tmp 16]) rfl ?_); at_builtin; refine Kd.R_append (Kd.int .i64) (w0 := w) w.heap.size rfl (.tmp 14) (.tmp 16) 26 3 (.int .i64 0) 8 rfl Tryd.underlying26 info3 rfl (by decide) (by omega) u3 x3_1 x4_1 [.int .i64 x4_1] (fun _ => True) (fun _ => False) rfl rfl ?aP (fun _ hk => hk.elim) ?aF ?aO ?aB ?aS ?aL ?_; (case aP => exact rfl); (case aB => exact (by repeat (first | (with_reducible first | exact HB.out | apply below_alloc | apply pw_below_drewN | apply below_drew1 | refine below_set ?_ GE170.out) | exact HB.out))); (case aF => exact (fun _ _ => trivial)); (case aO => exact (by (with_reducible repeat (first | apply Kd.R_alloc | apply Kd.R_drewN | apply Kd.R_drew)); exact HO_3.out)); (case aS => exact (below_size (by repeat (first | (with_reducible first | exact HB.out | apply below_alloc | apply pw_below_drewN | apply below_drew1 | refine below_set ?_ GE170.out) | exact HB.out)))); (case aL => have := LMc8.out; omega); intro v176 w11 ho hb hg hat; rw [← Ny175.out] at ho; have n0_ := Aside0.mk (blk_grown (g := gb170) (o := .cells #[.int .i64 a0_0, .bool a0_1] 29 (0, 0)) (by (with_reducible repeat (first | refine blk_drewN ?_ _ | refine blk_drew ?_ | refine blk_alloc ?_ _)); exact BK170.out) hg (Kd.R_ne HO_3.out BK170.out (by decide))); have n1_ := Aside0.mk (hb); have n2_ := Aside0.mk (ho); clear BK170; clear HB; clear HO_3; have BK170 := n0_; have HB := n1_; have HO177 := n2_; clear n0_ n1_ n2_; clear ho hb hg hat))
      go_roundg k1
      case measure => have := HK1.out; omega
      case rel => exact ⟨(y175), (wrap64 (x4_1 + 1)), (by first | rfl | (simp; done) | (simp [*]; done)), H', ⟨by have := HK1.out; omega⟩, ⟨by (with_reducible repeat (first | apply Kd.R_alloc | apply Kd.R_drewN | apply Kd.R_drew)); exact HO177.out⟩, ⟨by (with_reducible repeat (first | refine blk_drewN ?_ _ | refine blk_drew ?_ | refine blk_alloc ?_ _)); exact BK170.out⟩, ⟨by repeat (first | (with_reducible first | exact HB.out | apply below_alloc | apply pw_below_drewN | apply below_drew1 | refine below_set ?_ GE170.out) | exact HB.out)⟩⟩
     ·
      rw [if_neg c8] at H; exact absurd H (by simp)
    ·
     rw [if_neg c7] at H; have c7b0 : decide (0 ≤ t174) = false := decide_eq_false c7; clear c7; have H' := Aside0.mk H; clear H; have hcz12_0 : wr.cell? ⟨gb170, 0, none⟩ = some (.int .i64 a0_0) := (blk_cell BK170.out 0).trans rfl; have hcz12_1 : wr.cell? ⟨gb170, 1, none⟩ = some (.bool a0_1) := (blk_cell BK170.out 1).trans rfl; have hfz12_0 := blk_frozen BK170.out 0; have hfz12_1 := blk_frozen BK170.out 1; go_wp2_with (first | ((with_reducible refine gate_callee (f := 34) rfl ?_); refine goesL_ (some 12) rfl rfl Tryd.func34 (by kernel_rfl) rfl #[.int .i64 x4_1, .agg #[.int .i64 a0_0, .bool a0_1]] rfl (by (try simp only [List.map_toArray, List.map_cons, List.map_nil]); first | done | rfl | (simp only [List.length_drop, List.length_take]; rfl)) ?_; (with_reducible refine (spec_HexSyllable.calls k1 x4_1 a0_0 a0_1 t174 _ A6.out).mono ?_); rintro e w13 ⟨rfl, hb⟩; refine ⟨_, rfl, ?_⟩; have n0_ := Aside0.mk (Kd.R_below (by (with_reducible repeat (first | apply Kd.R_alloc | apply Kd.R_drewN | apply Kd.R_drew)); exact HO_3.out) hb); have n1_ := Aside0.mk (blk_below (g := gb170) (o := .cells #[.int .i64 a0_0, .bool a0_1] 29 (0, 0)) (by (with_reducible repeat (first | refine blk_drewN ?_ _ | refine blk_drew ?_ | refine blk_alloc ?_ _)); exact BK170.out) hb); have n2_ := Aside0.mk (below_step (by repeat (first | (with_reducible first | exact HB.out | apply below_alloc | apply pw_below_drewN | apply below_drew1 | refine below_set ?_ GE170.out) | exact HB.out)) hb); clear HO_3; clear BK170; clear HB; have HO_3 := n0_; have BK170 := n1_; have HB := n2_; clear n0_ n1_ n2_; (try clear hb); (try clear hb2); (try clear hk); (try clear hi)))
     go_roundg k1
     case measure => have := HK1.out; omega
     case rel => exact ⟨(x3_1), (wrap64 (x4_1 + 1)), (by first | rfl | (simp; done) | (simp [*]; done)), H', ⟨by have := HK1.out; omega⟩, ⟨by (with_reducible repeat (first | apply Kd.R_alloc | apply Kd.R_drewN | apply Kd.R_drew)); exact HO_3.out⟩, ⟨by (with_reducible repeat (first | refine blk_drewN ?_ _ | refine blk_drew ?_ | refine blk_alloc ?_ _)); exact BK170.out⟩, ⟨by repeat (first | (with_reducible first | exact HB.out | apply below_alloc | apply pw_below_drewN | apply below_drew1 | refine below_set ?_ GE170.out) | exact HB.out)⟩⟩
   ·
    rw [if_neg c5] at H; have c5b0 : decide (x4_1 ≤ 20) = false := decide_eq_false c5; clear c5; obtain rfl := Option.some.inj H; go_wp2; go_ret
    exact ⟨_, by first | rfl | (simp [errW_none, errW_some] <;> rfl) | (simp [*, errW_none, errW_some] <;> rfl), by (with_reducible repeat (first | apply Kd.R_alloc | apply Kd.R_drewN | apply Kd.R_drew)); exact HO_3.out, by repeat (first | (with_reducible first | exact HB.out | apply below_alloc | apply pw_below_drewN | apply below_drew1 | refine below_set ?_ GE170.out) | exact HB.out)⟩

end Go.Proofs.YtiagfjbngpbejaaDoor.PFnExactSingBest
namespace Go.Proofs.YtiagfjbngpbejaaDoor.Pure
set_option linter.unusedVariables false
set_option linter.unusedSimpArgs false
open Go Go.RowKit Go.Proofs.YtiagfjbngpbejaaDoor.PFnExactSingBest Go.Proofs.YtiagfjbngpbejaaDoorW.PrintWords Go.Proofs.YtiagfjbngpbejaaDoorW.PrintLast Go.Proofs.YtiagfjbngpbejaaDoorW.PrintMore

theorem spec_l6In_eq (a b c : Int) : spec_l6In.f a b c = some (decide (b ≤ a ∧ a ≤ c)) := by
 unfold spec_l6In.f
 by_cases h : a ≥ b
 ·
  rw [if_pos h]; simp [show b ≤ a from h]
 ·
  rw [if_neg h]; simp [show ¬ b ≤ a from h]

theorem spec_ToneValid_eq (a : Int) (b : Bool) : spec_ToneValid.f a b = some (toneOk ⟨a, b⟩) := by
 unfold spec_ToneValid.f toneOk
 rw [spec_l6In_eq]
 by_cases h : 0 ≤ a ∧ a ≤ 20
 ·
  cases b <;> simp [h, spec_l1Letter.f]
 ·
  simp [h]
theorem spec_MelodyValid_ev (m : List S29) (hm : m.length ≤ 1000000000000) : Ev (fun k => spec_MelodyValid.f k m) (melOk m) := by
 unfold spec_MelodyValid.f
 have := Ev.over z29 m (fun k (_ : Unit) i => spec_MelodyValid.l0 k m i) (fun _ l => l.all toneOk && decide (m.length ≤ 24)) (fun _ _ => True) (by
  intro s _
  refine Ev.succ ?_
  simp only [spec_MelodyValid.l0]
  refine Ev.eqr (Ev.neg (by omega) (Ev.now _)) ?_
  simp; omega) (by
  intro s i rest _ hi _ ih
  refine Ev.succ ?_
  simp only [spec_MelodyValid.l0]
  refine Ev.pos (by omega) (Ev.pos (by omega) (Ev.conb (spec_ToneValid_eq _ _) ?_))
  show Ev _ (toneOk (rd_T29 m i) && _ && _)
  cases ht : toneOk (rd_T29 m i)
  ·
   exact Ev.neg (by simp [ht]) (Ev.now _)
  ·
   refine Ev.pos (by simp [ht]) ?_
   rw [w64 (by omega) (by omega)]
   simpa using ih () trivial) 0 () (Nat.zero_le _) trivial
 refine Ev.eqr (by simpa using this) ?_
 unfold melOk
 rw [Bool.and_comm]

def hexBrute (p : S29 → Bool) : Bool := (List.range 21).all fun i => p ⟨i, false⟩ && p ⟨i, true⟩
theorem hexBrute_ok {p : S29 → Bool} (h : hexBrute p = true) {a : S29} (ha : toneOk a = true) : p a = true := by
 have b1 : 0 ≤ a.f0 ∧ a.f0 ≤ 20 := by
  unfold toneOk at ha
  simp only [Bool.and_eq_true, decide_eq_true_eq] at ha
  exact ha.1
 obtain ⟨x, s⟩ := a
 obtain ⟨i, rfl⟩ := Int.eq_ofNat_of_zero_le b1.1
 have b1 : (0 : Int) ≤ (i : Int) ∧ (i : Int) ≤ 20 := b1
 unfold hexBrute at h
 have h1 := List.all_eq_true.1 h i (List.mem_range.2 (by omega))
 simp only [Bool.and_eq_true] at h1
 cases s
 ·
  exact h1.1
 ·
  exact h1.2
def hexP1 (t : S29) : Bool := !(toneOk t) || (decide (spec_HexAll.f 40 t.f0 t.f1 = some (hexAll t)) && decide ((hexAll t).length ≤ 3))
theorem hexP1_holds : hexBrute hexP1 = true := by kernel_rfl
theorem hexP1_at {t : S29} (ht : toneOk t = true) : spec_HexAll.f 40 t.f0 t.f1 = some (hexAll t) ∧ (hexAll t).length ≤ 3 := by
 have h := hexBrute_ok hexP1_holds ht
 unfold hexP1 at h
 rw [ht] at h
 simp only [Bool.not_true, Bool.false_or, Bool.and_eq_true, decide_eq_true_eq] at h
 exact h
theorem spec_HexAll_ev (t : S29) (ht : toneOk t = true) : Ev (fun k => spec_HexAll.f k t.f0 t.f1) (hexAll t) := Ev.of (spec_HexAll.mono _ _) (hexP1_at ht).1

end Go.Proofs.YtiagfjbngpbejaaDoor.Pure
