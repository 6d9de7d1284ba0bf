/- Lemmas on the printed functions for the law FnExactGroupsCut. -/
import Derived.Test.YtkahgjejebhgnaaQFnExactGroupsCutq0
import Derived.Deep.RegionHeld3
import Derived.BigRegion
import Derived.Deep.Slices
import Derived.Laws.CopyOwn
namespace Go.Proofs.Ytkahgjejebhgnaa.Pure
set_option linter.unusedVariables false
set_option linter.unusedSimpArgs false
open Go Go.RowKit Go.Proofs.Ytkahgjejebhgnaa.PFnExactGroupsCut Go.Proofs.YtkahgjejebhgnaaW.PrintWords Go.Proofs.YtkahgjejebhgnaaW.PrintLast Go.Proofs.YtkahgjejebhgnaaW.PrintMore

/-! copy into a row of one's own, whole -/
theorem ones_of {α : Type} {d : Kd α} {W : World} {base : Nat} {okp : Nat → Prop} {ys : List α} {news : List Value} (hs0 : 0 < d.sz) (hnM : Reps (d.M W base okp) d.sz ys news) : ∀ u ∈ news, u.oneCell' = true := by
  intro u hu
  obtain ⟨q, hq, rfl⟩ := List.mem_iff_getElem.1 hu
  have hql : q / d.sz < ys.length := by
    rw [Nat.div_lt_iff_lt_mul hs0]
    have := hnM.1
    omega
  have hc := hnM.2 (q / d.sz) _ (List.getElem?_eq_getElem hql)
  refine d.K_one (d.K_of_M hc) _ ?_
  rw [List.mem_iff_getElem?]
  exact ⟨q % d.sz, by rw [List.getElem?_take, if_pos (Nat.mod_lt _ hs0), List.getElem?_drop, Nat.mul_comm, Nat.div_add_mod, List.getElem?_eq_getElem hq]⟩
theorem R_copy_all {P : Program} {ops : Array Oper} {o : Oper} {rest : List Oper} {a : Act} {Q : Exit → Act → World → Prop} {α : Type} (d : Kd α) {w0 W : World} (base : Nat) (hgd : o.guard = none) (s x : Operand) (t e : TypeId)
    (ho : o.op = .call { callee := .builtin .copy, args := #[s, x], argTypes := #[t, t] }) (ht : P.underlying t = some (.slice e)) (hsz : (P.info? e).map (·.size) = some d.sz) (hs0 : 0 < d.sz)
    (v : Value) (zs xs : List α) (hl : zs.length = xs.length) (A : Option Addr) (c : Nat) (hv : a.eval s = v) (hx : a.eval x = .slice A xs.length c)
    (HO : d.R e W base (fun _ => True) v zs) (HR : d.C W A xs.length xs) (hKM : ∀ p cs, d.K W p cs → d.M W base (fun _ => False) p cs) (HB : Below base w0 W)
    (h : ∀ w1, d.R e w1 base (fun _ => True) v xs → Below base w0 w1 → wpList P ops Q rest (a.put o.dst (goInt xs.length)) w1) : wpList P ops Q (o :: rest) a W := by
  obtain ⟨i, hi, hisz⟩ := Option.map_eq_some_iff.1 hsz
  have hrun : ∃ w1, (Builtin.copy_ #[t, t] o.type #[v, .slice A xs.length c]).run P W = .ok (goInt xs.length) w1 ∧ d.R e w1 base (fun _ => True) v xs ∧ Below base w0 w1 := by
    obtain ⟨hok, inner, hown, hr⟩ := HO
    by_cases h0 : xs.length = 0
    · obtain rfl : xs = [] := List.eq_nil_of_length_eq_zero h0
      obtain rfl : zs = [] := List.eq_nil_of_length_eq_zero (by simpa using hl)
      have hl0 : ∀ (y : Addr), (loadCells y 0).run P W = .ok #[] W := fun y => by simpa using run_loadCells_list (P := P) W y [] (by simp)
      refine ⟨W, ?_, ⟨hok, inner, hown, hr⟩, HB⟩
      rcases hown.2 with ⟨rfl, _⟩ | ⟨g, cap, cur, rfl, _⟩ <;> cases A <;> simp [Builtin.copy_, run_underlying ht, Builtin.lenOf, Builtin.firstCells, sizeOf, typeInfo, hi, storeCells, hl0]
    · obtain ⟨ad, rfl, hcc⟩ := HR.2.2 (by omega)
      obtain ⟨news, hnr, hnc⟩ := ReadsRow.inner_ HR
      have hnM : Reps (d.M W base (fun _ => False)) d.sz xs news := hnr.imp_ (fun p c hp => hKM p c hp)
      have hone := ones_of hs0 hnM
      rcases hown.2 with ⟨rfl, hz⟩ | ⟨g, cap, cur, rfl, hg, hh, hncap, hcm, hcs, htk⟩
      · omega
      · have hfit : news.length ≤ cur.size := by
          rw [hnM.1, hcs, ← hl]
          exact Nat.mul_le_mul_right _ hncap
        have hst := run_storeCells_at P g 0 e news 0 cur W hh (by omega) hone
        have hld := run_loadCells_list (P := P) W ad news hnc
        have hnl : news.length = xs.length * d.sz := hnM.1
        refine ⟨W.setRow g (cur.toList.take 0 ++ news ++ cur.toList.drop (0 + 0 + news.length)).toArray, ?_, ⟨fun _ _ => trivial, news, ?_, ?_⟩, below_setRow HB hg _⟩
        · rw [hnl] at hld
          simp [Builtin.copy_, run_underlying ht, Builtin.lenOf, Builtin.firstCells, sizeOf, typeInfo, hi, hisz, hl, hld, hst]
        · refine ⟨hnl, .inr ⟨g, cap, _, by rw [hl], hg, setRow_heap W g cur _ e _ hh, by omega, hcm, ?_, ?_⟩⟩
          · simp only [List.take_zero, List.nil_append, List.size_toArray, List.length_append, List.length_drop, Array.length_toList]
            omega
          · simp only [List.take_zero, List.nil_append]
            rw [← hnl, List.take_append_of_le_length (Nat.le_refl _), List.take_length]
        · exact hnM.imp_ (fun p c hp => d.M_mono (fun k hk => hk.elim) (d.M_move (fun k hk => hk.elim) hp))
  obtain ⟨w1, hr1, h1, hb1⟩ := hrun
  refine wpList_plain hgd fun K hK => ?_
  unfold Oper.wp execOp
  simp only [ho, resolve, invoke, builtin, Sem.run_bind, Sem.run_pure, Result.andThen_ok, List.map_toArray, List.map_cons, List.map_nil, hv, hx, hr1]
  exact hK _ _ (h w1 h1 hb1)

theorem tone_heap : Kd.Heap k67 := Kd.heap_iso _ (Kd.heap_pair (Kd.heap_int .i64) Kd.heap_bool)
set_option maxHeartbeats 4000000 in
set_option maxRecDepth 100000 in
theorem impl_copiedTones_calls (m : List S67) (A0 : Option Addr) (c0 : Nat) (w : World) (hr0 : Kd.C k67 w A0 m.length m) (hc0 : m.length ≤ c0) (hm : m.length ≤ 1000000000000) :
    Calls Try.prog 50 #[.slice A0 m.length c0] w fun e w' => ∃ v, e = .returned v ∧ Kd.R k67 67 w' w.heap.size (fun _ => True) v m ∧ Below w.heap.size w w' := by
  have HR0 := Aside0.mk hr0
  have HC0 := Aside0.mk hc0
  clear hr0 hc0
  go_enter Try.func50, Try.ntmps50
  go_wp2_with (first
    | ((with_reducible refine gate_dst (N := 6) rfl ?_); refine Kd.R_make k67 _ 67 rfl (N := 6) rfl 29 _ _ rfl (m.length : Int) rfl rfl Try.underlying29 (.agg #[(.int .i64 0), (.bool false)]) 16 info67 rfl (by decide) (by omega) z67 (ok := fun _ => True) (okp := fun _ => True) (k67_mkM _ _ _ z67) (fun _ hk => hk) trivial (by omega) (by omega) (Below.refl _ _) (Nat.le_refl _) ?_; intro v1 w1 ho1 hb1 hg1 _)
    | ((with_reducible refine gate_builtin (b := .copy) (xs := #[.tmp 7, .tmp 8]) rfl ?_); go_loud (refine R_copy_all k67 w.heap.size rfl (.tmp 7) (.tmp 8) 29 67 rfl Try.underlying29 (by have h := congrArg (Option.map (fun x => x.2.1)) info67; rw [Option.map_map] at h; exact h) (by decide) v1 (List.replicate (m.length : Int).toNat z67) m (by simp) A0 c0 rfl rfl ho1 (Kd.C_below HR0.out hb1) (fun p c h => by rw [k67_open h]; exact k67_mkM _ _ _ p) hb1 ?_); intro w2 ho2 hb2))
  go_ret
  exact ⟨_, rfl, ho2, hb2⟩
set_option maxHeartbeats 4000000 in
set_option maxRecDepth 100000 in
theorem impl_GroupsCut_calls (m : List S67) (g : List S65) (k : Int) (A0 : Option Addr) (c0 : Nat) (A1 : Option Addr) (c1 : Nat) (w : World) (hr0 : Kd.C k67 w A0 m.length m) (hc0 : m.length ≤ c0) (hr1 : Kd.C k65 w A1 g.length g) (hc1 : g.length ≤ c1) (hg : g.length ≤ 1000000000000) :
    Calls Try.prog 21 #[.slice A0 m.length c0, .slice A1 g.length c1, .int .i64 k] w fun e w' => ∃ v, e = .returned (.tuple #[v, .bool (gcut m g k).2]) ∧ Kd.R k67 67 w' w.heap.size (fun _ => True) v (gcut m g k).1 ∧ Below w.heap.size w w' := by
  obtain ⟨kk, hv⟩ := Ev.rounds (impl_groupsOf_ev m g hg)
  replace hv : impl_groupsOf.f kk m g = some (gof m g) := hv
  have HR0 := Aside0.mk hr0
  have HC0 := Aside0.mk hc0
  have HR1 := Aside0.mk hr1
  have HC1 := Aside0.mk hc1
  clear hr0 hc0 hr1 hc1
  obtain ⟨gr, hgr⟩ : ∃ gr, gof m g = (gr, gOk m g) := ⟨(gof m g).1, by rw [← gof_ok]⟩
  rw [hgr] at hv
  cases hok : gOk m g
  · have hgj : gcut m g k = ([], false) := by unfold gcut; rw [if_neg (fun h => by rw [hok] at h; exact absurd h.1 (by simp))]
    rw [hgj]
    rw [hok] at hv
    have HV := Aside0.mk hv
    clear hgj hok hv hgr
    go_enter Try.func21, Try.ntmps21
    go_wp2_with (go_at_call 49; refine (impl_groupsOf.calls kk (fun k_ => k_ < w.heap.size) _ _ m _ _ g gr false _ (Kd.V_mk HC0.out (Kd.C_F tone_heap HR0.out)) HR1.out HC1.out HV.out).mono ?_; rintro e w1 ⟨v0, rfl, hn1, hb1⟩; obtain ⟨B0, d0, rfl⟩ := Kd.N_slice hn1)
    go_ret2
    exact ⟨_, rfl, Kd.R_nil _ _ _ _ _, hb1⟩
  rw [hok] at hv
  have HV := Aside0.mk hv
  have hat : gr.length = g.length ∧ ∀ i, i < g.length → (gr.getD i z80).f0 = (m.drop (total (g.take i)).toNat).take (g.getD i z65).f0.toNat := by
    have e : gof m g = goG [] m g := by unfold gof; rw [if_pos (gOk_mel hok)]
    rw [e] at hgr
    obtain ⟨h1, t, h2, h3⟩ := goG_at g [] m (by rw [hgr, hok])
    rw [hgr] at h1 h2
    simp only [List.nil_append, List.length_nil, Nat.zero_add] at h1 h2
    subst h2
    exact ⟨h1, h3⟩
  have HOK := Aside0.mk hok
  have hml := melOk_len (gOk_mel hok)
  clear hv hgr hok
  obtain ⟨hl, hat⟩ := hat
  have HL := Aside0.mk hl
  by_cases h0 : k < 0
  · have hgj : gcut m g k = ([], false) := by unfold gcut; rw [if_neg (fun h => by omega)]
    rw [hgj]
    have d1 : decide (k < 0) = true := decide_eq_true h0
    clear hgj h0 hat
    go_enter Try.func21, Try.ntmps21
    go_wp2_with (go_at_call 49; refine (impl_groupsOf.calls kk (fun k_ => k_ < w.heap.size) _ _ m _ _ g gr true _ (Kd.V_mk HC0.out (Kd.C_F tone_heap HR0.out)) HR1.out HC1.out HV.out).mono ?_; rintro e w1 ⟨v0, rfl, hn1, hb1⟩; obtain ⟨B0, d0, rfl⟩ := Kd.N_slice hn1)
    go_ret2
    exact ⟨_, rfl, Kd.R_nil _ _ _ _ _, hb1⟩
  have d1 : decide (k < 0) = false := decide_eq_false h0
  by_cases h1 : (gr.length : Int) ≤ k
  · have hgj : gcut m g k = ([], false) := by unfold gcut; rw [if_neg (fun h => by omega)]
    rw [hgj]
    have d2 : decide ((gr.length : Int) ≤ k) = true := decide_eq_true h1
    clear hgj h0 h1 hat hl
    go_enter Try.func21, Try.ntmps21
    go_wp2_with (go_at_call 49; refine (impl_groupsOf.calls kk (fun k_ => k_ < w.heap.size) _ _ m _ _ g gr true _ (Kd.V_mk HC0.out (Kd.C_F tone_heap HR0.out)) HR1.out HC1.out HV.out).mono ?_; rintro e w1 ⟨v0, rfl, hn1, hb1⟩; obtain ⟨B0, d0, rfl⟩ := Kd.N_slice hn1)
    go_ret2
    exact ⟨_, rfl, Kd.R_nil _ _ _ _ _, hb1⟩
  have d2 : decide ((gr.length : Int) ≤ k) = false := decide_eq_false h1
  have j1 := eq_true (show k < (gr.length : Int) by omega)
  have j2 := eq_true (show 0 ≤ k by omega)
  have hx : (rd_T80 gr k).f0 = (m.drop (total (g.take k.toNat)).toNat).take (rd_T65 g k).f0.toNat := hat k.toNat (by omega)
  have hgj : gcut m g k = ((rd_T80 gr k).f0, true) := by unfold gcut; rw [if_pos ⟨HOK.out, by omega, by omega⟩, hx]
  have hxl : (rd_T80 gr k).f0.length ≤ 24 := by rw [hx, List.length_take, List.length_drop]; omega
  rw [hgj]
  have K2 := Aside0.mk (show 0 ≤ k ∧ k < (gr.length : Int) from ⟨by omega, by omega⟩)
  obtain ⟨X, hX⟩ : ∃ X, X = (rd_T80 gr k).f0 := ⟨_, rfl⟩
  rw [← hX] at hxl ⊢
  have HX := Aside0.mk hX
  clear hgj h0 h1 hat hl hx hX
  go_enter Try.func21, Try.ntmps21
  go_wp2_with (first
    | (go_at_call 49; refine (impl_groupsOf.calls kk (fun k_ => k_ < w.heap.size) _ _ m _ _ g gr true _ (Kd.V_mk HC0.out (Kd.C_F tone_heap HR0.out)) HR1.out HC1.out HV.out).mono ?_; rintro e w1 ⟨v0, rfl, hn1, hb1⟩; obtain ⟨B0, d0, rfl⟩ := Kd.N_slice hn1; obtain ⟨ad, A2, c2, e2, ux0, ux1, hc2, hr2⟩ := at_T80 (Kd.N_reads' hn1).2.2 k K2.out.1 K2.out.2; subst e2; rw [← HX.out] at ux0 hc2 hr2; have HR2 := Aside0.mk hr2; have HC2 := Aside0.mk hc2; clear hr2 hc2 hn1)
    | (go_at_call 50; refine (impl_copiedTones_calls X _ _ _ HR2.out HC2.out (by omega)).mono ?_; rintro e w2 ⟨v, rfl, ho2, hb2⟩))
  go_ret2
  exact ⟨_, rfl, Kd.R_lower ho2 hb1.size, below_step hb1 hb2⟩
theorem spec_GroupsCut_calls (m : List S67) (g : List S65) (k : Int) (A0 : Option Addr) (c0 : Nat) (A1 : Option Addr) (c1 : Nat) (w : World) (hr0 : Kd.C k67 w A0 m.length m) (hc0 : m.length ≤ c0) (hr1 : Kd.C k65 w A1 g.length g) (hc1 : g.length ≤ c1) (hm : m.length ≤ 1000000000000) (hg : g.length ≤ 1000000000000) :
    Calls Try.prog 20 #[.slice A0 m.length c0, .slice A1 g.length c1, .int .i64 k] w fun e w' => ∃ v, e = .returned (.tuple #[v, .bool (gcut m g k).2]) ∧ Kd.R k67 67 w' w.heap.size (fun _ => True) v (gcut m g k).1 ∧ Below w.heap.size w w' := by
  obtain ⟨kk, h⟩ := Ev.rounds (spec_GroupsCut_ev m g k hm hg)
  exact spec_GroupsCut.calls kk _ _ m _ _ g k (gcut m g k).1 (gcut m g k).2 w hr0 hc0 hr1 hc1 h

end Go.Proofs.Ytkahgjejebhgnaa.Pure
