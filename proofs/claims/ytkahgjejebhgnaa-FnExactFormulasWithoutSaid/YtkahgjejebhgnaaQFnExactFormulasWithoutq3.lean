/- Lemmas on the printed functions for the law FnExactFormulasWithout. -/
import Derived.Test.YtkahgjejebhgnaaQFnExactFormulasWithoutq0
import Derived.Test.YtkahgjejebhgnaaQFnExactFormulasWithoutq1
import Derived.Test.YtkahgjejebhgnaaQFnExactFormulasWithoutq2
import Derived.Deep.RegionHeld3
import Derived.BigRegion
import Derived.Deep.Slices
import Derived.Laws.CopyOwn
namespace Go.Proofs.Ytkahgjejebhgnaa.Pure
set_option linter.unusedVariables false
set_option linter.unusedSimpArgs false
open Go Go.RowKit Go.Proofs.Ytkahgjejebhgnaa.PFnExactFormulasWithout Go.Proofs.YtkahgjejebhgnaaW.PrintWords Go.Proofs.YtkahgjejebhgnaaW.PrintLast Go.Proofs.YtkahgjejebhgnaaW.PrintMore

/-! all formulas but one -/
def fwo (l : List S85) (k : Int) : List S85 × Bool := if fsOk l = true ∧ 0 ≤ k ∧ k < (l.length : Int) then (l.eraseIdx k.toNat, true) else ([], false)
theorem erase_same (l : List S85) (i k : Nat) (h : i ≤ k) : (l.take i).eraseIdx k = l.take i := List.eraseIdx_of_length_le (by rw [List.length_take]; omega)
theorem erase_step {l : List S85} {i : Nat} (hi : i < l.length) (k : Nat) (h : i ≠ k) : (l.take (i + 1)).eraseIdx k = (l.take i).eraseIdx k ++ [l.getD i z85] := by
  rw [take_rd l i hi]
  by_cases hk : i < k
  · rw [erase_same l i k (by omega), List.eraseIdx_of_length_le (by rw [List.length_append, List.length_take]; simp; omega)]
  · rw [List.eraseIdx_append_of_lt_length (by rw [List.length_take]; omega)]
theorem erase_skip {l : List S85} {k : Nat} (hk : k < l.length) : (l.take (k + 1)).eraseIdx k = (l.take k).eraseIdx k := by
  rw [take_rd l k hk, erase_same l k k (Nat.le_refl _), List.eraseIdx_append_of_length_le (by rw [List.length_take]; omega)]
  have : k - (l.take k).length = 0 := by rw [List.length_take]; omega
  rw [this]; simp
theorem isz_app : ∀ a b, isz (a ++ b) = isz a + isz b
  | [], b => by simp [isz]
  | x :: xs, b => by simp only [List.cons_append, isz]; rw [isz_app xs b]; omega
theorem fwo_sz (l : List S85) (k : Int) : FormulaSz (fwo l k).1 ≤ FormulaSz l := by
  unfold fwo
  split
  · rename_i h
    show FormulaSz (l.eraseIdx k.toNat) ≤ FormulaSz l
    rw [List.eraseIdx_eq_take_drop_succ]
    have hlt : k.toNat < l.length := by omega
    have e : l = l.take k.toNat ++ (l[k.toNat] :: l.drop (k.toNat + 1)) := by rw [← List.drop_eq_getElem_cons hlt, List.take_append_drop]
    have e1 := congrArg FormulaSz e
    rw [FormulaSz_app, FormulaSz_cons] at e1
    rw [FormulaSz_app]; omega
  · have := FormulaSz_nn l
    simp [FormulaSz, isz] at this ⊢; omega
theorem spec_FormulasWithout_ev (l : List S85) (k : Int) (hll : l.length ≤ 1000000000000) (hl : ∀ x ∈ l, x.f0.length ≤ 1000000000000) : Ev (fun n => spec_FormulasWithout.f n l k) (fwo l k) := by
  unfold spec_FormulasWithout.f fwo
  refine Ev.someb (Ev.bind (spec_FormulasValid_ev l hll hl) ?_)
  cases hok : fsOk l
  · refine Ev.neg (by simp) (Ev.succ ?_)
    simp only [spec_FormulasWithout.j0, if_true]
    exact Ev.eqr (Ev.now _) (by simp)
  refine Ev.pos rfl ?_
  rw [w64 (by omega) (by omega)]
  refine Ev.conb (spec_l6In_eq _ _ _) (Ev.succ ?_)
  simp only [spec_FormulasWithout.j0]
  by_cases hk : 0 ≤ k ∧ k ≤ (l.length : Int) - 1
  · rw [decide_eq_true hk, if_pos ⟨by simp, hk.1, by omega⟩]
    refine Ev.neg (by simp) ?_
    have h8 := fsOk_len hok
    obtain ⟨K, rfl⟩ := Int.eq_ofNat_of_zero_le hk.1
    have := Ev.upto (fun n (s : List S85) i => spec_FormulasWithout.l0 n l K s i) (fun i => (l.take i).eraseIdx K) l.length (l.eraseIdx K, true) (by
      refine Ev.succ ?_
      simp only [spec_FormulasWithout.l0]
      refine Ev.eqr (Ev.neg (by omega) (Ev.now _)) ?_
      rw [List.take_length]) (by
      intro i hi ih
      have hf := fOk_len (fsOk_all hok _ (rd_mem (k := (i : Int)) (by omega) (by omega)))
      have hle : ((l.take i).eraseIdx K).length ≤ 8 := Nat.le_trans (List.length_eraseIdx_le _ _) (by rw [List.length_take]; omega)
      refine Ev.succ ?_
      simp only [spec_FormulasWithout.l0]
      rw [w64 (by omega) (by omega)]
      refine Ev.pos (by omega) ?_
      by_cases e : (i : Int) = (K : Int)
      · have e' : i = K := by omega
        refine Ev.pos e ?_
        subst e'
        rw [erase_skip hi] at ih
        exact ih
      · refine Ev.neg e (Ev.someb (Ev.pos (by omega) (Ev.pos (by simp; omega) (Ev.pos (by omega) ?_))))
        rw [erase_step hi K (by omega)] at ih
        exact ih) 0 (Nat.zero_le _)
    simpa using this
  · rw [decide_eq_false hk, if_neg (fun h => hk ⟨h.2.1, by omega⟩)]
    exact Ev.pos rfl (Ev.now _)

/-! copy into a row of one's own, whole -/
theorem ones_of {α : Type} {d : Kd α} {W : World} {base : Nat} {okp : Nat → Prop} {ys : List α} {news : List Value} (hs0 : 0 < d.sz) (hnM : Reps (d.M W base okp) d.sz ys news) : ∀ u ∈ news, u.oneCell' = true := by
  intro u hu
  obtain ⟨q, hq, rfl⟩ := List.mem_iff_getElem.1 hu
  have hql : q / d.sz < ys.length := by
    rw [Nat.div_lt_iff_lt_mul hs0]
    have := hnM.1
    omega
  have hc := hnM.2 (q / d.sz) _ (List.getElem?_eq_getElem hql)
  refine d.K_one (d.K_of_M hc) _ ?_
  rw [List.mem_iff_getElem?]
  exact ⟨q % d.sz, by rw [List.getElem?_take, if_pos (Nat.mod_lt _ hs0), List.getElem?_drop, Nat.mul_comm, Nat.div_add_mod, List.getElem?_eq_getElem hq]⟩
theorem R_copy_all {P : Program} {ops : Array Oper} {o : Oper} {rest : List Oper} {a : Act} {Q : Exit → Act → World → Prop} {α : Type} (d : Kd α) {w0 W : World} (base : Nat) (hgd : o.guard = none) (s x : Operand) (t e : TypeId)
    (ho : o.op = .call { callee := .builtin .copy, args := #[s, x], argTypes := #[t, t] }) (ht : P.underlying t = some (.slice e)) (hsz : (P.info? e).map (·.size) = some d.sz) (hs0 : 0 < d.sz)
    (v : Value) (zs xs : List α) (hl : zs.length = xs.length) (A : Option Addr) (c : Nat) (hv : a.eval s = v) (hx : a.eval x = .slice A xs.length c)
    (HO : d.R e W base (fun _ => True) v zs) (HR : d.C W A xs.length xs) (hKM : ∀ p cs, d.K W p cs → d.M W base (fun _ => False) p cs) (HB : Below base w0 W)
    (h : ∀ w1, d.R e w1 base (fun _ => True) v xs → Below base w0 w1 → wpList P ops Q rest (a.put o.dst (goInt xs.length)) w1) : wpList P ops Q (o :: rest) a W := by
  obtain ⟨i, hi, hisz⟩ := Option.map_eq_some_iff.1 hsz
  have hrun : ∃ w1, (Builtin.copy_ #[t, t] o.type #[v, .slice A xs.length c]).run P W = .ok (goInt xs.length) w1 ∧ d.R e w1 base (fun _ => True) v xs ∧ Below base w0 w1 := by
    obtain ⟨hok, inner, hown, hr⟩ := HO
    by_cases h0 : xs.length = 0
    · obtain rfl : xs = [] := List.eq_nil_of_length_eq_zero h0
      obtain rfl : zs = [] := List.eq_nil_of_length_eq_zero (by simpa using hl)
      have hl0 : ∀ (y : Addr), (loadCells y 0).run P W = .ok #[] W := fun y => by simpa using run_loadCells_list (P := P) W y [] (by simp)
      refine ⟨W, ?_, ⟨hok, inner, hown, hr⟩, HB⟩
      rcases hown.2 with ⟨rfl, _⟩ | ⟨g, cap, cur, rfl, _⟩ <;> cases A <;> simp [Builtin.copy_, run_underlying ht, Builtin.lenOf, Builtin.firstCells, sizeOf, typeInfo, hi, storeCells, hl0]
    · obtain ⟨ad, rfl, hcc⟩ := HR.2.2 (by omega)
      obtain ⟨news, hnr, hnc⟩ := ReadsRow.inner_ HR
      have hnM : Reps (d.M W base (fun _ => False)) d.sz xs news := hnr.imp_ (fun p c hp => hKM p c hp)
      have hone := ones_of hs0 hnM
      rcases hown.2 with ⟨rfl, hz⟩ | ⟨g, cap, cur, rfl, hg, hh, hncap, hcm, hcs, htk⟩
      · omega
      · have hfit : news.length ≤ cur.size := by
          rw [hnM.1, hcs, ← hl]
          exact Nat.mul_le_mul_right _ hncap
        have hst := run_storeCells_at P g 0 e news 0 cur W hh (by omega) hone
        have hld := run_loadCells_list (P := P) W ad news hnc
        have hnl : news.length = xs.length * d.sz := hnM.1
        refine ⟨W.setRow g (cur.toList.take 0 ++ news ++ cur.toList.drop (0 + 0 + news.length)).toArray, ?_, ⟨fun _ _ => trivial, news, ?_, ?_⟩, below_setRow HB hg _⟩
        · rw [hnl] at hld
          simp [Builtin.copy_, run_underlying ht, Builtin.lenOf, Builtin.firstCells, sizeOf, typeInfo, hi, hisz, hl, hld, hst]
        · refine ⟨hnl, .inr ⟨g, cap, _, by rw [hl], hg, setRow_heap W g cur _ e _ hh, by omega, hcm, ?_, ?_⟩⟩
          · simp only [List.take_zero, List.nil_append, List.size_toArray, List.length_append, List.length_drop, Array.length_toList]
            omega
          · simp only [List.take_zero, List.nil_append]
            rw [← hnl, List.take_append_of_le_length (Nat.le_refl _), List.take_length]
        · exact hnM.imp_ (fun p c hp => d.M_mono (fun k hk => hk.elim) (d.M_move (fun k hk => hk.elim) hp))
  obtain ⟨w1, hr1, h1, hb1⟩ := hrun
  refine wpList_plain hgd fun K hK => ?_
  unfold Oper.wp execOp
  simp only [ho, resolve, invoke, builtin, Sem.run_bind, Sem.run_pure, Result.andThen_ok, List.map_toArray, List.map_cons, List.map_nil, hv, hx, hr1]
  exact hK _ _ (h w1 h1 hb1)

theorem cell_grown' {W w1 : World} {row : Option Nat} {a : Addr} {v : Value} (hc : W.cell? a = some v) (hg : W.grownBy w1 row) (hne : some a.block ≠ row) : w1.cell? a = some v :=
  cell_kept hc (Kept.of_grown (S := fun k => some k = row) hg (Kept.refl _ _) (fun k hk => .inl hk.symm)) hne
set_option maxHeartbeats 4000000 in
set_option maxRecDepth 100000 in
theorem impl_copiedNumbers_calls (m : List Int) (A0 : Option Addr) (c0 : Nat) (w : World) (hr0 : Kd.C (Kd.int .i64) w A0 m.length m) (hc0 : m.length ≤ c0) (hm : m.length ≤ 1000000000000) :
    Calls Try.prog 62 #[.slice A0 m.length c0] w fun e w' => ∃ v, e = .returned v ∧ Kd.R (Kd.int .i64) 3 w' w.heap.size (fun _ => True) v m ∧ Below w.heap.size w w' := by
  have HR0 := Aside0.mk hr0
  have HC0 := Aside0.mk hc0
  clear hr0 hc0
  have hinf : (Try.prog.info? 3).map (fun i => (i.zero, i.size, i.bytes)) = some (some (.int .i64 0), 1, 8) := by kernel_rfl
  go_enter Try.func62, Try.ntmps62
  go_wp2_with (first
    | ((with_reducible refine gate_dst (N := 6) rfl ?_); refine Kd.R_make (Kd.int .i64) _ 3 rfl (N := 6) rfl 42 _ _ rfl (m.length : Int) rfl rfl Try.underlying42 (.int .i64 0) 8 hinf rfl (by decide) (by omega) (0 : Int) (ok := fun _ => True) (okp := fun _ => True) rfl (fun _ hk => hk) trivial (by omega) (by omega) (Below.refl _ _) (Nat.le_refl _) ?_; intro v1 w1 ho1 hb1 hg1 _)
    | ((with_reducible refine gate_builtin (b := .copy) (xs := #[.tmp 7, .tmp 8]) rfl ?_); go_loud (refine R_copy_all (Kd.int .i64) w.heap.size rfl (.tmp 7) (.tmp 8) 42 3 rfl Try.underlying42 (by have h := congrArg (Option.map (fun x => x.2.1)) hinf; rw [Option.map_map] at h; exact h) (by decide) v1 (List.replicate (m.length : Int).toNat 0) m (by simp) A0 c0 rfl rfl ho1 (Kd.C_below HR0.out hb1) (fun p c h => h) hb1 ?_); intro w2 ho2 hb2))
  go_ret
  exact ⟨_, rfl, ho2, hb2⟩
set_option maxHeartbeats 8000000 in
set_option maxRecDepth 100000 in
theorem impl_FormulasWithout_calls (l : List S85) (k : Int) (A0 : Option Addr) (c0 : Nat) (w : World) (hr0 : Kd.C k85 w A0 l.length l) (hc0 : l.length ≤ c0) (hl : FormulaSz l ≤ 1000000000000) :
    Calls Try.prog 39 #[.slice A0 l.length c0, .int .i64 k] w fun e w' => ∃ v, e = .returned (.tuple #[v, .bool (fwo l k).2]) ∧ Kd.S k85 85 w' w.heap.size (fun _ => True) v (fwo l k).1 ∧ Below w.heap.size w w' := by
  obtain ⟨kk, hv⟩ := Ev.rounds (impl_FormulasValid_ev l (fun x hx => by have := FormulaSz_get hx; omega))
  have HR0 := Aside0.mk hr0
  have HC0 := Aside0.mk hc0
  have HV := Aside0.mk hv
  clear hr0 hc0 hv
  cases hok : fsOk l
  · have hgj : fwo l k = ([], false) := by unfold fwo; rw [if_neg (fun h => by rw [hok] at h; exact absurd h.1 (by simp))]
    rw [hgj]
    rw [hok] at HV
    clear hgj hok
    go_enter Try.func39, Try.ntmps39
    go_wp2_with (go_at_call 54; refine (impl_FormulasValid.calls kk _ _ l false _ HR0.out HC0.out HV.out).mono ?_; rintro e w1 ⟨rfl, hb1⟩)
    go_ret2
    exact ⟨_, rfl, Kd.S_nil _ _ _ _ _, hb1⟩
  rw [hok] at HV
  by_cases h0 : k < 0
  · have hgj : fwo l k = ([], false) := by unfold fwo; rw [if_neg (fun h => by omega)]
    rw [hgj]
    have d1 : decide (k < 0) = true := decide_eq_true h0
    clear hgj h0
    go_enter Try.func39, Try.ntmps39
    go_wp2_with (go_at_call 54; refine (impl_FormulasValid.calls kk _ _ l true _ HR0.out HC0.out HV.out).mono ?_; rintro e w1 ⟨rfl, hb1⟩)
    go_ret2
    exact ⟨_, rfl, Kd.S_nil _ _ _ _ _, hb1⟩
  have d1 : decide (k < 0) = false := decide_eq_false h0
  by_cases h1 : (l.length : Int) ≤ k
  · have hgj : fwo l k = ([], false) := by unfold fwo; rw [if_neg (fun h => by omega)]
    rw [hgj]
    have d2 : decide ((l.length : Int) ≤ k) = true := decide_eq_true h1
    clear hgj h0 h1
    go_enter Try.func39, Try.ntmps39
    go_wp2_with (go_at_call 54; refine (impl_FormulasValid.calls kk _ _ l true _ HR0.out HC0.out HV.out).mono ?_; rintro e w1 ⟨rfl, hb1⟩)
    go_ret2
    exact ⟨_, rfl, Kd.S_nil _ _ _ _ _, hb1⟩
  have d2 : decide ((l.length : Int) ≤ k) = false := decide_eq_false h1
  have hgj : fwo l k = (l.eraseIdx k.toNat, true) := by unfold fwo; rw [if_pos ⟨hok, by omega, by omega⟩]
  rw [hgj]
  have h8 := fsOk_len hok
  have HOK := Aside0.mk hok
  have K2 := Aside0.mk (show 0 ≤ k ∧ k < (l.length : Int) from ⟨by omega, by omega⟩)
  clear hgj hok h0 h1
  go_enter Try.func39, Try.ntmps39
  go_wp2_with (first
    | (go_at_call 54; refine (impl_FormulasValid.calls kk _ _ l true _ HR0.out HC0.out HV.out).mono ?_; rintro e w1 ⟨rfl, hb1⟩)
    | ((with_reducible refine gate_dst (N := 22) rfl ?_); refine Kd.S_lit k85 _ 85 ?hg (N := 22) ?hd (xs := ([] : List S85)) (inner := []) (ok := fun _ => True) (okp := fun _ => True) ?hr (Reps.none _ _) (fun _ hk => hk) trivial (Below.refl _ _) (Nat.le_refl _) (by simp) ?_; (case hd => rfl); (case hg => rfl); (case hr => first | (go_simp; done) | (go_simp; rfl)); intro v2 w2 ho2 hb2 _ _; replace hb2 := below_step hb1 hb2; replace ho2 := Kd.S_lower ho2 hb1.size; have HO := Aside0.mk ho2; have HB := Aside0.mk hb2; clear ho2 hb2))
  go_loopg [6, 25] l.length (fun kq v6 v25 w' => ∃ (i : Nat) (J : List S85), v25 = .int .i64 (i : Int) ∧ Aside0 (kq = l.length - i ∧ i ≤ l.length ∧ J = (l.take i).eraseIdx k.toNat) ∧ Aside0 (Kd.S k85 85 w' w.heap.size (fun _ => True) v6 J) ∧ Aside0 (Below w.heap.size w w'))
  case atStart => exact ⟨0, [], rfl, ⟨by simp⟩, ⟨by (with_reducible repeat (first | apply Kd.S_alloc | apply Kd.S_drewN | apply Kd.S_drew)); exact HO.out⟩, ⟨by repeat (first | (with_reducible first | exact HB.out | apply below_alloc | apply pw_below_drewN | apply below_drew1) | exact HB.out)⟩⟩
  case round =>
    clear HO HB
    obtain ⟨i, J, rfl, HX, HO, HB⟩ := hrel
    obtain ⟨hkq, hil, hJ⟩ := HX.out
    by_cases hi : (i : Int) < (l.length : Int)
    · have dd : decide ((i : Int) < (l.length : Int)) = true := decide_eq_true hi
      have p0 : (0 : Int) ≤ (i : Int) := by omega
      obtain ⟨ad, A2, c2, e1, ux0, ux1, hc2, hr2⟩ := at_T85 HR0.out (i : Int) p0 hi
      subst e1
      have bX := (fOk_len (fsOk_all HOK.out _ (rd_mem (k := (i : Int)) p0 hi))).2
      have bi : i ≤ 1000000000000 := by omega
      have hJl : J.length ≤ 8 := by rw [hJ]; exact Nat.le_trans (List.length_eraseIdx_le _ _) (by rw [List.length_take]; omega)
      obtain ⟨X, hX⟩ : ∃ X, X = rd_T85 l (i : Int) := ⟨_, rfl⟩
      rw [← hX] at ux0 ux1 hc2 hr2 bX
      have hnx : Aside0 ((¬ (i : Int) = k → J ++ [⟨X.f0, X.f1⟩] = (l.take (i + 1)).eraseIdx k.toNat) ∧ ((i : Int) = k → J = (l.take (i + 1)).eraseIdx k.toNat)) := by
        have hK := K2.out
        refine ⟨fun h => ?_, fun h => ?_⟩
        · rw [erase_step (by omega) _ (by omega), hJ, hX]; rfl
        · have : k.toNat = i := by omega
          rw [hJ, this, erase_skip (by omega)]
      have HR2 := Aside0.mk hr2
      have HC2 := Aside0.mk hc2
      have hx0 := (HB.out.cell (World.block_lt_of_cell? w _ ux0)).trans ux0
      have hx1 := (HB.out.cell (World.block_lt_of_cell? w _ ux1)).trans ux1
      simp only [Int.toNat_natCast] at hx0 hx1
      have hin := eq_true hi
      have hip := eq_true p0
      have NX : Aside0 (l.length - (i + 1) < gk ∧ i + 1 ≤ l.length) := ⟨by omega, by omega⟩
      clear hJ hr2 hc2 hX ux0 ux1
      by_cases hik : (i : Int) = k
      · have db : ((i : Int) != k) = false := bne_eq_false_iff_eq.mpr hik
        have HNX := Aside0.mk (hnx.out.2 hik)
        clear hik hnx
        go_wp2_with ((with_reducible refine gate_dst (N := 8) rfl ?_); refine box_event ?hg (N := 8) ?hd (cs := #[.slice none 0 0, .int .i64 0]) (t := 85) ?hr ?_; (case hd => rfl); (case hg => rfl); (case hr => first | (go_simp; done) | (go_simp; rfl)); intro gb hg w3 hbox hb3; have HO3 := Aside0.mk (Kd.S_below (Kd.S_elderB HO.out gb (by rw [hg]; first | exact Nat.le_refl _ | simp)) hb3); have HB3 := Aside0.mk (below_step HB.out hb3); have GW := Aside0.mk (show w.heap.size ≤ gb from (by rw [hg]; exact HB.out.size)); have hcz0 : w3.cell? ⟨gb, 0, none⟩ = some (.slice none 0 0) := (blk_cell hbox 0).trans rfl; have hcz1 : w3.cell? ⟨gb, 1, none⟩ = some (.int .i64 0) := (blk_cell hbox 1).trans rfl; have hfz0 := blk_frozen hbox 0; have hfz1 := blk_frozen hbox 1; clear hg)
        go_roundg (l.length - (i + 1))
        case measure => exact NX.out.1
        case rel => exact ⟨i + 1, J, by simp, ⟨rfl, NX.out.2, HNX.out⟩, ⟨Kd.S_mono (Kd.S_far (p := ⟨gb, 1, none⟩) (Kd.S_far (p := ⟨gb, 0, none⟩) HO3.out (fun _ hk => hk.2) _) (fun _ hk => hk.2) _) (fun _ _ => trivial)⟩, ⟨below_set (below_set HB3.out GW.out) GW.out⟩⟩
      · have db : ((i : Int) != k) = true := bne_iff_ne.mpr hik
        have HNX := Aside0.mk (hnx.out.1 hik)
        clear hik hnx
        go_upto_region 8 with ((with_reducible refine gate_dst (N := 8) rfl ?_); refine box_event ?hg (N := 8) ?hd (cs := #[.slice none 0 0, .int .i64 0]) (t := 85) ?hr ?_; (case hd => rfl); (case hg => rfl); (case hr => first | (go_simp; done) | (go_simp; rfl)); intro gb hg w3 hbox hb3; have HO3 := Aside0.mk (Kd.S_below (Kd.S_elderB HO.out gb (by rw [hg]; first | exact Nat.le_refl _ | simp)) hb3); have HB3 := Aside0.mk (below_step HB.out hb3); have GW := Aside0.mk (show w.heap.size ≤ gb from (by rw [hg]; exact HB.out.size)); have HBX := Aside0.mk hbox; have hcz0 : w3.cell? ⟨gb, 0, none⟩ = some (.slice none 0 0) := (blk_cell hbox 0).trans rfl; have hcz1 : w3.cell? ⟨gb, 1, none⟩ = some (.int .i64 0) := (blk_cell hbox 1).trans rfl; have hfz0 := blk_frozen hbox 0; have hfz1 := blk_frozen hbox 1; clear hg hbox)
        have HBK : Aside0 (((w3.setCell ⟨gb, 0, none⟩ (.slice A2 X.f0.length c2)).setCell ⟨gb, 1, none⟩ (.int .i64 X.f1)).heap[gb]? = some (.cells #[.slice A2 X.f0.length c2, .int .i64 X.f1] 85 (0, 0))) := ⟨blk_put (cs := #[.slice A2 X.f0.length c2, .int .i64 0]) (blk_put (cs := #[.slice none 0 0, .int .i64 0]) HBX.out 0 _ rfl) 1 _ rfl⟩
        have HO9 : Aside0 (Kd.S k85 85 ((w3.setCell ⟨gb, 0, none⟩ (.slice A2 X.f0.length c2)).setCell ⟨gb, 1, none⟩ (.int .i64 X.f1)) w.heap.size (fun _ => True) u6 J) := ⟨Kd.S_mono (Kd.S_far (p := ⟨gb, 1, none⟩) (Kd.S_far (p := ⟨gb, 0, none⟩) HO3.out (fun _ hk => hk.2) _) (fun _ hk => hk.2) _) (fun _ _ => trivial)⟩
        have HNE : some gb ≠ u6.ownBlock := fun he => (Kd.S_R HO3.out).1 gb he.symm |>.2 rfl
        have HB9 : Aside0 (Below w.heap.size w ((w3.setCell ⟨gb, 0, none⟩ (.slice A2 X.f0.length c2)).setCell ⟨gb, 1, none⟩ (.int .i64 X.f1))) := ⟨below_set (below_set HB3.out GW.out) GW.out⟩
        clear HO3 HB3 GW HBX hcz0 hcz1 hfz0 hfz1 hx0 hx1
        generalize ((w3.setCell ⟨gb, 0, none⟩ (.slice A2 X.f0.length c2)).setCell ⟨gb, 1, none⟩ (.int .i64 X.f1)) = w9 at HBK HO9 HB9 ⊢
        have hc0 : w9.cell? ⟨gb, 0, none⟩ = some (.slice A2 X.f0.length c2) := (blk_cell HBK.out 0).trans rfl
        have hc1 : w9.cell? ⟨gb, 1, none⟩ = some (.int .i64 X.f1) := (blk_cell HBK.out 1).trans rfl
        replace HO9 := Aside0.mk (Kd.S_drew HO9.out)
        replace HB9 := Aside0.mk (below_drew1 HB9.out)
        have hc0' : w9.drew.cell? ⟨gb, 0, none⟩ = some (.slice A2 X.f0.length c2) := hc0
        have hc1' : w9.drew.cell? ⟨gb, 1, none⟩ = some (.int .i64 X.f1) := hc1
        go_region_held3 (fun w' => w'.cell? ⟨gb, 0, none⟩ = some (.slice A2 X.f0.length c2) ∧ w'.cell? ⟨gb, 1, none⟩ = some (.int .i64 X.f1))
          (first
            | go_keep
            | (go_split_ands; exact ⟨pw_cell_below hb4 hc0', pw_cell_below hb4 hc1'⟩)
            | (go_split_ands; exact ⟨cell_grown' (pw_cell_below hb4 hc0') hg5 HNE, cell_grown' (pw_cell_below hb4 hc1') hg5 HNE⟩)
            | fail)
          (first
            | (go_at_call 62; refine (impl_copiedNumbers_calls X.f0 _ _ w9.drew (Kd.C_below HR2.out HB9.out) HC2.out (by omega)).mono ?_; rintro e w4 ⟨v4, rfl, ho4, hb4⟩; obtain ⟨A4, c4, rfl⟩ := Kd.R_slice ho4)
            | (refine Kd.S_append_step k85 (w0 := w) (W := w4) w.heap.size (by rfl) (.tmp 33) (.tmp 40) 46 85 (.agg #[(.slice none 0 0), (.int .i64 0)]) 32 (by rfl) Try.underlying46 info85 rfl (by decide) (by omega) _ J ⟨X.f0, X.f1⟩ [.slice A4 X.f0.length c4, .int .i64 X.f1] (fun _ => True) (fun k => w9.drew.heap.size ≤ k) (by rfl) (by rfl) (k85_mkM _ _ _ ⟨X.f0, X.f1⟩ (Kd.R_mono (Kd.R_lower (Kd.R_bound ho4) HB9.out.size) (fun _ hk => hk.2.1))) (fun k hk => ⟨trivial, fun he => absurd (Kd.S_lt HO9.out k he.symm) (by omega)⟩) (fun _ _ => trivial) (Kd.S_mono (Kd.S_old HO9.out hb4) (fun k hk => ⟨trivial, by have := hk.2; omega⟩)) (below_step HB9.out hb4) (Nat.le_trans HB9.out.size hb4.size) (by omega) ?_; intro v5 w5 ho5 hb5 hg5 _)
            | fail)
        go_wp2
        go_roundg (l.length - (i + 1))
        case measure => exact NX.out.1
        case rel => exact ⟨i + 1, _, by simp, ⟨rfl, NX.out.2, HNX.out⟩, ⟨ho5⟩, ⟨hb5⟩⟩
    · have dd : decide ((i : Int) < (l.length : Int)) = false := decide_eq_false hi
      obtain rfl : i = l.length := by omega
      rw [List.take_length] at hJ
      subst hJ
      go_wp2
      go_ret2
      exact ⟨_, rfl, HO.out, HB.out⟩
theorem spec_FormulasWithout_calls (l : List S85) (k : Int) (A0 : Option Addr) (c0 : Nat) (w : World) (hr0 : Kd.C k85 w A0 l.length l) (hc0 : l.length ≤ c0) (hl : FormulaSz l ≤ 1000000000000) :
    Calls Try.prog 38 #[.slice A0 l.length c0, .int .i64 k] w fun e w' => ∃ v, e = .returned (.tuple #[v, .bool (fwo l k).2]) ∧ Kd.S k85 85 w' w.heap.size (fun _ => True) v (fwo l k).1 ∧ Below w.heap.size w w' := by
  obtain ⟨kk, h⟩ := Ev.rounds (spec_FormulasWithout_ev l k (by have := FormulaSz_len l; omega) (fun x hx => by have := FormulaSz_get hx; omega))
  exact spec_FormulasWithout.calls kk _ _ l k _ _ w hr0 hc0 h

/-! arguments that are read as data, as kinds -/
def Opn {α : Type} (P : Program) (t : TypeId) (d : Kd α) (ok : α → Prop) : Prop :=
  P.cellsOf t = d.sz ∧ ∀ {H : Type} (enc : TypeId × Value → H) (w : World) (base : Nat) (held : Bool) (fuel : Nat) (cs : List Value) (x : DataW H × List MemPlace), DataW.trod enc P w base (fun _ => true) held fuel t cs = some x → ∃ p, d.K w p cs ∧ ok p
theorem opn_int {P : Program} {t : TypeId} (k : IntKind) (ht : P.underlying t = some (.int k)) (hc : P.cellsOf t = 1) : Opn P t (Kd.int k) (fun n => (Lit.int k n).wf = true) :=
  ⟨hc, fun enc w base held fuel cs x h => by obtain ⟨n, rfl, _, hw⟩ := DataW.trod_int ht h; exact ⟨n, rfl, hw⟩⟩
theorem opn_bool {P : Program} {t : TypeId} (ht : P.underlying t = some .bool) (hc : P.cellsOf t = 1) : Opn P t Kd.bool (fun _ => True) :=
  ⟨hc, fun enc w base held fuel cs x h => by obtain ⟨n, rfl, _⟩ := DataW.trod_bool ht h; exact ⟨n, rfl, trivial⟩⟩
theorem opn_string {P : Program} {t : TypeId} (ht : P.underlying t = some .string) (hc : P.cellsOf t = 1) : Opn P t Kd.string (fun s => s.size ≤ maxLen) :=
  ⟨hc, fun enc w base held fuel cs x h => by obtain ⟨n, rfl, _, hs⟩ := DataW.trod_string ht h; exact ⟨n, rfl, hs⟩⟩
theorem opn_slice {α : Type} {P : Program} {t e : TypeId} {d : Kd α} {ok : α → Prop} (ht : P.underlying t = some (.slice e)) (hc : P.cellsOf t = 1) (he : Opn P e d ok) : Opn P t (Kd.slice e d) (fun l => (∀ x ∈ l, ok x) ∧ l.length ≤ maxLen) := by
  refine ⟨hc, fun enc w base held fuel cs x h => ?_⟩
  rcases Go.Deep.open_slice ht h with ⟨rfl, _⟩ | ⟨a, len, cap, m, n, D, Pl, rfl, _, hl, hm, hmm, _, hi⟩
  · exact ⟨[], ⟨none, 0, rfl, Nat.le_refl _, rfl, by simp, fun h => by simp at h⟩, by simp, by simp⟩
  · have hmc : m = cap := by simpa using hmm
    clear hmm
    have key : ∀ k, k ≤ len → ∃ l : List α, l.length = k ∧ (∀ x ∈ l, ok x) ∧ ∀ j p, l[j]? = some p → ∃ c, c.length = d.sz ∧ d.K w p c ∧ ∀ i u, c[i]? = some u → w.cell? (a.add (j * d.sz + i)) = some u := by
      intro k
      induction k with
      | zero => intro _; exact ⟨[], rfl, by simp, by simp⟩
      | succ k ih =>
        intro hk
        obtain ⟨l, hll, hlo, hlc⟩ := ih (by omega)
        obtain ⟨cs', hcs, ht'⟩ := hi k (by omega)
        rw [he.1] at hcs
        obtain ⟨p, hp, hop⟩ := he.2 enc w base held n cs' _ ht'
        obtain ⟨_, hcl, hat⟩ := World.cells?_some hcs
        refine ⟨l ++ [p], by simp [hll], ?_, ?_⟩
        · intro x hx
          rcases List.mem_append.1 hx with hx | hx
          · exact hlo x hx
          · rw [List.mem_singleton.1 hx]; exact hop
        · intro j q hq
          by_cases hj : j < l.length
          · rw [List.getElem?_append_left hj] at hq
            exact hlc j q hq
          · have hj2 : j = l.length := by
              have := (List.getElem?_eq_some_iff.1 hq).1
              simp at this; omega
            subst hj2
            rw [List.getElem?_append_right (Nat.le_refl _)] at hq
            simp at hq
            subst hq
            refine ⟨cs', hcl, hp, fun i u hu => ?_⟩
            have hil : i < d.sz := by rw [← hcl]; exact (List.getElem?_eq_some_iff.1 hu).1
            rw [hll, ← Go.Deep.add_add, hat i hil, hu]
    obtain ⟨l, hll, hlo, hlc⟩ := key len (Nat.le_refl _)
    subst hll
    exact ⟨l, ⟨some a, cap, rfl, hl, rfl, by unfold maxLen at hm; omega, fun _ => ⟨a, rfl, hlc⟩⟩, hlo, by omega⟩
theorem opn_iso {α β : Type} {P : Program} {t : TypeId} {d : Kd α} {ok : α → Prop} (h : Opn P t d ok) (f : β → α) (g : α → β) (hfg : ∀ x, f (g x) = x) : Opn P t (Kd.iso d f) (fun y => ok (f y)) :=
  ⟨h.1, fun enc w base held fuel cs x hx => by
    obtain ⟨p, hp, ho⟩ := h.2 enc w base held fuel cs x hx
    exact ⟨g p, by show d.K w (f (g p)) cs; rw [hfg]; exact hp, by show ok (f (g p)); rw [hfg]; exact ho⟩⟩
theorem opn_struct2 {α β : Type} {P : Program} {t : TypeId} {f0 f1 : Field} {a : Kd α} {b : Kd β} {oka : α → Prop} {okb : β → Prop} (ht : P.underlying t = some (.struct #[f0, f1])) (h0 : Opn P f0.type a oka) (h1 : Opn P f1.type b okb)
    (o0 : f0.offset = 0) (o1 : f1.offset = a.sz) (hc : P.cellsOf t = a.sz + b.sz) : Opn P t (Kd.pair a b) (fun p => oka p.1 ∧ okb p.2) := by
  refine ⟨hc, fun enc w base held fuel cs x h => ?_⟩
  obtain ⟨xs, n, _, _, hl, hxl, hg⟩ := DataW.trod_struct ht h
  have g0 := hg 0 f0 rfl
  have g1 := hg 1 f1 rfl
  rw [o0, h0.1, List.drop_zero] at g0
  rw [o1, h1.1] at g1
  rw [List.getElem?_eq_getElem (by rw [hxl]; simp)] at g0 g1
  obtain ⟨p, hp, hop⟩ := h0.2 enc w base held n _ _ g0
  obtain ⟨q, hq, hoq⟩ := h1.2 enc w base held n _ _ g1
  refine ⟨(p, q), ⟨cs.take a.sz, (cs.drop a.sz).take b.sz, ?_, hp, hq⟩, hop, hoq⟩
  rw [List.take_of_length_le (l := cs.drop a.sz) (by rw [List.length_drop, hl, hc]; omega), List.take_append_drop]
theorem opn_struct3 {α β γ : Type} {P : Program} {t : TypeId} {f0 f1 f2 : Field} {a : Kd α} {b : Kd β} {c : Kd γ} {oka : α → Prop} {okb : β → Prop} {okc : γ → Prop} (ht : P.underlying t = some (.struct #[f0, f1, f2])) (h0 : Opn P f0.type a oka) (h1 : Opn P f1.type b okb) (h2 : Opn P f2.type c okc)
    (o0 : f0.offset = 0) (o1 : f1.offset = a.sz) (o2 : f2.offset = a.sz + b.sz) (hc : P.cellsOf t = a.sz + (b.sz + c.sz)) : Opn P t (Kd.pair a (Kd.pair b c)) (fun p => oka p.1 ∧ okb p.2.1 ∧ okc p.2.2) := by
  refine ⟨hc, fun enc w base held fuel cs x h => ?_⟩
  obtain ⟨xs, n, _, _, hl, hxl, hg⟩ := DataW.trod_struct ht h
  have g0 := hg 0 f0 rfl
  have g1 := hg 1 f1 rfl
  have g2 := hg 2 f2 rfl
  rw [o0, h0.1, List.drop_zero] at g0
  rw [o1, h1.1] at g1
  rw [o2, h2.1] at g2
  rw [List.getElem?_eq_getElem (by rw [hxl]; simp)] at g0 g1 g2
  obtain ⟨p, hp, hop⟩ := h0.2 enc w base held n _ _ g0
  obtain ⟨q, hq, hoq⟩ := h1.2 enc w base held n _ _ g1
  obtain ⟨r, hr, hor⟩ := h2.2 enc w base held n _ _ g2
  refine ⟨(p, q, r), ⟨cs.take a.sz, cs.drop a.sz, by rw [List.take_append_drop], hp, (cs.drop a.sz).take b.sz, (cs.drop (a.sz + b.sz)).take c.sz, ?_, hq, hr⟩, hop, hoq, hor⟩
  rw [List.take_of_length_le (l := cs.drop (a.sz + b.sz)) (by rw [List.length_drop, hl, hc]; omega), ← List.drop_drop, List.take_append_drop]
theorem opn_struct4 {α β γ δ : Type} {P : Program} {t : TypeId} {f0 f1 f2 f3 : Field} {a : Kd α} {b : Kd β} {c : Kd γ} {d : Kd δ} {oka : α → Prop} {okb : β → Prop} {okc : γ → Prop} {okd : δ → Prop} (ht : P.underlying t = some (.struct #[f0, f1, f2, f3])) (h0 : Opn P f0.type a oka) (h1 : Opn P f1.type b okb) (h2 : Opn P f2.type c okc) (h3 : Opn P f3.type d okd)
    (o0 : f0.offset = 0) (o1 : f1.offset = a.sz) (o2 : f2.offset = a.sz + b.sz) (o3 : f3.offset = a.sz + b.sz + c.sz) (hc : P.cellsOf t = a.sz + (b.sz + (c.sz + d.sz))) : Opn P t (Kd.pair a (Kd.pair b (Kd.pair c d))) (fun p => oka p.1 ∧ okb p.2.1 ∧ okc p.2.2.1 ∧ okd p.2.2.2) := by
  refine ⟨hc, fun enc w base held fuel cs x h => ?_⟩
  obtain ⟨xs, n, _, _, hl, hxl, hg⟩ := DataW.trod_struct ht h
  have g0 := hg 0 f0 rfl
  have g1 := hg 1 f1 rfl
  have g2 := hg 2 f2 rfl
  have g3 := hg 3 f3 rfl
  rw [o0, h0.1, List.drop_zero] at g0
  rw [o1, h1.1] at g1
  rw [o2, h2.1] at g2
  rw [o3, h3.1] at g3
  rw [List.getElem?_eq_getElem (by rw [hxl]; simp)] at g0 g1 g2 g3
  obtain ⟨p, hp, hop⟩ := h0.2 enc w base held n _ _ g0
  obtain ⟨q, hq, hoq⟩ := h1.2 enc w base held n _ _ g1
  obtain ⟨r, hr, hor⟩ := h2.2 enc w base held n _ _ g2
  obtain ⟨s, hs, hos⟩ := h3.2 enc w base held n _ _ g3
  refine ⟨(p, q, r, s), ⟨cs.take a.sz, cs.drop a.sz, by rw [List.take_append_drop], hp, (cs.drop a.sz).take b.sz, cs.drop (a.sz + b.sz), by rw [← List.drop_drop, List.take_append_drop], hq, (cs.drop (a.sz + b.sz)).take c.sz, (cs.drop (a.sz + b.sz + c.sz)).take d.sz, ?_, hr, hs⟩, hop, hoq, hor, hos⟩
  rw [List.take_of_length_le (l := cs.drop (a.sz + b.sz + c.sz)) (by rw [List.length_drop, hl, hc]; omega)]
  exact (List.take_append_drop c.sz (cs.drop (a.sz + b.sz))).symm.trans (by rw [List.drop_drop])
/-- A slice argument. -/
theorem opn_arg {α : Type} {P : Program} {t e : TypeId} {d : Kd α} {ok : List α → Prop} (h : Opn P t (Kd.slice e d) ok) {H : Type} {enc : TypeId × Value → H} {w : World} {base : Nat} {held : Bool} {a : Option Addr} {len cap : Nat} {x : DataW H} {p : List MemPlace} (hr : DataW.Trod enc P w base (fun _ => true) held t (.slice a len cap) x p) :
    ∃ l : List α, len = l.length ∧ l.length ≤ cap ∧ d.C w a l.length l ∧ ok l := by
  obtain ⟨fuel, hf⟩ := hr
  obtain ⟨l, ⟨A, c, he, hc, hC⟩, ho⟩ := h.2 enc w base held fuel _ _ hf
  simp [Value.cells] at he
  obtain ⟨rfl, rfl, rfl⟩ := he
  exact ⟨l, rfl, hc, hC, ho⟩

end Go.Proofs.Ytkahgjejebhgnaa.Pure
