/- Lemmas on the printed functions for the law FnModeAll. -/
import Derived.Test.YtnjnnalnicoojaaDoorQFnModeAllq0
import Derived.Test.YtnjnnalnicoojaaDoorQFnModeAllq1
import Derived.Deep.RegionHeld3
import Derived.BigRegion
import Derived.Deep.Slices
import Derived.Laws.CopyOwn
namespace Go.Proofs.YtnjnnalnicoojaaDoor.Pure
set_option linter.unusedVariables false
set_option linter.unusedSimpArgs false
open Go Go.RowKit Go.Proofs.YtnjnnalnicoojaaDoor.PFnModeAll Go.Proofs.YtnjnnalnicoojaaDoorW.PrintWords Go.Proofs.YtnjnnalnicoojaaDoorW.PrintLast Go.Proofs.YtnjnnalnicoojaaDoorW.PrintMore

/-! arguments that are read as data, as kinds -/
def Opn {α : Type} (P : Program) (t : TypeId) (d : Kd α) (ok : α → Prop) : Prop :=
  P.cellsOf t = d.sz ∧ ∀ {H : Type} (enc : TypeId × Value → H) (w : World) (base : Nat) (held : Bool) (fuel : Nat) (cs : List Value) (x : DataW H × List MemPlace), DataW.trod enc P w base (fun _ => true) held fuel t cs = some x → ∃ p, d.K w p cs ∧ ok p
theorem opn_int {P : Program} {t : TypeId} (k : IntKind) (ht : P.underlying t = some (.int k)) (hc : P.cellsOf t = 1) : Opn P t (Kd.int k) (fun n => (Lit.int k n).wf = true) :=
  ⟨hc, fun enc w base held fuel cs x h => by obtain ⟨n, rfl, _, hw⟩ := DataW.trod_int ht h; exact ⟨n, rfl, hw⟩⟩
theorem opn_bool {P : Program} {t : TypeId} (ht : P.underlying t = some .bool) (hc : P.cellsOf t = 1) : Opn P t Kd.bool (fun _ => True) :=
  ⟨hc, fun enc w base held fuel cs x h => by obtain ⟨n, rfl, _⟩ := DataW.trod_bool ht h; exact ⟨n, rfl, trivial⟩⟩
theorem opn_string {P : Program} {t : TypeId} (ht : P.underlying t = some .string) (hc : P.cellsOf t = 1) : Opn P t Kd.string (fun s => s.size ≤ maxLen) :=
  ⟨hc, fun enc w base held fuel cs x h => by obtain ⟨n, rfl, _, hs⟩ := DataW.trod_string ht h; exact ⟨n, rfl, hs⟩⟩
theorem opn_slice {α : Type} {P : Program} {t e : TypeId} {d : Kd α} {ok : α → Prop} (ht : P.underlying t = some (.slice e)) (hc : P.cellsOf t = 1) (he : Opn P e d ok) : Opn P t (Kd.slice e d) (fun l => (∀ x ∈ l, ok x) ∧ l.length ≤ maxLen) := by
  refine ⟨hc, fun enc w base held fuel cs x h => ?_⟩
  rcases Go.Deep.open_slice ht h with ⟨rfl, _⟩ | ⟨a, len, cap, m, n, D, Pl, rfl, _, hl, hm, hmm, _, hi⟩
  · exact ⟨[], ⟨none, 0, rfl, Nat.le_refl _, rfl, by simp, fun h => by simp at h⟩, by simp, by simp⟩
  · have hmc : m = cap := by simpa using hmm
    clear hmm
    have key : ∀ k, k ≤ len → ∃ l : List α, l.length = k ∧ (∀ x ∈ l, ok x) ∧ ∀ j p, l[j]? = some p → ∃ c, c.length = d.sz ∧ d.K w p c ∧ ∀ i u, c[i]? = some u → w.cell? (a.add (j * d.sz + i)) = some u := by
      intro k
      induction k with
      | zero => intro _; exact ⟨[], rfl, by simp, by simp⟩
      | succ k ih =>
        intro hk
        obtain ⟨l, hll, hlo, hlc⟩ := ih (by omega)
        obtain ⟨cs', hcs, ht'⟩ := hi k (by omega)
        rw [he.1] at hcs
        obtain ⟨p, hp, hop⟩ := he.2 enc w base held n cs' _ ht'
        obtain ⟨_, hcl, hat⟩ := World.cells?_some hcs
        refine ⟨l ++ [p], by simp [hll], ?_, ?_⟩
        · intro x hx
          rcases List.mem_append.1 hx with hx | hx
          · exact hlo x hx
          · rw [List.mem_singleton.1 hx]; exact hop
        · intro j q hq
          by_cases hj : j < l.length
          · rw [List.getElem?_append_left hj] at hq
            exact hlc j q hq
          · have hj2 : j = l.length := by
              have := (List.getElem?_eq_some_iff.1 hq).1
              simp at this; omega
            subst hj2
            rw [List.getElem?_append_right (Nat.le_refl _)] at hq
            simp at hq
            subst hq
            refine ⟨cs', hcl, hp, fun i u hu => ?_⟩
            have hil : i < d.sz := by rw [← hcl]; exact (List.getElem?_eq_some_iff.1 hu).1
            rw [hll, ← Go.Deep.add_add, hat i hil, hu]
    obtain ⟨l, hll, hlo, hlc⟩ := key len (Nat.le_refl _)
    subst hll
    exact ⟨l, ⟨some a, cap, rfl, hl, rfl, by unfold maxLen at hm; omega, fun _ => ⟨a, rfl, hlc⟩⟩, hlo, by omega⟩
theorem opn_iso {α β : Type} {P : Program} {t : TypeId} {d : Kd α} {ok : α → Prop} (h : Opn P t d ok) (f : β → α) (g : α → β) (hfg : ∀ x, f (g x) = x) : Opn P t (Kd.iso d f) (fun y => ok (f y)) :=
  ⟨h.1, fun enc w base held fuel cs x hx => by
    obtain ⟨p, hp, ho⟩ := h.2 enc w base held fuel cs x hx
    exact ⟨g p, by show d.K w (f (g p)) cs; rw [hfg]; exact hp, by show ok (f (g p)); rw [hfg]; exact ho⟩⟩
theorem opn_struct2 {α β : Type} {P : Program} {t : TypeId} {f0 f1 : Field} {a : Kd α} {b : Kd β} {oka : α → Prop} {okb : β → Prop} (ht : P.underlying t = some (.struct #[f0, f1])) (h0 : Opn P f0.type a oka) (h1 : Opn P f1.type b okb)
    (o0 : f0.offset = 0) (o1 : f1.offset = a.sz) (hc : P.cellsOf t = a.sz + b.sz) : Opn P t (Kd.pair a b) (fun p => oka p.1 ∧ okb p.2) := by
  refine ⟨hc, fun enc w base held fuel cs x h => ?_⟩
  obtain ⟨xs, n, _, _, hl, hxl, hg⟩ := DataW.trod_struct ht h
  have g0 := hg 0 f0 rfl
  have g1 := hg 1 f1 rfl
  rw [o0, h0.1, List.drop_zero] at g0
  rw [o1, h1.1] at g1
  rw [List.getElem?_eq_getElem (by rw [hxl]; simp)] at g0 g1
  obtain ⟨p, hp, hop⟩ := h0.2 enc w base held n _ _ g0
  obtain ⟨q, hq, hoq⟩ := h1.2 enc w base held n _ _ g1
  refine ⟨(p, q), ⟨cs.take a.sz, (cs.drop a.sz).take b.sz, ?_, hp, hq⟩, hop, hoq⟩
  rw [List.take_of_length_le (l := cs.drop a.sz) (by rw [List.length_drop, hl, hc]; omega), List.take_append_drop]
theorem opn_struct3 {α β γ : Type} {P : Program} {t : TypeId} {f0 f1 f2 : Field} {a : Kd α} {b : Kd β} {c : Kd γ} {oka : α → Prop} {okb : β → Prop} {okc : γ → Prop} (ht : P.underlying t = some (.struct #[f0, f1, f2])) (h0 : Opn P f0.type a oka) (h1 : Opn P f1.type b okb) (h2 : Opn P f2.type c okc)
    (o0 : f0.offset = 0) (o1 : f1.offset = a.sz) (o2 : f2.offset = a.sz + b.sz) (hc : P.cellsOf t = a.sz + (b.sz + c.sz)) : Opn P t (Kd.pair a (Kd.pair b c)) (fun p => oka p.1 ∧ okb p.2.1 ∧ okc p.2.2) := by
  refine ⟨hc, fun enc w base held fuel cs x h => ?_⟩
  obtain ⟨xs, n, _, _, hl, hxl, hg⟩ := DataW.trod_struct ht h
  have g0 := hg 0 f0 rfl
  have g1 := hg 1 f1 rfl
  have g2 := hg 2 f2 rfl
  rw [o0, h0.1, List.drop_zero] at g0
  rw [o1, h1.1] at g1
  rw [o2, h2.1] at g2
  rw [List.getElem?_eq_getElem (by rw [hxl]; simp)] at g0 g1 g2
  obtain ⟨p, hp, hop⟩ := h0.2 enc w base held n _ _ g0
  obtain ⟨q, hq, hoq⟩ := h1.2 enc w base held n _ _ g1
  obtain ⟨r, hr, hor⟩ := h2.2 enc w base held n _ _ g2
  refine ⟨(p, q, r), ⟨cs.take a.sz, cs.drop a.sz, by rw [List.take_append_drop], hp, (cs.drop a.sz).take b.sz, (cs.drop (a.sz + b.sz)).take c.sz, ?_, hq, hr⟩, hop, hoq, hor⟩
  rw [List.take_of_length_le (l := cs.drop (a.sz + b.sz)) (by rw [List.length_drop, hl, hc]; omega), ← List.drop_drop, List.take_append_drop]
theorem opn_struct4 {α β γ δ : Type} {P : Program} {t : TypeId} {f0 f1 f2 f3 : Field} {a : Kd α} {b : Kd β} {c : Kd γ} {d : Kd δ} {oka : α → Prop} {okb : β → Prop} {okc : γ → Prop} {okd : δ → Prop} (ht : P.underlying t = some (.struct #[f0, f1, f2, f3])) (h0 : Opn P f0.type a oka) (h1 : Opn P f1.type b okb) (h2 : Opn P f2.type c okc) (h3 : Opn P f3.type d okd)
    (o0 : f0.offset = 0) (o1 : f1.offset = a.sz) (o2 : f2.offset = a.sz + b.sz) (o3 : f3.offset = a.sz + b.sz + c.sz) (hc : P.cellsOf t = a.sz + (b.sz + (c.sz + d.sz))) : Opn P t (Kd.pair a (Kd.pair b (Kd.pair c d))) (fun p => oka p.1 ∧ okb p.2.1 ∧ okc p.2.2.1 ∧ okd p.2.2.2) := by
  refine ⟨hc, fun enc w base held fuel cs x h => ?_⟩
  obtain ⟨xs, n, _, _, hl, hxl, hg⟩ := DataW.trod_struct ht h
  have g0 := hg 0 f0 rfl
  have g1 := hg 1 f1 rfl
  have g2 := hg 2 f2 rfl
  have g3 := hg 3 f3 rfl
  rw [o0, h0.1, List.drop_zero] at g0
  rw [o1, h1.1] at g1
  rw [o2, h2.1] at g2
  rw [o3, h3.1] at g3
  rw [List.getElem?_eq_getElem (by rw [hxl]; simp)] at g0 g1 g2 g3
  obtain ⟨p, hp, hop⟩ := h0.2 enc w base held n _ _ g0
  obtain ⟨q, hq, hoq⟩ := h1.2 enc w base held n _ _ g1
  obtain ⟨r, hr, hor⟩ := h2.2 enc w base held n _ _ g2
  obtain ⟨s, hs, hos⟩ := h3.2 enc w base held n _ _ g3
  refine ⟨(p, q, r, s), ⟨cs.take a.sz, cs.drop a.sz, by rw [List.take_append_drop], hp, (cs.drop a.sz).take b.sz, cs.drop (a.sz + b.sz), by rw [← List.drop_drop, List.take_append_drop], hq, (cs.drop (a.sz + b.sz)).take c.sz, (cs.drop (a.sz + b.sz + c.sz)).take d.sz, ?_, hr, hs⟩, hop, hoq, hor, hos⟩
  rw [List.take_of_length_le (l := cs.drop (a.sz + b.sz + c.sz)) (by rw [List.length_drop, hl, hc]; omega)]
  exact (List.take_append_drop c.sz (cs.drop (a.sz + b.sz))).symm.trans (by rw [List.drop_drop])
/-- A slice argument. -/
theorem opn_arg {α : Type} {P : Program} {t e : TypeId} {d : Kd α} {ok : List α → Prop} (h : Opn P t (Kd.slice e d) ok) {H : Type} {enc : TypeId × Value → H} {w : World} {base : Nat} {held : Bool} {a : Option Addr} {len cap : Nat} {x : DataW H} {p : List MemPlace} (hr : DataW.Trod enc P w base (fun _ => true) held t (.slice a len cap) x p) :
    ∃ l : List α, len = l.length ∧ l.length ≤ cap ∧ d.C w a l.length l ∧ ok l := by
  obtain ⟨fuel, hf⟩ := hr
  obtain ⟨l, ⟨A, c, he, hc, hC⟩, ho⟩ := h.2 enc w base held fuel _ _ hf
  simp [Value.cells] at he
  obtain ⟨rfl, rfl, rfl⟩ := he
  exact ⟨l, rfl, hc, hC, ho⟩

set_option maxHeartbeats 4000000 in
set_option maxRecDepth 100000 in
theorem FnModeAll_walk (l0 : List Int) (A0 : Option Addr) (c0 : Nat) (w : World) (ht : MTab w) (hr0 : Kd.C (Kd.int .u8) w A0 l0.length l0) (hc0 : l0.length ≤ c0) (hw : ∀ x ∈ l0, (Lit.int .u8 x).wf = true) (hm0 : l0.length ≤ maxLen) :
    Calls Tryd.prog 4 #[.slice A0 l0.length c0] w fun e w' => e = .returned (.bool true) ∧ Below w.heap.size w w' := by
  have HT := Aside0.mk ht
  have HR0 := Aside0.mk hr0
  have HC0 := Aside0.mk hc0
  clear ht hr0 hc0 hm0
  by_cases hbig : (l0.length : Int) > 1048576
  · have d0 : decide (1048576 < (l0.length : Int)) = true := decide_eq_true hbig
    have d0' : decide (1048576 < l0.length) = true := decide_eq_true (by omega)
    clear hbig hw
    go_enter Tryd.func4, Tryd.ntmps4
    go_wp2
    go_ret
    exact ⟨rfl, Below.refl _ _⟩
  have d0 : decide (1048576 < (l0.length : Int)) = false := decide_eq_false hbig
  have d0' : decide (1048576 < l0.length) = false := decide_eq_false (by omega)
  obtain ⟨m, hd, hm⟩ := drawModeAll_ev l0 hw
  obtain ⟨kd, hd⟩ := Ev.rounds hd
  have HD := Aside0.mk hd
  clear hd hbig hw
  have hshape := mUp_shape m
  have hlen := mUp_len m 8
  have HIN := Aside0.mk (show ∀ (i : Int) (A : Option Addr) (c : Nat) (w : World), MTab w → Kd.C k29 w A m.length m → m.length ≤ c → Calls Tryd.prog 6 #[.slice A m.length c, .int .i64 i] w fun e w' => e = .returned (.bool (mIn m i)) ∧ Below w.heap.size w w' from fun i A c w h h2 h3 => impl_ModeIn_calls m i A c w h h2 h3 (by omega))
  have HAT := Aside0.mk (show ∀ i : Nat, i < 8 → mIn m ((i : Int) + 1) = true → (mUp m i).length < (mUp m 8).length ∧ rd (mUp m 8) ((mUp m i).length : Int) = (i : Int) + 1 from fun i hi h => mUp_at m hi h)
  have HA1 := Aside0.mk (show ∀ (A : Option Addr) (c : Nat) (w : World), MTab w → Kd.C k29 w A m.length m → m.length ≤ c → Calls Tryd.prog 10 #[.slice A m.length c] w fun e w' => ∃ v, e = .returned v ∧ Kd.R (Kd.int .i64) 3 w' w.heap.size (fun _ => True) v (mUp m 8) ∧ Below w.heap.size w w' from fun A c w h h2 h3 => impl_ModeAll_calls m A c w h h2 h3 (by omega))
  have HA2 := Aside0.mk (show ∀ (A : Option Addr) (c : Nat) (w : World), Kd.C k29 w A m.length m → m.length ≤ c → Calls Tryd.prog 11 #[.slice A m.length c] w fun e w' => ∃ v, e = .returned v ∧ Kd.R (Kd.int .i64) 3 w' w.heap.size (fun _ => True) v (mUp m 8) ∧ Below w.heap.size w w' from fun A c w h2 h3 => spec_ModeAll_calls m A c w h2 h3 (by omega))
  obtain ⟨L, hL⟩ : ∃ L, L = mUp m 8 := ⟨_, rfl⟩
  rw [← hL] at hshape hlen HAT HA1 HA2
  obtain ⟨ks, hks⟩ := Ev.rounds (sameInts_ev L (by omega))
  have HS := Aside0.mk hks
  have HSH := Aside0.mk hshape
  have HLL := Aside0.mk hL
  clear hL hshape hks
  by_cases he : L.length = 0
  · have b1 : ((L.length : Int) == 0) = true := by rw [beq_iff_eq]; omega
    have b2 : (L.length == 0) = true := by rw [beq_iff_eq]; omega
    clear he
    go_enter Tryd.func4, Tryd.ntmps4
    go_upto_region 7 with (first
      | (go_at_call 9; refine (spec_DrawModeAll.calls kd _ _ l0 m _ HR0.out HC0.out HD.out).mono ?_; rintro e w1 ⟨vm, rfl, hom, hb1⟩; obtain ⟨Am, cm, rfl, hcm, hrm⟩ := Kd.R_reads hom; have HRM := Aside0.mk hrm; have HCM := Aside0.mk hcm; clear hrm hcm hom)
      | (go_at_call 10; refine (HA1.out Am cm w1 (HT.out.below hb1) HRM.out HCM.out).mono ?_; rintro e w2 ⟨v1, rfl, ho1, hb2⟩; obtain ⟨A1, c1, rfl, hc1, hr1⟩ := Kd.R_reads ho1; have HR1 := Aside0.mk hr1; have HC1 := Aside0.mk hc1; clear hr1 hc1 ho1)
      | (go_at_call 11; refine (HA2.out Am cm w2 (Kd.C_below HRM.out hb2) HCM.out).mono ?_; rintro e w3 ⟨v2, rfl, ho2, hb3⟩; obtain ⟨A2, c2, rfl, hc2, hr2⟩ := Kd.R_reads ho2; have HR2 := Aside0.mk hr2; have HC2 := Aside0.mk hc2; clear hr2 hc2 ho2; have HB3 := Aside0.mk (below_step (below_step hb1 hb2) hb3))
      | (go_at_call 12; refine (laws_sameInts.calls ks A1 c1 L A2 c2 L true w3 (Kd.C_below HR1.out hb3) HC1.out HR2.out HC2.out HS.out).mono ?_; rintro e w4 ⟨rfl, ⟨nd, rfl⟩⟩))
    go_wp2_with (go_at_call 12; refine (laws_sameInts.calls ks A1 c1 L A2 c2 L true (w3.drewN nd) (Kd.C_drewN (Kd.C_below HR1.out hb3) nd) HC1.out (Kd.C_drewN HR2.out nd) HC2.out HS.out).mono ?_; rintro e w5 ⟨rfl, ⟨nd2, rfl⟩⟩)
    go_ret
    exact ⟨rfl, pw_below_drewN HB3.out _⟩
  have b1 : ((L.length : Int) == 0) = false := by rw [beq_eq_false_iff_ne]; omega
  have b2 : (L.length == 0) = false := by rw [beq_eq_false_iff_ne]; omega
  go_enter Tryd.func4, Tryd.ntmps4
  go_wp2_with (first
      | (go_at_call 9; refine (spec_DrawModeAll.calls kd _ _ l0 m _ HR0.out HC0.out HD.out).mono ?_; rintro e w1 ⟨vm, rfl, hom, hb1⟩; obtain ⟨Am, cm, rfl, hcm, hrm⟩ := Kd.R_reads hom; have HRM := Aside0.mk hrm; have HCM := Aside0.mk hcm; clear hrm hcm hom)
      | (go_at_call 10; refine (HA1.out Am cm w1 (HT.out.below hb1) HRM.out HCM.out).mono ?_; rintro e w2 ⟨v1, rfl, ho1, hb2⟩; obtain ⟨A1, c1, rfl, hc1, hr1⟩ := Kd.R_reads ho1; have HR1 := Aside0.mk hr1; have HC1 := Aside0.mk hc1; clear hr1 hc1 ho1)
      | (go_at_call 11; refine (HA2.out Am cm w2 (Kd.C_below HRM.out hb2) HCM.out).mono ?_; rintro e w3 ⟨v2, rfl, ho2, hb3⟩; obtain ⟨A2, c2, rfl, hc2, hr2⟩ := Kd.R_reads ho2; have HR2 := Aside0.mk hr2; have HC2 := Aside0.mk hc2; clear hr2 hc2 ho2; have HB3 := Aside0.mk (below_step (below_step hb1 hb2) hb3))
      | (go_at_call 12; refine (laws_sameInts.calls ks A1 c1 L A2 c2 L true w3 (Kd.C_below HR1.out hb3) HC1.out HR2.out HC2.out HS.out).mono ?_; rintro e w4 ⟨rfl, ⟨nd, rfl⟩⟩))
  go_loopg [6, 7] 10 (fun kq v6 v7 w' => ∃ (i a : Int), v7 = .int .i64 i ∧ v6 = .int .i64 a ∧ Aside0 (kq = (10 - i).toNat ∧ 0 ≤ i ∧ i ≤ 10 ∧ a = ((mUp m (min (i - 1).toNat 8)).length : Int)) ∧ Aside0 (Kd.C k29 w' Am m.length m) ∧ Aside0 (Kd.C (Kd.int .i64) w' A1 L.length L) ∧ Aside0 (Below w.heap.size w w'))
  case atStart => exact ⟨0, 0, rfl, rfl, ⟨by decide, by decide, by decide, rfl⟩, ⟨Kd.C_drewN (Kd.C_below HRM.out (below_step hb2 hb3)) nd⟩, ⟨Kd.C_drewN (Kd.C_below HR1.out hb3) nd⟩, ⟨pw_below_drewN HB3.out _⟩⟩
  case round =>
    obtain ⟨i, a, rfl, rfl, HX, HM, HR, HB⟩ := hrel
    obtain ⟨hk, hi0, hi1, ha⟩ := HX.out
    by_cases h : i ≤ 9
    · have d1 : decide (i ≤ 9) = true := decide_eq_true h
      have hal := mUp_len m (min (i - 1).toNat 8)
      have ba : 0 ≤ a ∧ a ≤ 8 := by omega
      cases hin : mIn m i
      · have NX : Aside0 ((10 - (i + 1)).toNat < gk ∧ 0 ≤ i + 1 ∧ i + 1 ≤ 10 ∧ a = ((mUp m (min (i + 1 - 1).toNat 8)).length : Int)) := by
          refine ⟨by omega, by omega, by omega, ?_⟩
          by_cases hz : 1 ≤ i ∧ i ≤ 8
          · have e1 : min (i + 1 - 1).toNat 8 = min (i - 1).toNat 8 + 1 := by omega
            have e2 : ((min (i - 1).toNat 8 : Nat) : Int) + 1 = i := by omega
            rw [e1]
            simp only [mUp]
            rw [e2, hin, ha]
            rfl
          · have e1 : min (i + 1 - 1).toNat 8 = min (i - 1).toNat 8 := by omega
            rw [e1]; exact ha
        clear ha hk hal
        go_wp2_with (go_at_call 6; refine (HIN.out i Am cm wr (HT.out.below HB.out) HM.out HCM.out).mono ?_; rw [hin]; rintro e w6 ⟨rfl, hb6⟩)
        go_roundg ((10 - (i + 1)).toNat)
        case measure => exact NX.out.1
        case rel => exact ⟨i + 1, a, rfl, rfl, ⟨rfl, NX.out.2⟩, ⟨Kd.C_below HM.out hb6⟩, ⟨Kd.C_below HR.out hb6⟩, ⟨below_step HB.out hb6⟩⟩
      · have hok := (mIn_final hin).1
        have hr : 1 ≤ i ∧ i ≤ 8 := by rcases mOk_cases hok with h | h | h | h | h | h | h | h <;> omega
        have e1 : min (i + 1 - 1).toNat 8 = min (i - 1).toNat 8 + 1 := by omega
        have e2 : ((min (i - 1).toNat 8 : Nat) : Int) + 1 = i := by omega
        obtain ⟨f1, f2⟩ := HAT.out (min (i - 1).toNat 8) (by omega) (by rw [e2]; exact hin)
        rw [← ha, e2] at f2
        have NX : Aside0 ((10 - (i + 1)).toNat < gk ∧ 0 ≤ i + 1 ∧ i + 1 ≤ 10 ∧ a + 1 = ((mUp m (min (i + 1 - 1).toNat 8)).length : Int)) := by
          refine ⟨by omega, by omega, by omega, ?_⟩
          rw [e1]
          simp only [mUp]
          rw [e2, hin, if_pos rfl, List.length_append, List.length_singleton]
          omega
        have j1 : a < (L.length : Int) := by omega
        have g1 : decide ((L.length : Int) ≤ a) = false := decide_eq_false (by omega)
        obtain ⟨ad, e3, hx0⟩ := Kd.at_int HR.out a ba.1 j1
        subst e3
        rw [f2] at hx0
        have HX0 := Aside0.mk hx0
        have q0 := eq_true ba.1
        have q1 := eq_true j1
        have n1 : (i != i) = false := by simp
        clear ha hk hal f1 f2 e1 e2 hx0 hok j1
        go_wp2_with (go_at_call 6; refine (HIN.out i Am cm wr (HT.out.below HB.out) HM.out HCM.out).mono ?_; rw [hin]; rintro e w6 ⟨rfl, hb6⟩; have hx0 := pw_cell_below hb6 HX0.out)
        go_roundg ((10 - (i + 1)).toNat)
        case measure => exact NX.out.1
        case rel => exact ⟨i + 1, a + 1, rfl, rfl, ⟨rfl, NX.out.2⟩, ⟨Kd.C_below HM.out hb6⟩, ⟨Kd.C_below HR.out hb6⟩, ⟨below_step HB.out hb6⟩⟩
    · have d1 : decide (i ≤ 9) = false := decide_eq_false h
      obtain rfl : i = 10 := by omega
      have ha' : a = (L.length : Int) := by rw [ha, HLL.out]; rfl
      clear ha h
      rcases HSH.out with hs | ⟨x, hs, hx1, hx2⟩ | ⟨x, hs, hx⟩
      · exact absurd (by rw [hs]; rfl) he
      · have hl : L.length = 1 := by rw [hs]; rfl
        obtain rfl : a = 1 := by omega
        have e1 : ((1 : Int) == (L.length : Int)) = true := by rw [beq_iff_eq]; omega
        clear hs hl ha' hx1 hx2
        go_upto_region 16 with fail
        go_region
        go_wp2
        go_ret
        exact ⟨rfl, below_drew1 HB.out⟩
      · have hl : L.length = 2 := by rw [hs]; rfl
        obtain rfl : a = 2 := by omega
        have e1 : ((2 : Int) == (L.length : Int)) = true := by rw [beq_iff_eq]; omega
        obtain ⟨ad, e3, hx0⟩ := Kd.at_int HR.out 0 (by omega) (by omega)
        subst e3
        obtain ⟨ad', e4, hx1⟩ := Kd.at_int HR.out 1 (by omega) (by omega)
        injection e4 with e4
        subst e4
        have r0 : rd L 0 = x := by rw [hs]; rfl
        have r1 : rd L 1 = x + 1 := by rw [hs]; rfl
        rw [r0] at hx0
        rw [r1] at hx1
        have q0 := eq_true (show (0 : Int) < (L.length : Int) by omega)
        have q1 := eq_true (show (1 : Int) < (L.length : Int) by omega)
        have q2 := eq_true (show 0 < L.length by omega)
        have q3 := eq_true (show 1 < L.length by omega)
        have hp : mPair x = x + 1 := by rcases hx with rfl | rfl | rfl | rfl <;> rfl
        have HP := Aside0.mk (show ∀ w, MTab w → Calls Tryd.prog 13 #[.int .i64 x] w fun e w' => e = .returned (.int .i64 (x + 1)) ∧ Below w.heap.size w w' from fun w h => by have := impl_ModePair_calls x w h; rw [hp] at this; exact this)
        have hy0 : wr.cell? ad = some (.int .i64 x) := hx0
        have hy1 : wr.cell? ⟨ad.block, ad.off + 1, none⟩ = some (.int .i64 (x + 1)) := hx1
        have hz0 : wr.drew.cell? ad = some (.int .i64 x) := hx0
        have hz1 : wr.drew.cell? ⟨ad.block, ad.off + 1, none⟩ = some (.int .i64 (x + 1)) := hx1
        have n1 : ((x + 1 : Int) == x + 1) = true := by rw [beq_iff_eq]
        clear hs hl ha' hx r0 r1 hp hx0 hx1
        go_upto_region 16 with fail
        go_region_held3 (fun w' => w'.cell? ad = some (.int .i64 x) ∧ w'.cell? ⟨ad.block, ad.off + 1, none⟩ = some (.int .i64 (x + 1)))
          (first
            | go_keep
            | (go_split_ands; exact ⟨pw_cell_below hb7 hz0, pw_cell_below hb7 hz1⟩)
            | fail)
          (first
            | (go_at_call 13; refine (HP.out wr.drew (HT.out.below (below_drew1 HB.out))).mono ?_; rintro e w7 ⟨rfl, hb7⟩)
            | fail)
        go_wp2
        go_ret
        exact ⟨rfl, below_step (below_drew1 HB.out) hb7⟩

end Go.Proofs.YtnjnnalnicoojaaDoor.Pure
