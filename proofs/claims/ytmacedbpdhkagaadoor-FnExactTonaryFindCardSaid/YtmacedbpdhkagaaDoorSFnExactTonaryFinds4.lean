/- Lemmas for the law FnExactTonaryFind. -/
import Derived.Test.YtmacedbpdhkagaaDoorSFnExactTonaryFinds3
namespace Go.Proofs.YtmacedbpdhkagaaDoor.Pure
set_option linter.unusedVariables false
set_option linter.unusedSimpArgs false
open Go Go.RowKit Go.Proofs.YtmacedbpdhkagaaDoor.PFnExactTonaryFind Go.Proofs.YtmacedbpdhkagaaDoorW.PrintWords Go.Proofs.YtmacedbpdhkagaaDoorW.PrintLast Go.Proofs.YtmacedbpdhkagaaDoorW.PrintMore

def Opn {α : Type} (P : Program) (t : TypeId) (d : Kd α) (ok : α → Prop) : Prop :=
 P.cellsOf t = d.sz ∧ ∀ {H : Type} (enc : TypeId × Value → H) (w : World) (base : Nat) (held : Bool) (fuel : Nat) (cs : List Value) (x : DataW H × List MemPlace), DataW.trod enc P w base (fun _ => true) held fuel t cs = some x → ∃ p, d.K w p cs ∧ ok p
theorem opn_int {P : Program} {t : TypeId} (k : IntKind) (ht : P.underlying t = some (.int k)) (hc : P.cellsOf t = 1) : Opn P t (Kd.int k) (fun n => (Lit.int k n).wf = true) :=
 ⟨hc, fun enc w base held fuel cs x h => by obtain ⟨n, rfl, _, hw⟩ := DataW.trod_int ht h; exact ⟨n, rfl, hw⟩⟩
theorem opn_bool {P : Program} {t : TypeId} (ht : P.underlying t = some .bool) (hc : P.cellsOf t = 1) : Opn P t Kd.bool (fun _ => True) :=
 ⟨hc, fun enc w base held fuel cs x h => by obtain ⟨n, rfl, _⟩ := DataW.trod_bool ht h; exact ⟨n, rfl, trivial⟩⟩
theorem opn_string {P : Program} {t : TypeId} (ht : P.underlying t = some .string) (hc : P.cellsOf t = 1) : Opn P t Kd.string (fun s => s.size ≤ maxLen) :=
 ⟨hc, fun enc w base held fuel cs x h => by obtain ⟨n, rfl, _, hs⟩ := DataW.trod_string ht h; exact ⟨n, rfl, hs⟩⟩
theorem opn_slice {α : Type} {P : Program} {t e : TypeId} {d : Kd α} {ok : α → Prop} (ht : P.underlying t = some (.slice e)) (hc : P.cellsOf t = 1) (he : Opn P e d ok) : Opn P t (Kd.slice e d) (fun l => (∀ x ∈ l, ok x) ∧ l.length ≤ maxLen) := by
 refine ⟨hc, fun enc w base held fuel cs x h => ?_⟩
 rcases Go.Deep.open_slice ht h with ⟨rfl, _⟩ | ⟨a, len, cap, m, n, D, Pl, rfl, _, hl, hm, hmm, _, hi⟩
 ·
  exact ⟨[], ⟨none, 0, rfl, Nat.le_refl _, rfl, by simp, fun h => by simp at h⟩, by simp, by simp⟩
 ·
  have hmc : m = cap := by simpa using hmm
  clear hmm
  have key : ∀ k, k ≤ len → ∃ l : List α, l.length = k ∧ (∀ x ∈ l, ok x) ∧ ∀ j p, l[j]? = some p → ∃ c, c.length = d.sz ∧ d.K w p c ∧ ∀ i u, c[i]? = some u → w.cell? (a.add (j * d.sz + i)) = some u := by
   intro k
   induction k with
   | zero => intro _; exact ⟨[], rfl, by simp, by simp⟩
   | succ k ih =>
    intro hk
    obtain ⟨l, hll, hlo, hlc⟩ := ih (by omega)
    obtain ⟨cs', hcs, ht'⟩ := hi k (by omega)
    rw [he.1] at hcs
    obtain ⟨p, hp, hop⟩ := he.2 enc w base held n cs' _ ht'
    obtain ⟨_, hcl, hat⟩ := World.cells?_some hcs
    refine ⟨l ++ [p], by simp [hll], ?_, ?_⟩
    ·
     intro x hx
     rcases List.mem_append.1 hx with hx | hx
     ·
      exact hlo x hx
     ·
      rw [List.mem_singleton.1 hx]; exact hop
    ·
     intro j q hq
     by_cases hj : j < l.length
     ·
      rw [List.getElem?_append_left hj] at hq
      exact hlc j q hq
     ·
      have hj2 : j = l.length := by
       have := (List.getElem?_eq_some_iff.1 hq).1
       simp at this; omega
      subst hj2
      rw [List.getElem?_append_right (Nat.le_refl _)] at hq
      simp at hq
      subst hq
      refine ⟨cs', hcl, hp, fun i u hu => ?_⟩
      have hil : i < d.sz := by rw [← hcl]; exact (List.getElem?_eq_some_iff.1 hu).1
      rw [hll, ← Go.Deep.add_add, hat i hil, hu]
  obtain ⟨l, hll, hlo, hlc⟩ := key len (Nat.le_refl _)
  subst hll
  exact ⟨l, ⟨some a, cap, rfl, hl, rfl, by unfold maxLen at hm; omega, fun _ => ⟨a, rfl, hlc⟩⟩, hlo, by omega⟩
theorem opn_iso {α β : Type} {P : Program} {t : TypeId} {d : Kd α} {ok : α → Prop} (h : Opn P t d ok) (f : β → α) (g : α → β) (hfg : ∀ x, f (g x) = x) : Opn P t (Kd.iso d f) (fun y => ok (f y)) :=
 ⟨h.1, fun enc w base held fuel cs x hx => by
  obtain ⟨p, hp, ho⟩ := h.2 enc w base held fuel cs x hx
  exact ⟨g p, by show d.K w (f (g p)) cs; rw [hfg]; exact hp, by show ok (f (g p)); rw [hfg]; exact ho⟩⟩
theorem opn_struct2 {α β : Type} {P : Program} {t : TypeId} {f0 f1 : Field} {a : Kd α} {b : Kd β} {oka : α → Prop} {okb : β → Prop} (ht : P.underlying t = some (.struct #[f0, f1])) (h0 : Opn P f0.type a oka) (h1 : Opn P f1.type b okb)
 (o0 : f0.offset = 0) (o1 : f1.offset = a.sz) (hc : P.cellsOf t = a.sz + b.sz) : Opn P t (Kd.pair a b) (fun p => oka p.1 ∧ okb p.2) := by
 refine ⟨hc, fun enc w base held fuel cs x h => ?_⟩
 obtain ⟨xs, n, _, _, hl, hxl, hg⟩ := DataW.trod_struct ht h
 have g0 := hg 0 f0 rfl
 have g1 := hg 1 f1 rfl
 rw [o0, h0.1, List.drop_zero] at g0
 rw [o1, h1.1] at g1
 rw [List.getElem?_eq_getElem (by rw [hxl]; simp)] at g0 g1
 obtain ⟨p, hp, hop⟩ := h0.2 enc w base held n _ _ g0
 obtain ⟨q, hq, hoq⟩ := h1.2 enc w base held n _ _ g1
 refine ⟨(p, q), ⟨cs.take a.sz, (cs.drop a.sz).take b.sz, ?_, hp, hq⟩, hop, hoq⟩
 rw [List.take_of_length_le (l := cs.drop a.sz) (by rw [List.length_drop, hl, hc]; omega), List.take_append_drop]
theorem opn_struct3 {α β γ : Type} {P : Program} {t : TypeId} {f0 f1 f2 : Field} {a : Kd α} {b : Kd β} {c : Kd γ} {oka : α → Prop} {okb : β → Prop} {okc : γ → Prop} (ht : P.underlying t = some (.struct #[f0, f1, f2])) (h0 : Opn P f0.type a oka) (h1 : Opn P f1.type b okb) (h2 : Opn P f2.type c okc)
 (o0 : f0.offset = 0) (o1 : f1.offset = a.sz) (o2 : f2.offset = a.sz + b.sz) (hc : P.cellsOf t = a.sz + (b.sz + c.sz)) : Opn P t (Kd.pair a (Kd.pair b c)) (fun p => oka p.1 ∧ okb p.2.1 ∧ okc p.2.2) := by
 refine ⟨hc, fun enc w base held fuel cs x h => ?_⟩
 obtain ⟨xs, n, _, _, hl, hxl, hg⟩ := DataW.trod_struct ht h
 have g0 := hg 0 f0 rfl
 have g1 := hg 1 f1 rfl
 have g2 := hg 2 f2 rfl
 rw [o0, h0.1, List.drop_zero] at g0
 rw [o1, h1.1] at g1
 rw [o2, h2.1] at g2
 rw [List.getElem?_eq_getElem (by rw [hxl]; simp)] at g0 g1 g2
 obtain ⟨p, hp, hop⟩ := h0.2 enc w base held n _ _ g0
 obtain ⟨q, hq, hoq⟩ := h1.2 enc w base held n _ _ g1
 obtain ⟨r, hr, hor⟩ := h2.2 enc w base held n _ _ g2
 refine ⟨(p, q, r), ⟨cs.take a.sz, cs.drop a.sz, by rw [List.take_append_drop], hp, (cs.drop a.sz).take b.sz, (cs.drop (a.sz + b.sz)).take c.sz, ?_, hq, hr⟩, hop, hoq, hor⟩
 rw [List.take_of_length_le (l := cs.drop (a.sz + b.sz)) (by rw [List.length_drop, hl, hc]; omega), ← List.drop_drop, List.take_append_drop]
/-- A slice argument. -/
theorem opn_arg {α : Type} {P : Program} {t e : TypeId} {d : Kd α} {ok : List α → Prop} (h : Opn P t (Kd.slice e d) ok) {H : Type} {enc : TypeId × Value → H} {w : World} {base : Nat} {held : Bool} {a : Option Addr} {len cap : Nat} {x : DataW H} {p : List MemPlace} (hr : DataW.Trod enc P w base (fun _ => true) held t (.slice a len cap) x p) :
 ∃ l : List α, len = l.length ∧ l.length ≤ cap ∧ d.C w a l.length l ∧ ok l := by
 obtain ⟨fuel, hf⟩ := hr
 obtain ⟨l, ⟨A, c, he, hc, hC⟩, ho⟩ := h.2 enc w base held fuel _ _ hf
 simp [Value.cells] at he
 obtain ⟨rfl, rfl, rfl⟩ := he
 exact ⟨l, rfl, hc, hC, ho⟩

set_option maxHeartbeats 8000000 in
set_option maxRecDepth 100000 in
theorem FnExactTonaryFind_walk (l : List S62) (m : List S92) (Al : Option Addr) (cl : Nat) (Am : Option Addr) (cm : Nat) (w : World) (ht : DTab w) (hrl : Kd.C k62 w Al l.length l) (hcl : l.length ≤ cl) (hwl : ∀ x ∈ l, x.f0.size ≤ maxLen ∧ (Lit.int .i64 x.f1).wf = true ∧ x.f2.length ≤ maxLen) (hml : l.length ≤ maxLen) (hrm : Kd.C k92 w Am m.length m) (hcm : m.length ≤ cm) (hmm : m.length ≤ maxLen) :
 Calls Tryd.prog 8 #[.slice Al l.length cl, .slice Am m.length cm] w fun e w' => e = .returned (.bool true) ∧ Below w.heap.size w w' := by
 have HT := Aside0.mk ht
 clear ht
 have HRl := Aside0.mk hrl
 have HCl := Aside0.mk hcl
 unfold maxLen at hml
 clear hrl hcl
 have HWl := Aside0.mk hwl
 clear hwl
 have HRm := Aside0.mk hrm
 have HCm := Aside0.mk hcm
 unfold maxLen at hmm
 clear hrm hcm
 by_cases z0 : (1048576 : Int) - EntrySz (l.map convEntry) < 0
 ·
  go_enter Tryd.func8, Tryd.ntmps8
  go_wp2_with fail
  refine (EntryS_sz l _ _ _ _ (by omega) (by omega) (by omega) (fun x hx => by have := HWl.out x hx; unfold maxLen at this; omega) HRl.out HCl.out).mono ?_
  rintro _ ws0 ⟨e0', rfl, he0', hb⟩
  have hb0 := hb
  have u0 : decide (e0' < 0) = true := by rw [he0', if_pos z0]; rfl
  clear he0' z0
  go_wp2
  go_ret
  exact ⟨rfl, hb0⟩
 obtain ⟨e0, he0⟩ : ∃ e : Int, e = (1048576 : Int) - EntrySz (l.map convEntry) := ⟨_, rfl⟩
 have n0 := EntrySz_len (l.map convEntry)
 rw [List.length_map] at n0
 have t0 : decide (e0 < 0) = false := decide_eq_false (by omega)
 have y0 : l.length ≤ 1048576 := by omega
 have y0' : 0 ≤ e0 ∧ e0 ≤ 1048576 := by omega
 have q0 : EntrySz (l.map convEntry) ≤ 1048576 := by omega
 clear n0
 replace he0 := Aside0.mk he0
 by_cases z1 : e0 - (m.length : Int) < 0
 ·
  go_enter Tryd.func8, Tryd.ntmps8
  go_wp2_with fail
  refine (EntryS_sz l _ _ _ _ (by omega) (by omega) (by omega) (fun x hx => by have := HWl.out x hx; unfold maxLen at this; omega) HRl.out HCl.out).mono ?_
  rintro _ ws0 ⟨e0', rfl, he0', hb⟩
  have hb0 := hb
  obtain rfl : e0' = e0 := by rw [he0', if_neg (by omega), he0.out]
  clear he0'
  go_wp2_with fail
  refine (ToneS_sz m _ _ _ _ (by omega) (by omega) (by omega) (Kd.C_below HRm.out hb0) HCm.out).mono ?_
  rintro _ ws1 ⟨e1', rfl, he1', hb⟩
  have hb1 := below_step hb0 hb
  have u1 : decide (e1' < 0) = true := by rw [he1', if_pos z1]; rfl
  clear he1' z1
  go_wp2
  go_ret
  exact ⟨rfl, hb1⟩
 obtain ⟨e1, he1⟩ : ∃ e : Int, e = e0 - (m.length : Int) := ⟨_, rfl⟩
 have t1 : decide (e1 < 0) = false := decide_eq_false (by omega)
 have y1 : m.length ≤ 1048576 := by omega
 have y1' : 0 ≤ e1 ∧ e1 ≤ 1048576 := by omega
 replace he1 := Aside0.mk he1
 obtain ⟨xl, hxl⟩ : ∃ x, x = l.map convEntry := ⟨_, rfl⟩
 have lxl : xl.length ≤ 1048576 := by rw [hxl, List.length_map]; omega
 have lzl : EntrySz xl ≤ 1048576 := by rw [hxl]; omega
 have lyl : 0 ≤ EntrySz xl := EntrySz_nn xl
 have lml := emk_sz xl
 have lnl := emk_nn xl
 have Xl := Aside0.mk hxl
 clear hxl
 obtain ⟨xm, hxm⟩ : ∃ x, x = m.map convTone := ⟨_, rfl⟩
 have lxm : xm.length ≤ 1048576 := by rw [hxm, List.length_map]; omega
 have Xm := Aside0.mk hxm
 clear hxm
 skip
 obtain ⟨r0, hres⟩ : ∃ r0, tonFind xl xm = (r0) := ⟨_, rfl⟩
 have lr : r0.length ≤ 2000000 := by have := tonFind_len xl xm; rw [hres] at this; omega
 have RES := Aside0.mk hres
 clear hres
 go_enter Tryd.func8, Tryd.ntmps8
 go_wp2_with fail
 refine (EntryS_sz l _ _ _ _ (by omega) (by omega) (by omega) (fun x hx => by have := HWl.out x hx; unfold maxLen at this; omega) HRl.out HCl.out).mono ?_
 rintro _ w1 ⟨e', rfl, he', hb⟩
 obtain rfl : e' = e0 := by have := he0.out; rw [he', if_neg (by omega), this]
 clear he'
 have HB := Aside0.mk hb
 have S1 := Aside0.mk hb.size
 go_wp2_with fail
 refine (ToneS_sz m _ _ _ _ (by omega) (by omega) (by omega) (Kd.C_below HRm.out HB.out) HCm.out).mono ?_
 rintro _ w2 ⟨e', rfl, he', hb⟩
 obtain rfl : e' = e1 := by have := he1.out; rw [he', if_neg (by omega), this]
 clear he'
 replace HB := Aside0.mk (below_step HB.out hb)
 have S2 := Aside0.mk hb.size
 go_wp2_with fail
 refine (EntryS_to l _ _ _ (by omega) (Kd.C_below HRl.out HB.out) HCl.out).mono ?_
 rintro _ w3 ⟨vsl, rfl, ho, hb⟩
 rw [← Xl.out] at ho
 obtain ⟨Asl, csl, rfl, _, _⟩ := Kd.S_reads ho
 have Osl := Aside0.mk (OwnS.make ho HB.out.size)
 clear ho
 replace HB := Aside0.mk (below_step HB.out hb)
 have S3 := Aside0.mk hb.size
 go_wp2_with fail
 refine (ToneS_to m _ _ _ (by omega) (Kd.C_below HRm.out HB.out) HCm.out).mono ?_
 rintro _ w4 ⟨vsm, rfl, ho, hb⟩
 rw [← Xm.out] at ho
 obtain ⟨Asm, csm, rfl, _, _⟩ := Kd.R_reads ho
 replace Osl := Aside0.mk (Osl.out.below hb)
 have Osm := Aside0.mk (Own.make ho HB.out.size)
 clear ho
 replace HB := Aside0.mk (below_step HB.out hb)
 have S4 := Aside0.mk hb.size
 go_wp2_with fail
 refine (spec_TonaryFind_x xl xm _ _ _ _ _ Osl.out.C Osl.out.cap Osm.out.C Osm.out.cap (by omega) (by omega)).mono ?_
 rintro _ w5 ⟨v, rfl, ho, hb⟩
 simp only [RES.out] at ho ⊢
 obtain ⟨AW, cW, rfl, _, _⟩ := Kd.R_reads ho
 replace Osl := Aside0.mk (Osl.out.below hb)
 replace Osm := Aside0.mk (Osm.out.below hb)
 have OW := Aside0.mk (Own.make ho HB.out.size)
 clear ho
 replace HB := Aside0.mk (below_step HB.out hb)
 have S5 := Aside0.mk hb.size
 clear Osl
 clear Osm
 go_wp2_with fail
 refine (EntryS_to l _ _ _ (by omega) (Kd.C_below HRl.out HB.out) HCl.out).mono ?_
 rintro _ w6 ⟨vpl, rfl, ho, hb⟩
 rw [← Xl.out] at ho
 obtain ⟨Apl, cpl, rfl, _, _⟩ := Kd.S_reads ho
 replace OW := Aside0.mk (OW.out.below hb)
 have Opl := Aside0.mk (OwnS.make ho HB.out.size)
 clear ho
 replace HB := Aside0.mk (below_step HB.out hb)
 have S6 := Aside0.mk hb.size
 go_wp2_with fail
 refine (ToneS_to m _ _ _ (by omega) (Kd.C_below HRm.out HB.out) HCm.out).mono ?_
 rintro _ w7 ⟨vpm, rfl, ho, hb⟩
 rw [← Xm.out] at ho
 obtain ⟨Apm, cpm, rfl, _, _⟩ := Kd.R_reads ho
 replace OW := Aside0.mk (OW.out.below hb)
 replace Opl := Aside0.mk (Opl.out.below hb)
 have Opm := Aside0.mk (Own.make ho HB.out.size)
 clear ho
 replace HB := Aside0.mk (below_step HB.out hb)
 have S7 := Aside0.mk hb.size
 go_wp2_with fail
 refine (impl_TonaryFind_x xl xm _ _ _ _ _ (HT.out.below HB.out) Opl.out.C Opl.out.cap Opm.out.C Opm.out.cap (by omega) (by omega)).mono ?_
 rintro _ w8 ⟨v, rfl, ho, hb⟩
 simp only [RES.out] at ho ⊢
 obtain ⟨AG, cG, rfl, _, _⟩ := Kd.R_reads ho
 replace OW := Aside0.mk (OW.out.below hb)
 replace Opl := Aside0.mk (Opl.out.below hb)
 replace Opm := Aside0.mk (Opm.out.below hb)
 have OG := Aside0.mk (Own.make ho HB.out.size)
 clear ho
 replace HB := Aside0.mk (below_step HB.out hb)
 have S8 := Aside0.mk hb.size
 go_wp2_with fail
 refine (IntS_eq r0 _ _ _ _ _ (by omega) OG.out.C OG.out.cap OW.out.C OW.out.cap).mono ?_
 rintro _ w9 ⟨rfl, hb⟩
 replace OW := Aside0.mk (OW.out.below hb)
 replace Opl := Aside0.mk (Opl.out.below hb)
 replace Opm := Aside0.mk (Opm.out.below hb)
 replace OG := Aside0.mk (OG.out.below hb)
 replace HB := Aside0.mk (below_step HB.out hb)
 have S9 := Aside0.mk hb.size
 go_wp2_with fail
 refine (EntryS_to l _ _ _ (by omega) (Kd.C_below HRl.out HB.out) HCl.out).mono ?_
 rintro _ w10 ⟨vtl, rfl, ho, hb⟩
 rw [← Xl.out] at ho
 obtain ⟨Atl, ctl, rfl, _, _⟩ := Kd.S_reads ho
 replace OW := Aside0.mk (OW.out.below hb)
 replace Opl := Aside0.mk (Opl.out.below hb)
 replace Opm := Aside0.mk (Opm.out.below hb)
 replace OG := Aside0.mk (OG.out.below hb)
 have Otl := Aside0.mk (OwnS.make ho HB.out.size)
 clear ho
 replace HB := Aside0.mk (below_step HB.out hb)
 have S10 := Aside0.mk hb.size
 go_wp2_with fail
 refine (EntryS_eq xl _ _ _ _ _ (by omega) Opl.out.C Opl.out.cap Otl.out.C Otl.out.cap).mono ?_
 rintro _ w11 ⟨rfl, hb⟩
 replace OW := Aside0.mk (OW.out.below hb)
 replace Opl := Aside0.mk (Opl.out.below hb)
 replace Opm := Aside0.mk (Opm.out.below hb)
 replace OG := Aside0.mk (OG.out.below hb)
 replace Otl := Aside0.mk (Otl.out.below hb)
 replace HB := Aside0.mk (below_step HB.out hb)
 have S11 := Aside0.mk hb.size
 clear Otl
 go_wp2_with fail
 refine (ToneS_to m _ _ _ (by omega) (Kd.C_below HRm.out HB.out) HCm.out).mono ?_
 rintro _ w12 ⟨vtm, rfl, ho, hb⟩
 rw [← Xm.out] at ho
 obtain ⟨Atm, ctm, rfl, _, _⟩ := Kd.R_reads ho
 replace OW := Aside0.mk (OW.out.below hb)
 replace Opl := Aside0.mk (Opl.out.below hb)
 replace Opm := Aside0.mk (Opm.out.below hb)
 replace OG := Aside0.mk (OG.out.below hb)
 have Otm := Aside0.mk (Own.make ho HB.out.size)
 clear ho
 replace HB := Aside0.mk (below_step HB.out hb)
 have S12 := Aside0.mk hb.size
 go_wp2_with fail
 refine (ToneS_eq xm _ _ _ _ _ (by omega) Opm.out.C Opm.out.cap Otm.out.C Otm.out.cap).mono ?_
 rintro _ w13 ⟨rfl, hb⟩
 replace OW := Aside0.mk (OW.out.below hb)
 replace Opl := Aside0.mk (Opl.out.below hb)
 replace Opm := Aside0.mk (Opm.out.below hb)
 replace OG := Aside0.mk (OG.out.below hb)
 replace Otm := Aside0.mk (Otm.out.below hb)
 replace HB := Aside0.mk (below_step HB.out hb)
 have S13 := Aside0.mk hb.size
 clear Otm
 go_wp2_with fail
 refine (EntryS_mark xl _ _ _ _ w _ (by omega) (by omega) (by omega) HB.out Opl.out).mono ?_
 rintro _ w14 ⟨k0, rfl, hk0, ho, hb, hkept⟩
 clear Opl
 replace OW := Aside0.mk (OW.out.kept hkept (by intro k h1 h2 h3; have := S1.out; have := S2.out; have := S3.out; have := S4.out; have := S5.out; have := S6.out; have := S7.out; have := S8.out; have := S9.out; have := S10.out; have := S11.out; have := S12.out; have := S13.out; omega))
 replace Opm := Aside0.mk (Opm.out.kept hkept (by intro k h1 h2 h3; have := S1.out; have := S2.out; have := S3.out; have := S4.out; have := S5.out; have := S6.out; have := S7.out; have := S8.out; have := S9.out; have := S10.out; have := S11.out; have := S12.out; have := S13.out; omega))
 replace OG := Aside0.mk (OG.out.kept hkept (by intro k h1 h2 h3; have := S1.out; have := S2.out; have := S3.out; have := S4.out; have := S5.out; have := S6.out; have := S7.out; have := S8.out; have := S9.out; have := S10.out; have := S11.out; have := S12.out; have := S13.out; omega))
 replace HB := Aside0.mk hb
 have S14 := Aside0.mk hkept.1
 have b0 : 0 ≤ k0 ∧ k0 ≤ 2097153 := by omega
 clear hk0 ho hkept
 go_wp2_with fail
 refine (ToneS_mark xm _ _ _ _ w _ (by omega) (by omega) (by omega) HB.out Opm.out).mono ?_
 rintro _ w15 ⟨k1, rfl, hk1, ho, hb, hkept⟩
 clear Opm
 replace OW := Aside0.mk (OW.out.kept hkept (by intro k h1 h2 h3; have := S1.out; have := S2.out; have := S3.out; have := S4.out; have := S5.out; have := S6.out; have := S7.out; have := S8.out; have := S9.out; have := S10.out; have := S11.out; have := S12.out; have := S13.out; have := S14.out; omega))
 replace OG := Aside0.mk (OG.out.kept hkept (by intro k h1 h2 h3; have := S1.out; have := S2.out; have := S3.out; have := S4.out; have := S5.out; have := S6.out; have := S7.out; have := S8.out; have := S9.out; have := S10.out; have := S11.out; have := S12.out; have := S13.out; have := S14.out; omega))
 replace HB := Aside0.mk hb
 have S15 := Aside0.mk hkept.1
 have b1 : 0 ≤ k1 ∧ k1 ≤ 4194305 := by omega
 clear hk1 ho hkept
 have u : decide (k1 < 0) = false := decide_eq_false (by omega)
 go_wp2_with fail
 refine (IntS_eq r0 _ _ _ _ _ (by omega) OG.out.C OG.out.cap OW.out.C OW.out.cap).mono ?_
 rintro _ w16 ⟨rfl, hb⟩
 replace OW := Aside0.mk (OW.out.below hb)
 replace OG := Aside0.mk (OG.out.below hb)
 replace HB := Aside0.mk (below_step HB.out hb)
 have S16 := Aside0.mk hb.size
 go_wp2_with fail
 refine (IntS_mark r0 _ _ _ _ w _ (by omega) (by omega) (by omega) HB.out OG.out).mono ?_
 rintro _ w17 ⟨mk_, rfl, hm_, ho, hb, hkept⟩
 replace OW := Aside0.mk (OW.out.kept hkept (by intro k h1 h2 h3; have := S1.out; have := S2.out; have := S3.out; have := S4.out; have := S5.out; have := S6.out; have := S7.out; have := S8.out; have := S9.out; have := S10.out; have := S11.out; have := S12.out; have := S13.out; have := S14.out; have := S15.out; have := S16.out; omega))
 replace OG := Aside0.mk ho
 replace HB := Aside0.mk hb
 have S17 := Aside0.mk hkept.1
 clear ho hkept
 have um : decide (mk_ < 0) = false := decide_eq_false (by omega)
 have HM_ := Aside0.mk hm_
 clear hm_
 go_wp2_with fail
 refine (IntS_held r0.length 1 _ _ _ (by omega) (by omega) (by omega) (by have h := (Kd.R_reads' OG.out).2.2; rw [markInt_len] at h; exact h) OG.out.cap).mono ?_
 rintro _ w18 ⟨q, rfl, hq, hb⟩
 obtain rfl : mk_ = q := by rw [hq, HM_.out]
 clear hq
 replace OW := Aside0.mk (OW.out.below hb)
 replace OG := Aside0.mk (OG.out.below hb)
 replace HB := Aside0.mk (below_step HB.out hb)
 have S18 := Aside0.mk hb.size
 go_wp2_with fail
 refine (EntryS_to l _ _ _ (by omega) (Kd.C_below HRl.out HB.out) HCl.out).mono ?_
 rintro _ w19 ⟨vhl, rfl, ho, hb⟩
 rw [← Xl.out] at ho
 obtain ⟨Ahl, chl, rfl, _, _⟩ := Kd.S_reads ho
 replace OW := Aside0.mk (OW.out.below hb)
 replace OG := Aside0.mk (OG.out.below hb)
 have Ohl := Aside0.mk (OwnS.make ho HB.out.size)
 clear ho
 replace HB := Aside0.mk (below_step HB.out hb)
 have S19 := Aside0.mk hb.size
 go_wp2_with fail
 refine (ToneS_to m _ _ _ (by omega) (Kd.C_below HRm.out HB.out) HCm.out).mono ?_
 rintro _ w20 ⟨vhm, rfl, ho, hb⟩
 rw [← Xm.out] at ho
 obtain ⟨Ahm, chm, rfl, _, _⟩ := Kd.R_reads ho
 replace OW := Aside0.mk (OW.out.below hb)
 replace OG := Aside0.mk (OG.out.below hb)
 replace Ohl := Aside0.mk (Ohl.out.below hb)
 have Ohm := Aside0.mk (Own.make ho HB.out.size)
 clear ho
 replace HB := Aside0.mk (below_step HB.out hb)
 have S20 := Aside0.mk hb.size
 go_wp2_with fail
 refine (impl_TonaryFind_x xl xm _ _ _ _ _ (HT.out.below HB.out) Ohl.out.C Ohl.out.cap Ohm.out.C Ohm.out.cap (by omega) (by omega)).mono ?_
 rintro _ w21 ⟨v, rfl, ho, hb⟩
 simp only [RES.out] at ho ⊢
 obtain ⟨AH, cH, rfl, _, _⟩ := Kd.R_reads ho
 replace OW := Aside0.mk (OW.out.below hb)
 replace OG := Aside0.mk (OG.out.below hb)
 replace Ohl := Aside0.mk (Ohl.out.below hb)
 replace Ohm := Aside0.mk (Ohm.out.below hb)
 have OH := Aside0.mk (Own.make ho HB.out.size)
 clear ho
 replace HB := Aside0.mk (below_step HB.out hb)
 have S21 := Aside0.mk hb.size
 clear Ohl
 clear Ohm
 go_wp2_with fail
 refine (IntS_eq r0 _ _ _ _ _ (by omega) OH.out.C OH.out.cap OW.out.C OW.out.cap).mono ?_
 rintro _ w22 ⟨rfl, hb⟩
 replace OW := Aside0.mk (OW.out.below hb)
 replace OG := Aside0.mk (OG.out.below hb)
 replace OH := Aside0.mk (OH.out.below hb)
 replace HB := Aside0.mk (below_step HB.out hb)
 have S22 := Aside0.mk hb.size
 go_wp2_with fail
 refine (IntS_held r0.length 1 _ _ _ (by omega) (by omega) (by omega) (by have h := (Kd.R_reads' OG.out).2.2; rw [markInt_len] at h; exact h) OG.out.cap).mono ?_
 rintro _ w23 ⟨q, rfl, hq, hb⟩
 obtain rfl : mk_ = q := by rw [hq, HM_.out]
 clear hq
 replace OW := Aside0.mk (OW.out.below hb)
 replace OG := Aside0.mk (OG.out.below hb)
 replace OH := Aside0.mk (OH.out.below hb)
 replace HB := Aside0.mk (below_step HB.out hb)
 have S23 := Aside0.mk hb.size
 go_wp2
 go_ret
 exact ⟨rfl, HB.out⟩

end Go.Proofs.YtmacedbpdhkagaaDoor.Pure
