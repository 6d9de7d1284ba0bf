/- Lemmas on the printed functions for the law FnBuild. -/
import Derived.Test.YtohnkicfnfejnaaGFnBuildg16
import Derived.Test.YtohnkicfnfejnaaGFnBuildg17
import Derived.Test.YtohnkicfnfejnaaGFnBuildg18
import Derived.Test.YtohnkicfnfejnaaGFnBuildg23
import Derived.Test.YtohnkicfnfejnaaGFnBuildg26
import Derived.Test.YtohnkicfnfejnaaQFnBuildq0
import Derived.Test.YtohnkicfnfejnaaQFnBuildq1
import Derived.Test.YtohnkicfnfejnaaQFnBuildq2
import Derived.Test.YtohnkicfnfejnaaQFnBuildq3
import Derived.Test.YtohnkicfnfejnaaQFnBuildq4
import Derived.Test.YtohnkicfnfejnaaQFnBuildq5
import Derived.Test.YtohnkicfnfejnaaQFnBuildq9
import Derived.Test.YtohnkicfnfejnaaQFnBuildq10
import Derived.Deep.RegionHeld3
import Derived.BigRegion
import Derived.Deep.Slices
import Derived.Laws.CopyOwn
namespace Go.Proofs.Ytohnkicfnfejnaa.Pure
set_option linter.unusedVariables false
set_option linter.unusedSimpArgs false
open Go Go.RowKit Go.Proofs.Ytohnkicfnfejnaa.PFnBuild Go.Proofs.YtohnkicfnfejnaaW.PrintWords Go.Proofs.YtohnkicfnfejnaaW.PrintLast Go.Proofs.YtohnkicfnfejnaaW.PrintMore

theorem sameInts_ev (l : List Int) (hl : l.length ≤ 1000000000000000) : Ev (fun k => laws_sameInts.f k l l) true := by
  unfold laws_sameInts.f
  refine Ev.pos rfl ?_
  have := Ev.over (0 : Int) l (fun k (_ : Unit) i => laws_sameInts.l0 k l l i) (fun _ _ => true) (fun _ _ => True) (by
    intro s _
    refine Ev.succ ?_
    simp only [laws_sameInts.l0]
    exact Ev.neg (by omega) (Ev.now _)) (by
    intro s i rest _ hi _ ih
    refine Ev.succ ?_
    simp only [laws_sameInts.l0]
    refine Ev.pos (by omega) (Ev.pos (by omega) (Ev.pos (by omega) (Ev.pos (by simp) ?_)))
    rw [w64 (by omega) (by omega)]
    exact ih () trivial) 0 () (Nat.zero_le _) trivial
  simpa using this

/-! l91Groups, l91At -/
theorem drawAt_ev {s : List Int} (hc : Code s) (p n : Int) (hp : 0 ≤ p) (hp' : p ≤ 1000000) (hn : 0 ≤ n) :
    Evx (fun k => spec_l91At.f k s p n) (fun r => -1 ≤ r.1 ∧ r.1 ≤ n ∧ p ≤ r.2 ∧ r.2 ≤ p + 2) := by
  have tt : ∀ q, 0 ≤ q → q ≤ 2000000 → Evx (fun k => spec_l91At.j0 k n true s q) (fun r => -1 ≤ r.1 ∧ r.1 ≤ n ∧ r.2 = q + 1) := by
    intro q hq hq'
    refine Evx.succ ?_
    simp only [spec_l91At.j0, if_true]
    refine Evx.someb (Evx.bind (pick_ev hc q 2 hq (by omega)) ?_)
    rintro ⟨r, q'⟩ ⟨hr0, hr1, rfl⟩
    have hr0 : 0 ≤ r := hr0
    have hr1 : r < 2 ∨ r = 0 := hr1
    refine Evx.pos hr0 (Evx.pos (by (try simp only [List.length_set, List.length_drop, List.length_take, List.length_append, List.length_cons, List.length_nil, Int.natCast_add, Int.natCast_one, Int.natCast_zero] at *); omega) (Evx.now ?_))
    have : r = 0 ∨ r = 1 := by omega
    rcases this with rfl | rfl
    · exact ⟨by simp [rd], by simp [rd]; omega, rfl⟩
    · exact ⟨by simp [rd]; omega, by simp [rd], rfl⟩
  unfold spec_l91At.f
  refine Evx.ite (fun _ => (tt p hp (by omega)).mono (by rintro ⟨a, q⟩ ⟨h1, h2, h3⟩; exact ⟨h1, h2, (by (try simp only [List.length_set, List.length_drop, List.length_take, List.length_append, List.length_cons, List.length_nil, Int.natCast_add, Int.natCast_one, Int.natCast_zero] at *); omega), (by (try simp only [List.length_set, List.length_drop, List.length_take, List.length_append, List.length_cons, List.length_nil, Int.natCast_add, Int.natCast_one, Int.natCast_zero] at *); omega)⟩)) (fun h0 => ?_)
  refine Evx.bind (pick_ev hc p 20 hp (by omega)) ?_
  rintro ⟨r, q'⟩ ⟨hr0, hr1, rfl⟩
  by_cases e : r = 0
  · subst e
    exact (tt (p + 1) (by omega) (by omega)).mono (by rintro ⟨a, q⟩ ⟨h1, h2, h3⟩; exact ⟨h1, h2, (by (try simp only [List.length_set, List.length_drop, List.length_take, List.length_append, List.length_cons, List.length_nil, Int.natCast_add, Int.natCast_one, Int.natCast_zero] at *); omega), (by (try simp only [List.length_set, List.length_drop, List.length_take, List.length_append, List.length_cons, List.length_nil, Int.natCast_add, Int.natCast_one, Int.natCast_zero] at *); omega)⟩)
  · have e' : (r == 0) = false := by rw [beq_eq_false_iff_ne]; exact e
    simp only [e']
    refine Evx.succ ?_
    simp only [spec_l91At.j0]
    refine Evx.neg (by simp) (Evx.bind (pick_ev hc (p + 1) n (by omega) (by omega)) ?_)
    rintro ⟨u, q'⟩ ⟨hu0, hu1, rfl⟩
    exact Evx.now ⟨(by (try simp only [List.length_set, List.length_drop, List.length_take, List.length_append, List.length_cons, List.length_nil, Int.natCast_add, Int.natCast_one, Int.natCast_zero] at *); omega), (by (try simp only [List.length_set, List.length_drop, List.length_take, List.length_append, List.length_cons, List.length_nil, Int.natCast_add, Int.natCast_one, Int.natCast_zero] at *); omega), (by (try simp only [List.length_set, List.length_drop, List.length_take, List.length_append, List.length_cons, List.length_nil, Int.natCast_add, Int.natCast_one, Int.natCast_zero] at *); omega), (by (try simp only [List.length_set, List.length_drop, List.length_take, List.length_append, List.length_cons, List.length_nil, Int.natCast_add, Int.natCast_one, Int.natCast_zero] at *); omega)⟩

theorem drawReading_loop {s : List Int} (hc : Code s) (n m : Int) (hn : 0 ≤ n) (d : Nat) : ∀ (out : List Int) (i p : Int), 0 ≤ i → m - i = d → m ≤ 5 → (out.length : Int) ≤ i → 0 ≤ p → p + 2 * d ≤ 1000000 →
    Evx (fun k => spec_l92Reading.l0 k n out m i s p) (fun r => r.1.length ≤ 5 ∧ 0 ≤ r.2 ∧ r.2 ≤ p + 2 * d) := by
  induction d with
  | zero =>
    intro out i p h0 h1 h2 h3 h4 h5
    refine Evx.succ ?_
    simp only [spec_l92Reading.l0]
    exact Evx.neg (by omega) (Evx.now ⟨by show out.length ≤ 5; omega, h4, by show p ≤ _; omega⟩)
  | succ d ih =>
    intro out i p h0 h1 h2 h3 h4 h5
    refine Evx.succ ?_
    simp only [spec_l92Reading.l0]
    rw [w64 (x := i + 1) (by omega) (by omega)]
    refine Evx.pos (by omega) (Evx.bind (drawAt_ev hc p n h4 (by omega) hn) ?_)
    rintro ⟨r, q⟩ ⟨hr0, hr1, hq, hq'⟩
    have hq : p ≤ q := hq
    have hq' : q ≤ p + 2 := hq'
    refine Evx.pos (by omega) ?_
    exact (ih (out ++ [r]) (i + 1) q (by omega) (by omega) h2 (by rw [List.length_append, List.length_singleton]; omega) (by omega) (by omega)).mono (fun r h => ⟨h.1, h.2.1, by have := h.2.2; omega⟩)
theorem drawReading_ev {s : List Int} (hc : Code s) (p n : Int) (hn : 0 ≤ n) (hp : 0 ≤ p) (hp' : p ≤ 100000) : Evx (fun k => spec_l92Reading.f k s p n) (fun r => r.1.length ≤ 5 ∧ 0 ≤ r.2 ∧ r.2 ≤ p + 11) := by
  unfold spec_l92Reading.f
  refine Evx.bind (pick_ev hc p 6 hp (by omega)) ?_
  rintro ⟨u, q⟩ ⟨hu0, hu1, rfl⟩
  have hu0 : 0 ≤ u := hu0
  have hu1 : u < 6 ∨ u = 0 := hu1
  obtain ⟨e, he⟩ : ∃ e : Nat, u - 0 = e := ⟨u.toNat, by omega⟩
  exact (drawReading_loop hc n u hn e [] 0 (p + 1) (by omega) he (by omega) (by simp) (by omega) (by omega)).mono (fun r h => ⟨h.1, h.2.1, by have := h.2.2; omega⟩)

theorem drawBuild_ev (l0 : List Int) (hw : ∀ x ∈ l0, (Lit.int .u8 x).wf = true) : Evx (fun k => spec_DrawFormulasBuild.f k l0) (fun r => DrF r.1 ∧ r.2.length ≤ 5) := by
  obtain ⟨s, h1, hc⟩ := open_ev l0 hw
  unfold spec_DrawFormulasBuild.f
  refine Evx.conb h1 (Evx.bind (drawFormulas_ev hc 0 (by omega) (by omega)) ?_)
  rintro ⟨L, q⟩ ⟨hD, hq, hq'⟩
  have hq : 0 ≤ q := hq
  have hq' : q ≤ 0 + 53 := hq'
  refine Evx.bind (drawReading_ev hc q L.length (by omega) hq (by omega)) ?_
  rintro ⟨r, q'⟩ ⟨hr, _⟩
  exact Evx.now ⟨hD, hr⟩
theorem FnBuild_core (l0 l1 : List Int) (hm0 : l0.length ≤ maxLen) (hw : ∀ x ∈ l0, (Lit.int .u8 x).wf = true) (hm1 : l1.length ≤ maxLen) : ∃ k, laws_FnBuild.f k l0 l1 = some true := by
  unfold maxLen at hm0 hm1
  have key : Ev (fun k => laws_FnBuild.f k l0 l1) true := by
    unfold laws_FnBuild.f
    have one : Ev (fun k => laws_FnBuild.j0 k l0 l1 true) true := by
      refine Ev.succ ?_
      simp only [laws_FnBuild.j0]
      exact Ev.pos trivial (Ev.now _)
    by_cases hb : (l0.length : Int) > 1048576
    · exact Ev.pos hb one
    refine Ev.neg hb ?_
    by_cases hb1 : (l1.length : Int) > 1048576
    · rw [decide_eq_true hb1]; exact one
    rw [decide_eq_false hb1]
    refine Ev.succ ?_
    simp only [laws_FnBuild.j0]
    refine Ev.neg (by simp) ?_
    obtain ⟨⟨L, r⟩, hd, hD, hr⟩ := drawBuild_ev l0 hw
    have hr : r.length ≤ 5 := hr
    have hD : DrF L := hD
    have hl : ∀ x ∈ L, x.f0.length ≤ 1000000000000 := fun x hx => by have := hD.2 x hx; omega
    have hll : L.length ≤ 1000000000000 := by have := hD.1; omega
    refine Ev.bind hd ?_
    refine Ev.bind (impl_FormulasBuild_ev L r hl (by omega)) (Ev.bind (spec_FormulasBuild_ev L r hll hl (by omega)) ?_)
    have hbl := fbuild_len L r
    refine Ev.neg (by simp) (Ev.bind (sameInts_ev _ (by omega)) (Ev.pos rfl (Ev.succ ?_)))
    simp only [laws_FnBuild.j1]
    cases hok : (fbuild L r).2
    · exact Ev.pos (by simp) (Ev.pos (by simp) (Ev.bind (sameInts_ev _ (by omega)) (Ev.now _)))
    refine Ev.neg (by simp) ?_
    obtain ⟨hv, hx, hfl, hfe⟩ := fbuild_inv hok
    have hFV := FsV.of hv
    rw [hfe]
    rw [w64 (x := (r.length : Int) + 1) (by omega) (by omega)]
    refine Ev.neg (by omega) ?_
    have hm := Int.emod_nonneg (l1.length : Int) (show (r.length : Int) + 1 ≠ 0 by omega)
    have hm' := Int.emod_lt_of_pos (l1.length : Int) (show 0 < (r.length : Int) + 1 by omega)
    obtain ⟨j, hj⟩ := Int.eq_ofNat_of_zero_le hm
    rw [hj] at hm' ⊢
    rw [Int.toNat_natCast]
    refine Ev.pos (by omega) (Ev.pos (by omega) ?_)
    have hxt : okIx L (r.take j) := fun i hi => hx i (List.mem_of_mem_take hi)
    have hxd : okIx L (r.drop j) := fun i hi => hx i (List.mem_of_mem_drop hi)
    have hsp : flatR L (r.take j) ++ flatR L (r.drop j) = flatR L r := by rw [← flatR_app, List.take_append_drop]
    have hlt := congrArg List.length hsp
    rw [List.length_append] at hlt
    have b1 := fbuild_of hv hxt (by omega)
    have b2 := fbuild_of hv hxd (by omega)
    refine Ev.bind (impl_FormulasBuild_ev L _ hl (by rw [List.length_take]; omega)) (Ev.bind (impl_FormulasBuild_ev L _ hl (by rw [List.length_drop]; omega)) ?_)
    rw [b1, b2]
    have hmany := reads_many hFV hx hfl
    have hokR := okR_flat hv hx hfl
    have hbest : impl_FormulasBest.f L (flatR L r) = some (bestGo L (flatR L r).length (flatR L r), true) := by
      unfold impl_FormulasBest.f
      rw [if_pos ⟨hl, by omega⟩]
      unfold fBest
      rw [if_pos hokR, if_neg (by omega)]
    refine Ev.conb hbest (Ev.pos rfl (Ev.pos rfl (Ev.pos rfl (Ev.someb (Ev.pos (by simp; omega) (Ev.someb (Ev.pos (by simp; omega) ?_)))))))
    have hsame : ([] ++ flatR L (r.take j) ++ flatR L (r.drop j)) = flatR L r := by rw [List.nil_append]; exact hsp
    rw [hsame]
    refine Ev.bind (sameInts_ev _ (by omega)) (Ev.pos rfl ?_)
    have hM : impl_FormulasMany.f L (flatR L r) = some (rdO L (flatR L r)).f0 := by
      unfold impl_FormulasMany.f
      rw [if_pos ⟨hl, by omega⟩]
      unfold fMany
      rw [if_pos hokR]
    obtain ⟨g1, g2, g3⟩ := bestGo_reads hFV (flatR L r).length (flatR L r) (Nat.le_refl _) hfl (by omega)
    obtain ⟨⟨w1, w2⟩, ⟨w3, w4⟩⟩ := reads_least hFV r hx hfl
    have hgl : (bestGo L (flatR L r).length (flatR L r)).length ≤ 1000000000000 := by
      have := bestGo_len L (flatR L r).length (flatR L r); omega
    refine Ev.conb hM (Ev.pos (by omega) (Ev.bind (impl_FormulasWeight_ev L _ hl hgl) (Ev.bind (impl_FormulasWeight_ev L r hl (by omega)) ?_)))
    rw [fweight_of hv g1, fweight_of hv hx, g3]
    refine Ev.pos w2 ?_
    have hF : impl_FormulasFew.f L (flatR L r) = some (oF (rdO L (flatR L r))) := by
      unfold impl_FormulasFew.f
      rw [if_pos ⟨hl, by omega⟩]
      unfold fFew oF
      rw [if_pos hokR]
    exact Ev.conb hF (Ev.eqr (Ev.now _) (decide_eq_true w4))
  exact Ev.rounds key
theorem FnBuild_walk (l0 l1 : List Int) (A0 : Option Addr) (c0 : Nat) (A1 : Option Addr) (c1 : Nat) (w : World) (hr0 : Kd.C (Kd.int .u8) w A0 l0.length l0) (hc0 : l0.length ≤ c0) (hw0 : ∀ x ∈ l0, (Lit.int .u8 x).wf = true) (hm0 : l0.length ≤ maxLen) (hr1 : Kd.C (Kd.int .u8) w A1 l1.length l1) (hc1 : l1.length ≤ c1) (hw1 : ∀ x ∈ l1, (Lit.int .u8 x).wf = true) (hm1 : l1.length ≤ maxLen) :
    Calls Try.prog 8 #[.slice A0 l0.length c0, .slice A1 l1.length c1] w fun e w' => e = .returned (.bool true) ∧ Below w.heap.size w w' := by
  obtain ⟨k, h⟩ := FnBuild_core l0 l1 hm0 hw0 hm1
  exact laws_FnBuild.calls k A0 c0 l0 A1 c1 l1 true w hr0 hc0 hr1 hc1 h

/-! arguments that are read as data, as kinds -/
def Opn {α : Type} (P : Program) (t : TypeId) (d : Kd α) (ok : α → Prop) : Prop :=
  P.cellsOf t = d.sz ∧ ∀ {H : Type} (enc : TypeId × Value → H) (w : World) (base : Nat) (held : Bool) (fuel : Nat) (cs : List Value) (x : DataW H × List MemPlace), DataW.trod enc P w base (fun _ => true) held fuel t cs = some x → ∃ p, d.K w p cs ∧ ok p
theorem opn_int {P : Program} {t : TypeId} (k : IntKind) (ht : P.underlying t = some (.int k)) (hc : P.cellsOf t = 1) : Opn P t (Kd.int k) (fun n => (Lit.int k n).wf = true) :=
  ⟨hc, fun enc w base held fuel cs x h => by obtain ⟨n, rfl, _, hw⟩ := DataW.trod_int ht h; exact ⟨n, rfl, hw⟩⟩
theorem opn_bool {P : Program} {t : TypeId} (ht : P.underlying t = some .bool) (hc : P.cellsOf t = 1) : Opn P t Kd.bool (fun _ => True) :=
  ⟨hc, fun enc w base held fuel cs x h => by obtain ⟨n, rfl, _⟩ := DataW.trod_bool ht h; exact ⟨n, rfl, trivial⟩⟩
theorem opn_string {P : Program} {t : TypeId} (ht : P.underlying t = some .string) (hc : P.cellsOf t = 1) : Opn P t Kd.string (fun s => s.size ≤ maxLen) :=
  ⟨hc, fun enc w base held fuel cs x h => by obtain ⟨n, rfl, _, hs⟩ := DataW.trod_string ht h; exact ⟨n, rfl, hs⟩⟩
theorem opn_slice {α : Type} {P : Program} {t e : TypeId} {d : Kd α} {ok : α → Prop} (ht : P.underlying t = some (.slice e)) (hc : P.cellsOf t = 1) (he : Opn P e d ok) : Opn P t (Kd.slice e d) (fun l => (∀ x ∈ l, ok x) ∧ l.length ≤ maxLen) := by
  refine ⟨hc, fun enc w base held fuel cs x h => ?_⟩
  rcases Go.Deep.open_slice ht h with ⟨rfl, _⟩ | ⟨a, len, cap, m, n, D, Pl, rfl, _, hl, hm, hmm, _, hi⟩
  · exact ⟨[], ⟨none, 0, rfl, Nat.le_refl _, rfl, by simp, fun h => by simp at h⟩, by simp, by simp⟩
  · have hmc : m = cap := by simpa using hmm
    clear hmm
    have key : ∀ k, k ≤ len → ∃ l : List α, l.length = k ∧ (∀ x ∈ l, ok x) ∧ ∀ j p, l[j]? = some p → ∃ c, c.length = d.sz ∧ d.K w p c ∧ ∀ i u, c[i]? = some u → w.cell? (a.add (j * d.sz + i)) = some u := by
      intro k
      induction k with
      | zero => intro _; exact ⟨[], rfl, by simp, by simp⟩
      | succ k ih =>
        intro hk
        obtain ⟨l, hll, hlo, hlc⟩ := ih (by omega)
        obtain ⟨cs', hcs, ht'⟩ := hi k (by omega)
        rw [he.1] at hcs
        obtain ⟨p, hp, hop⟩ := he.2 enc w base held n cs' _ ht'
        obtain ⟨_, hcl, hat⟩ := World.cells?_some hcs
        refine ⟨l ++ [p], by simp [hll], ?_, ?_⟩
        · intro x hx
          rcases List.mem_append.1 hx with hx | hx
          · exact hlo x hx
          · rw [List.mem_singleton.1 hx]; exact hop
        · intro j q hq
          by_cases hj : j < l.length
          · rw [List.getElem?_append_left hj] at hq
            exact hlc j q hq
          · have hj2 : j = l.length := by
              have := (List.getElem?_eq_some_iff.1 hq).1
              simp at this; omega
            subst hj2
            rw [List.getElem?_append_right (Nat.le_refl _)] at hq
            simp at hq
            subst hq
            refine ⟨cs', hcl, hp, fun i u hu => ?_⟩
            have hil : i < d.sz := by rw [← hcl]; exact (List.getElem?_eq_some_iff.1 hu).1
            rw [hll, ← Go.Deep.add_add, hat i hil, hu]
    obtain ⟨l, hll, hlo, hlc⟩ := key len (Nat.le_refl _)
    subst hll
    exact ⟨l, ⟨some a, cap, rfl, hl, rfl, by unfold maxLen at hm; omega, fun _ => ⟨a, rfl, hlc⟩⟩, hlo, by omega⟩
theorem opn_iso {α β : Type} {P : Program} {t : TypeId} {d : Kd α} {ok : α → Prop} (h : Opn P t d ok) (f : β → α) (g : α → β) (hfg : ∀ x, f (g x) = x) : Opn P t (Kd.iso d f) (fun y => ok (f y)) :=
  ⟨h.1, fun enc w base held fuel cs x hx => by
    obtain ⟨p, hp, ho⟩ := h.2 enc w base held fuel cs x hx
    exact ⟨g p, by show d.K w (f (g p)) cs; rw [hfg]; exact hp, by show ok (f (g p)); rw [hfg]; exact ho⟩⟩
theorem opn_struct2 {α β : Type} {P : Program} {t : TypeId} {f0 f1 : Field} {a : Kd α} {b : Kd β} {oka : α → Prop} {okb : β → Prop} (ht : P.underlying t = some (.struct #[f0, f1])) (h0 : Opn P f0.type a oka) (h1 : Opn P f1.type b okb)
    (o0 : f0.offset = 0) (o1 : f1.offset = a.sz) (hc : P.cellsOf t = a.sz + b.sz) : Opn P t (Kd.pair a b) (fun p => oka p.1 ∧ okb p.2) := by
  refine ⟨hc, fun enc w base held fuel cs x h => ?_⟩
  obtain ⟨xs, n, _, _, hl, hxl, hg⟩ := DataW.trod_struct ht h
  have g0 := hg 0 f0 rfl
  have g1 := hg 1 f1 rfl
  rw [o0, h0.1, List.drop_zero] at g0
  rw [o1, h1.1] at g1
  rw [List.getElem?_eq_getElem (by rw [hxl]; simp)] at g0 g1
  obtain ⟨p, hp, hop⟩ := h0.2 enc w base held n _ _ g0
  obtain ⟨q, hq, hoq⟩ := h1.2 enc w base held n _ _ g1
  refine ⟨(p, q), ⟨cs.take a.sz, (cs.drop a.sz).take b.sz, ?_, hp, hq⟩, hop, hoq⟩
  rw [List.take_of_length_le (l := cs.drop a.sz) (by rw [List.length_drop, hl, hc]; omega), List.take_append_drop]
theorem opn_struct3 {α β γ : Type} {P : Program} {t : TypeId} {f0 f1 f2 : Field} {a : Kd α} {b : Kd β} {c : Kd γ} {oka : α → Prop} {okb : β → Prop} {okc : γ → Prop} (ht : P.underlying t = some (.struct #[f0, f1, f2])) (h0 : Opn P f0.type a oka) (h1 : Opn P f1.type b okb) (h2 : Opn P f2.type c okc)
    (o0 : f0.offset = 0) (o1 : f1.offset = a.sz) (o2 : f2.offset = a.sz + b.sz) (hc : P.cellsOf t = a.sz + (b.sz + c.sz)) : Opn P t (Kd.pair a (Kd.pair b c)) (fun p => oka p.1 ∧ okb p.2.1 ∧ okc p.2.2) := by
  refine ⟨hc, fun enc w base held fuel cs x h => ?_⟩
  obtain ⟨xs, n, _, _, hl, hxl, hg⟩ := DataW.trod_struct ht h
  have g0 := hg 0 f0 rfl
  have g1 := hg 1 f1 rfl
  have g2 := hg 2 f2 rfl
  rw [o0, h0.1, List.drop_zero] at g0
  rw [o1, h1.1] at g1
  rw [o2, h2.1] at g2
  rw [List.getElem?_eq_getElem (by rw [hxl]; simp)] at g0 g1 g2
  obtain ⟨p, hp, hop⟩ := h0.2 enc w base held n _ _ g0
  obtain ⟨q, hq, hoq⟩ := h1.2 enc w base held n _ _ g1
  obtain ⟨r, hr, hor⟩ := h2.2 enc w base held n _ _ g2
  refine ⟨(p, q, r), ⟨cs.take a.sz, cs.drop a.sz, by rw [List.take_append_drop], hp, (cs.drop a.sz).take b.sz, (cs.drop (a.sz + b.sz)).take c.sz, ?_, hq, hr⟩, hop, hoq, hor⟩
  rw [List.take_of_length_le (l := cs.drop (a.sz + b.sz)) (by rw [List.length_drop, hl, hc]; omega), ← List.drop_drop, List.take_append_drop]
theorem opn_struct4 {α β γ δ : Type} {P : Program} {t : TypeId} {f0 f1 f2 f3 : Field} {a : Kd α} {b : Kd β} {c : Kd γ} {d : Kd δ} {oka : α → Prop} {okb : β → Prop} {okc : γ → Prop} {okd : δ → Prop} (ht : P.underlying t = some (.struct #[f0, f1, f2, f3])) (h0 : Opn P f0.type a oka) (h1 : Opn P f1.type b okb) (h2 : Opn P f2.type c okc) (h3 : Opn P f3.type d okd)
    (o0 : f0.offset = 0) (o1 : f1.offset = a.sz) (o2 : f2.offset = a.sz + b.sz) (o3 : f3.offset = a.sz + b.sz + c.sz) (hc : P.cellsOf t = a.sz + (b.sz + (c.sz + d.sz))) : Opn P t (Kd.pair a (Kd.pair b (Kd.pair c d))) (fun p => oka p.1 ∧ okb p.2.1 ∧ okc p.2.2.1 ∧ okd p.2.2.2) := by
  refine ⟨hc, fun enc w base held fuel cs x h => ?_⟩
  obtain ⟨xs, n, _, _, hl, hxl, hg⟩ := DataW.trod_struct ht h
  have g0 := hg 0 f0 rfl
  have g1 := hg 1 f1 rfl
  have g2 := hg 2 f2 rfl
  have g3 := hg 3 f3 rfl
  rw [o0, h0.1, List.drop_zero] at g0
  rw [o1, h1.1] at g1
  rw [o2, h2.1] at g2
  rw [o3, h3.1] at g3
  rw [List.getElem?_eq_getElem (by rw [hxl]; simp)] at g0 g1 g2 g3
  obtain ⟨p, hp, hop⟩ := h0.2 enc w base held n _ _ g0
  obtain ⟨q, hq, hoq⟩ := h1.2 enc w base held n _ _ g1
  obtain ⟨r, hr, hor⟩ := h2.2 enc w base held n _ _ g2
  obtain ⟨s, hs, hos⟩ := h3.2 enc w base held n _ _ g3
  refine ⟨(p, q, r, s), ⟨cs.take a.sz, cs.drop a.sz, by rw [List.take_append_drop], hp, (cs.drop a.sz).take b.sz, cs.drop (a.sz + b.sz), by rw [← List.drop_drop, List.take_append_drop], hq, (cs.drop (a.sz + b.sz)).take c.sz, (cs.drop (a.sz + b.sz + c.sz)).take d.sz, ?_, hr, hs⟩, hop, hoq, hor, hos⟩
  rw [List.take_of_length_le (l := cs.drop (a.sz + b.sz + c.sz)) (by rw [List.length_drop, hl, hc]; omega)]
  exact (List.take_append_drop c.sz (cs.drop (a.sz + b.sz))).symm.trans (by rw [List.drop_drop])
/-- A slice argument. -/
theorem opn_arg {α : Type} {P : Program} {t e : TypeId} {d : Kd α} {ok : List α → Prop} (h : Opn P t (Kd.slice e d) ok) {H : Type} {enc : TypeId × Value → H} {w : World} {base : Nat} {held : Bool} {a : Option Addr} {len cap : Nat} {x : DataW H} {p : List MemPlace} (hr : DataW.Trod enc P w base (fun _ => true) held t (.slice a len cap) x p) :
    ∃ l : List α, len = l.length ∧ l.length ≤ cap ∧ d.C w a l.length l ∧ ok l := by
  obtain ⟨fuel, hf⟩ := hr
  obtain ⟨l, ⟨A, c, he, hc, hC⟩, ho⟩ := h.2 enc w base held fuel _ _ hf
  simp [Value.cells] at he
  obtain ⟨rfl, rfl, rfl⟩ := he
  exact ⟨l, rfl, hc, hC, ho⟩

end Go.Proofs.Ytohnkicfnfejnaa.Pure
