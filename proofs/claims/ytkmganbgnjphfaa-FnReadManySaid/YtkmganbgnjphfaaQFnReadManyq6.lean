/- Lemmas on the printed functions for the law FnReadMany. -/
import Derived.Test.YtkmganbgnjphfaaGFnReadManyg27
import Derived.Test.YtkmganbgnjphfaaGFnReadManyg29
import Derived.Test.YtkmganbgnjphfaaQFnReadManyq0
import Derived.Test.YtkmganbgnjphfaaQFnReadManyq1
import Derived.Test.YtkmganbgnjphfaaQFnReadManyq2
import Derived.Test.YtkmganbgnjphfaaQFnReadManyq5
import Derived.Deep.RegionHeld3
import Derived.BigRegion
import Derived.Deep.Slices
import Derived.Laws.CopyOwn
namespace Go.Proofs.Ytkmganbgnjphfaa.Pure
set_option linter.unusedVariables false
set_option linter.unusedSimpArgs false
open Go Go.RowKit Go.Proofs.Ytkmganbgnjphfaa.PFnReadMany Go.Proofs.YtkmganbgnjphfaaW.PrintWords Go.Proofs.YtkmganbgnjphfaaW.PrintLast Go.Proofs.YtkmganbgnjphfaaW.PrintMore

theorem laws_sameInts_ev (a b : List Int) (hl : a.length ≤ 1000000000000) : Ev (fun k => laws_sameInts.f k a b) (a == b) := by
  unfold laws_sameInts.f
  by_cases hlen : (a.length : Int) = (b.length : Int)
  · refine Ev.pos hlen ?_
    have := Ev.over (0 : Int) a (fun k (_ : Unit) i => laws_sameInts.l0 k a b i) (fun _ rest => rest == b.drop (a.length - rest.length)) (fun _ _ => True) (by
      intro s _
      refine Ev.succ ?_
      simp only [laws_sameInts.l0]
      refine Ev.eqr (Ev.neg (by omega) (Ev.now _)) ?_
      have : b.drop a.length = [] := List.drop_eq_nil_of_le (by omega)
      simp [this]) (by
      intro s i rest _ hi hdr ih
      have hrl : rest.length + 1 + i = a.length := by
        have := congrArg List.length hdr
        simp at this; omega
      refine Ev.succ ?_
      simp only [laws_sameInts.l0]
      rw [w64 (by omega) (by omega)]
      refine Ev.pos (by omega) (Ev.pos (by omega) (Ev.pos (by omega) ?_))
      have hra : rd a (i : Int) = a.getD i 0 := rfl
      have hrb : rd b (i : Int) = b.getD i 0 := rfl
      rw [hra, hrb]
      have e2 : a.length - (a.getD i 0 :: rest).length = i := by simp; omega
      have e1 : a.length - rest.length = i + 1 := by omega
      have e3 : b.drop i = b.getD i 0 :: b.drop (i + 1) := by
        rw [List.drop_eq_getElem_cons (by omega), List.getD_eq_getElem?_getD, List.getElem?_eq_getElem (by omega)]; rfl
      rw [e2, e3]
      have ih := ih () trivial
      rw [e1] at ih
      by_cases h : a.getD i 0 = b.getD i 0
      · refine Ev.pos h (Ev.eqr ih ?_)
        rw [h, Bool.eq_iff_iff]; simp
      · refine Ev.neg h (Ev.eqr (Ev.now _) ?_)
        symm; rw [beq_eq_false_iff_ne]; intro hc; exact h (List.cons.inj hc).1) 0 () (Nat.zero_le _) trivial
    simpa using this
  · refine Ev.neg hlen (Ev.eqr (Ev.now _) ?_)
    symm; rw [beq_eq_false_iff_ne]; rintro rfl; exact hlen rfl

theorem okR_drop {L : List S37} {S : List Int} (h : okR L S = true) (n : Nat) : okR L (S.drop n) = true := by
  unfold okR at h ⊢
  simp only [Bool.and_eq_true, decide_eq_true_eq] at h ⊢
  refine ⟨h.1, by rw [List.length_drop]; omega, ?_⟩
  rw [List.all_eq_true] at h ⊢
  exact fun x hx => h.2.2 x (List.mem_of_mem_drop hx)
theorem rdO_many {L : List S37} (hv : FsV L) {s : List Int} (hs : s ≠ []) : (rdO L s).f0 = mA (fun t => (rdO L t).f0) s L 0 := by
  rw [rdO_step (fun f hf => (hv.one f hf).1) hs]
  exact rdA_many _ _ _ _ (by decide) (by decide)
theorem FnReadMany_core (l0 : List Int) (hm0 : l0.length ≤ maxLen) (hw : ∀ x ∈ l0, (Lit.int .u8 x).wf = true) : ∃ k, laws_FnReadMany.f k l0 = some true := by
  unfold maxLen at hm0
  have key : Ev (fun k => laws_FnReadMany.f k l0) true := by
    unfold laws_FnReadMany.f
    by_cases hb : (l0.length : Int) > 1048576
    · exact Ev.pos hb (Ev.now _)
    refine Ev.neg hb ?_
    obtain ⟨⟨L, S⟩, hd, hD, hS⟩ := drawBuilt_open l0 hw
    have hS : S.length ≤ 23 := hS
    have hD : DrF L := hD
    have hl : ∀ x ∈ L, x.f0.length ≤ 1000000000000 := fun x hx => by have := hD.2 x hx; omega
    have hll : L.length ≤ 1000000000000 := by have := hD.1; omega
    refine Ev.bind hd ?_
    have hM : ∀ T : List Int, T.length ≤ 23 → impl_FormulasMany.f L T = some (fMany L T) := by
      intro T hT
      unfold impl_FormulasMany.f
      rw [if_pos ⟨hl, by omega⟩]
    refine Ev.conb (hM S hS) (Ev.bind (spec_FormulasMany_ev L S hll hl (by omega)) (Ev.pos rfl (Ev.succ ?_)))
    simp only [laws_FnReadMany.j0]
    by_cases hneg : fMany L S < 0
    · exact Ev.pos (decide_eq_true hneg) (Ev.eqr (Ev.now _) (by simp))
    refine Ev.neg (by simpa using hneg) ?_
    have hok : okR L S = true := by
      cases h : okR L S
      · exfalso; apply hneg; unfold fMany; rw [if_neg (by rw [h]; simp)]; decide
      · rfl
    have hv := FsV.of (okR_of hok).1
    have fM : ∀ n, fMany L (S.drop n) = (rdO L (S.drop n)).f0 := fun n => by unfold fMany; rw [if_pos (okR_drop hok n)]
    have fM0 : fMany L S = (rdO L S).f0 := by have := fM 0; rwa [List.drop_zero] at this
    by_cases hs : S = []
    · subst hs
      refine Ev.pos (by simp) (Ev.eqr (Ev.now _) ?_)
      rw [fM0, rdO_nil]; rfl
    have h0 : S.length ≠ 0 := fun h => hs (List.eq_nil_of_length_eq_zero h)
    refine Ev.neg (by omega) ?_
    have hcl : rdCalls L S = rdC (rdO L) S 0 L := if_neg hs
    have hF : impl_FormulasFirst.f L S = some (fFirst L S) := by
      unfold impl_FormulasFirst.f
      rw [if_pos ⟨hl, by omega⟩]
    have hFl : (fFirst L S).length = (rdC (rdO L) S 0 L).length := by
      unfold fFirst
      rw [if_pos hok, List.length_map, hcl]
    have := Ev.over z37 L (fun k (y : Int × Int) q => laws_FnReadMany.l0 k L S (fMany L S) y.1 y.2 q) (fun _ _ => true) (fun q y => mA (fun t => (rdO L t).f0) S (L.drop q) y.1 = (rdO L S).f0 ∧ y.2 + ((rdC (rdO L) S (q : Int) (L.drop q)).length : Int) = ((rdC (rdO L) S 0 L).length : Int) ∧ 0 ≤ y.2 ∧ y.2 ≤ (q : Int)) (by
      rintro ⟨a, b⟩ ⟨h1, h2, _, _⟩
      rw [List.drop_length] at h1 h2
      simp only [mA] at h1
      simp only [rdC, List.length_nil] at h2
      refine Ev.succ ?_
      simp only [laws_FnReadMany.l0]
      refine Ev.neg (by omega) (Ev.pos (by rw [fM0, h1]) (Ev.conb hF (Ev.eqr (Ev.now _) ?_)))
      rw [beq_iff_eq, hFl]; omega) (by
      rintro ⟨a, b⟩ q rest ⟨h1, h2, h3, h4⟩ hq hdr ih
      have h3 : 0 ≤ b := h3
      have h4 : b ≤ (q : Int) := h4
      have hm : L.getD q z37 ∈ L := by
        rw [List.getD_eq_getElem?_getD, List.getElem?_eq_getElem hq]; exact List.getElem_mem hq
      have hf := hD.2 _ hm
      have hlq := hD.1
      rw [rdC_step hq, List.length_append] at h2
      have e : L.drop q = L.getD q z37 :: L.drop (q + 1) := by
        rw [List.drop_eq_getElem_cons hq, List.getD_eq_getElem?_getD, List.getElem?_eq_getElem hq]; rfl
      rw [e] at h1
      simp only [mA] at h1
      refine Ev.succ ?_
      simp only [laws_FnReadMany.l0]
      have hrd : rd_T37 L (q : Int) = L.getD q z37 := rfl
      rw [hrd]
      generalize L.getD q z37 = f at hf h1 h2
      refine Ev.pos (by omega) (Ev.pos (by omega) ?_)
      have skip : isPre f.f0 S = false → Ev (fun k => laws_FnReadMany.j2 k L S (fMany L S) a b (q : Int) (f.f0.length : Int) true) true := by
        intro hp
        refine Ev.succ ?_
        simp only [laws_FnReadMany.j2]
        rw [w64 (x := (q : Int) + 1) (by omega) (by omega)]
        rw [if_neg (by rw [hp]; simp)] at h1
        rw [if_neg (by rw [hp]; simp), List.length_nil] at h2
        exact Ev.pos trivial (ih (a, b) ⟨h1, by simpa using h2, h3, by show b ≤ _; omega⟩)
      by_cases hlen : (f.f0.length : Int) > (S.length : Int)
      · refine Ev.pos hlen (skip ?_)
        unfold isPre
        rw [decide_eq_false (by omega), Bool.false_and]
      refine Ev.neg hlen (Ev.pos (by omega) (Ev.pos (by omega) ?_))
      rw [Int.toNat_natCast]
      refine Ev.bind (laws_sameInts_ev _ _ (by rw [List.length_take]; omega)) ?_
      have hpe : (S.take f.f0.length == f.f0) = isPre f.f0 S := by
        unfold isPre
        rw [decide_eq_true (by omega), Bool.true_and]
      rw [hpe]
      cases hp : isPre f.f0 S
      · exact skip hp
      rw [if_pos hp] at h1
      rw [if_pos hp] at h2
      refine Ev.succ ?_
      simp only [laws_FnReadMany.j2]
      rw [w64 (x := (q : Int) + 1) (by omega) (by omega), w64 (x := b + 1) (by omega) (by omega)]
      refine Ev.neg (by simp) (Ev.pos (by omega) (Ev.pos (by omega) ?_))
      rw [Int.toNat_natCast]
      refine Ev.conb (hM _ (by rw [List.length_drop]; omega)) ?_
      rw [fM]
      have hb := rdO_bd hv (S.length - f.f0.length) (S.drop f.f0.length) (by rw [List.length_drop]) (by omega)
      have hlo := hb.lo
      by_cases hz : (rdO L (S.drop f.f0.length)).f0 = 0
      · rw [if_pos hz, List.length_nil] at h2
        exact Ev.neg (by omega) (ih (_, b) ⟨h1, by simpa using h2, h3, by show b ≤ _; omega⟩)
      · rw [if_neg hz, List.length_singleton] at h2
        exact Ev.pos (by omega) (ih (_, b + 1) ⟨h1, by show b + 1 + _ = _; push_cast at h2 ⊢; omega, by show 0 ≤ b + 1; omega, by show b + 1 ≤ _; push_cast; omega⟩)) 0 (0, 0) (Nat.zero_le _) ⟨by rw [List.drop_zero, ← rdO_many hv hs], by rw [List.drop_zero]; simp, by simp, by simp⟩
    simpa using this
  exact Ev.rounds key
theorem FnReadMany_walk (l0 : List Int) (A0 : Option Addr) (c0 : Nat) (w : World) (hr0 : Kd.C (Kd.int .u8) w A0 l0.length l0) (hc0 : l0.length ≤ c0) (hw0 : ∀ x ∈ l0, (Lit.int .u8 x).wf = true) (hm0 : l0.length ≤ maxLen) :
    Calls Try.prog 4 #[.slice A0 l0.length c0] w fun e w' => e = .returned (.bool true) ∧ Below w.heap.size w w' := by
  obtain ⟨k, h⟩ := FnReadMany_core l0 hm0 hw0
  exact laws_FnReadMany.calls k A0 c0 l0 true w hr0 hc0 h

/-! arguments that are read as data, as kinds -/
def Opn {α : Type} (P : Program) (t : TypeId) (d : Kd α) (ok : α → Prop) : Prop :=
  P.cellsOf t = d.sz ∧ ∀ {H : Type} (enc : TypeId × Value → H) (w : World) (base : Nat) (held : Bool) (fuel : Nat) (cs : List Value) (x : DataW H × List MemPlace), DataW.trod enc P w base (fun _ => true) held fuel t cs = some x → ∃ p, d.K w p cs ∧ ok p
theorem opn_int {P : Program} {t : TypeId} (k : IntKind) (ht : P.underlying t = some (.int k)) (hc : P.cellsOf t = 1) : Opn P t (Kd.int k) (fun n => (Lit.int k n).wf = true) :=
  ⟨hc, fun enc w base held fuel cs x h => by obtain ⟨n, rfl, _, hw⟩ := DataW.trod_int ht h; exact ⟨n, rfl, hw⟩⟩
theorem opn_bool {P : Program} {t : TypeId} (ht : P.underlying t = some .bool) (hc : P.cellsOf t = 1) : Opn P t Kd.bool (fun _ => True) :=
  ⟨hc, fun enc w base held fuel cs x h => by obtain ⟨n, rfl, _⟩ := DataW.trod_bool ht h; exact ⟨n, rfl, trivial⟩⟩
theorem opn_string {P : Program} {t : TypeId} (ht : P.underlying t = some .string) (hc : P.cellsOf t = 1) : Opn P t Kd.string (fun s => s.size ≤ maxLen) :=
  ⟨hc, fun enc w base held fuel cs x h => by obtain ⟨n, rfl, _, hs⟩ := DataW.trod_string ht h; exact ⟨n, rfl, hs⟩⟩
theorem opn_slice {α : Type} {P : Program} {t e : TypeId} {d : Kd α} {ok : α → Prop} (ht : P.underlying t = some (.slice e)) (hc : P.cellsOf t = 1) (he : Opn P e d ok) : Opn P t (Kd.slice e d) (fun l => (∀ x ∈ l, ok x) ∧ l.length ≤ maxLen) := by
  refine ⟨hc, fun enc w base held fuel cs x h => ?_⟩
  rcases Go.Deep.open_slice ht h with ⟨rfl, _⟩ | ⟨a, len, cap, m, n, D, Pl, rfl, _, hl, hm, hmm, _, hi⟩
  · exact ⟨[], ⟨none, 0, rfl, Nat.le_refl _, rfl, by simp, fun h => by simp at h⟩, by simp, by simp⟩
  · have hmc : m = cap := by simpa using hmm
    clear hmm
    have key : ∀ k, k ≤ len → ∃ l : List α, l.length = k ∧ (∀ x ∈ l, ok x) ∧ ∀ j p, l[j]? = some p → ∃ c, c.length = d.sz ∧ d.K w p c ∧ ∀ i u, c[i]? = some u → w.cell? (a.add (j * d.sz + i)) = some u := by
      intro k
      induction k with
      | zero => intro _; exact ⟨[], rfl, by simp, by simp⟩
      | succ k ih =>
        intro hk
        obtain ⟨l, hll, hlo, hlc⟩ := ih (by omega)
        obtain ⟨cs', hcs, ht'⟩ := hi k (by omega)
        rw [he.1] at hcs
        obtain ⟨p, hp, hop⟩ := he.2 enc w base held n cs' _ ht'
        obtain ⟨_, hcl, hat⟩ := World.cells?_some hcs
        refine ⟨l ++ [p], by simp [hll], ?_, ?_⟩
        · intro x hx
          rcases List.mem_append.1 hx with hx | hx
          · exact hlo x hx
          · rw [List.mem_singleton.1 hx]; exact hop
        · intro j q hq
          by_cases hj : j < l.length
          · rw [List.getElem?_append_left hj] at hq
            exact hlc j q hq
          · have hj2 : j = l.length := by
              have := (List.getElem?_eq_some_iff.1 hq).1
              simp at this; omega
            subst hj2
            rw [List.getElem?_append_right (Nat.le_refl _)] at hq
            simp at hq
            subst hq
            refine ⟨cs', hcl, hp, fun i u hu => ?_⟩
            have hil : i < d.sz := by rw [← hcl]; exact (List.getElem?_eq_some_iff.1 hu).1
            rw [hll, ← Go.Deep.add_add, hat i hil, hu]
    obtain ⟨l, hll, hlo, hlc⟩ := key len (Nat.le_refl _)
    subst hll
    exact ⟨l, ⟨some a, cap, rfl, hl, rfl, by unfold maxLen at hm; omega, fun _ => ⟨a, rfl, hlc⟩⟩, hlo, by omega⟩
theorem opn_iso {α β : Type} {P : Program} {t : TypeId} {d : Kd α} {ok : α → Prop} (h : Opn P t d ok) (f : β → α) (g : α → β) (hfg : ∀ x, f (g x) = x) : Opn P t (Kd.iso d f) (fun y => ok (f y)) :=
  ⟨h.1, fun enc w base held fuel cs x hx => by
    obtain ⟨p, hp, ho⟩ := h.2 enc w base held fuel cs x hx
    exact ⟨g p, by show d.K w (f (g p)) cs; rw [hfg]; exact hp, by show ok (f (g p)); rw [hfg]; exact ho⟩⟩
theorem opn_struct2 {α β : Type} {P : Program} {t : TypeId} {f0 f1 : Field} {a : Kd α} {b : Kd β} {oka : α → Prop} {okb : β → Prop} (ht : P.underlying t = some (.struct #[f0, f1])) (h0 : Opn P f0.type a oka) (h1 : Opn P f1.type b okb)
    (o0 : f0.offset = 0) (o1 : f1.offset = a.sz) (hc : P.cellsOf t = a.sz + b.sz) : Opn P t (Kd.pair a b) (fun p => oka p.1 ∧ okb p.2) := by
  refine ⟨hc, fun enc w base held fuel cs x h => ?_⟩
  obtain ⟨xs, n, _, _, hl, hxl, hg⟩ := DataW.trod_struct ht h
  have g0 := hg 0 f0 rfl
  have g1 := hg 1 f1 rfl
  rw [o0, h0.1, List.drop_zero] at g0
  rw [o1, h1.1] at g1
  rw [List.getElem?_eq_getElem (by rw [hxl]; simp)] at g0 g1
  obtain ⟨p, hp, hop⟩ := h0.2 enc w base held n _ _ g0
  obtain ⟨q, hq, hoq⟩ := h1.2 enc w base held n _ _ g1
  refine ⟨(p, q), ⟨cs.take a.sz, (cs.drop a.sz).take b.sz, ?_, hp, hq⟩, hop, hoq⟩
  rw [List.take_of_length_le (l := cs.drop a.sz) (by rw [List.length_drop, hl, hc]; omega), List.take_append_drop]
theorem opn_struct3 {α β γ : Type} {P : Program} {t : TypeId} {f0 f1 f2 : Field} {a : Kd α} {b : Kd β} {c : Kd γ} {oka : α → Prop} {okb : β → Prop} {okc : γ → Prop} (ht : P.underlying t = some (.struct #[f0, f1, f2])) (h0 : Opn P f0.type a oka) (h1 : Opn P f1.type b okb) (h2 : Opn P f2.type c okc)
    (o0 : f0.offset = 0) (o1 : f1.offset = a.sz) (o2 : f2.offset = a.sz + b.sz) (hc : P.cellsOf t = a.sz + (b.sz + c.sz)) : Opn P t (Kd.pair a (Kd.pair b c)) (fun p => oka p.1 ∧ okb p.2.1 ∧ okc p.2.2) := by
  refine ⟨hc, fun enc w base held fuel cs x h => ?_⟩
  obtain ⟨xs, n, _, _, hl, hxl, hg⟩ := DataW.trod_struct ht h
  have g0 := hg 0 f0 rfl
  have g1 := hg 1 f1 rfl
  have g2 := hg 2 f2 rfl
  rw [o0, h0.1, List.drop_zero] at g0
  rw [o1, h1.1] at g1
  rw [o2, h2.1] at g2
  rw [List.getElem?_eq_getElem (by rw [hxl]; simp)] at g0 g1 g2
  obtain ⟨p, hp, hop⟩ := h0.2 enc w base held n _ _ g0
  obtain ⟨q, hq, hoq⟩ := h1.2 enc w base held n _ _ g1
  obtain ⟨r, hr, hor⟩ := h2.2 enc w base held n _ _ g2
  refine ⟨(p, q, r), ⟨cs.take a.sz, cs.drop a.sz, by rw [List.take_append_drop], hp, (cs.drop a.sz).take b.sz, (cs.drop (a.sz + b.sz)).take c.sz, ?_, hq, hr⟩, hop, hoq, hor⟩
  rw [List.take_of_length_le (l := cs.drop (a.sz + b.sz)) (by rw [List.length_drop, hl, hc]; omega), ← List.drop_drop, List.take_append_drop]
theorem opn_struct4 {α β γ δ : Type} {P : Program} {t : TypeId} {f0 f1 f2 f3 : Field} {a : Kd α} {b : Kd β} {c : Kd γ} {d : Kd δ} {oka : α → Prop} {okb : β → Prop} {okc : γ → Prop} {okd : δ → Prop} (ht : P.underlying t = some (.struct #[f0, f1, f2, f3])) (h0 : Opn P f0.type a oka) (h1 : Opn P f1.type b okb) (h2 : Opn P f2.type c okc) (h3 : Opn P f3.type d okd)
    (o0 : f0.offset = 0) (o1 : f1.offset = a.sz) (o2 : f2.offset = a.sz + b.sz) (o3 : f3.offset = a.sz + b.sz + c.sz) (hc : P.cellsOf t = a.sz + (b.sz + (c.sz + d.sz))) : Opn P t (Kd.pair a (Kd.pair b (Kd.pair c d))) (fun p => oka p.1 ∧ okb p.2.1 ∧ okc p.2.2.1 ∧ okd p.2.2.2) := by
  refine ⟨hc, fun enc w base held fuel cs x h => ?_⟩
  obtain ⟨xs, n, _, _, hl, hxl, hg⟩ := DataW.trod_struct ht h
  have g0 := hg 0 f0 rfl
  have g1 := hg 1 f1 rfl
  have g2 := hg 2 f2 rfl
  have g3 := hg 3 f3 rfl
  rw [o0, h0.1, List.drop_zero] at g0
  rw [o1, h1.1] at g1
  rw [o2, h2.1] at g2
  rw [o3, h3.1] at g3
  rw [List.getElem?_eq_getElem (by rw [hxl]; simp)] at g0 g1 g2 g3
  obtain ⟨p, hp, hop⟩ := h0.2 enc w base held n _ _ g0
  obtain ⟨q, hq, hoq⟩ := h1.2 enc w base held n _ _ g1
  obtain ⟨r, hr, hor⟩ := h2.2 enc w base held n _ _ g2
  obtain ⟨s, hs, hos⟩ := h3.2 enc w base held n _ _ g3
  refine ⟨(p, q, r, s), ⟨cs.take a.sz, cs.drop a.sz, by rw [List.take_append_drop], hp, (cs.drop a.sz).take b.sz, cs.drop (a.sz + b.sz), by rw [← List.drop_drop, List.take_append_drop], hq, (cs.drop (a.sz + b.sz)).take c.sz, (cs.drop (a.sz + b.sz + c.sz)).take d.sz, ?_, hr, hs⟩, hop, hoq, hor, hos⟩
  rw [List.take_of_length_le (l := cs.drop (a.sz + b.sz + c.sz)) (by rw [List.length_drop, hl, hc]; omega)]
  exact (List.take_append_drop c.sz (cs.drop (a.sz + b.sz))).symm.trans (by rw [List.drop_drop])
/-- A slice argument. -/
theorem opn_arg {α : Type} {P : Program} {t e : TypeId} {d : Kd α} {ok : List α → Prop} (h : Opn P t (Kd.slice e d) ok) {H : Type} {enc : TypeId × Value → H} {w : World} {base : Nat} {held : Bool} {a : Option Addr} {len cap : Nat} {x : DataW H} {p : List MemPlace} (hr : DataW.Trod enc P w base (fun _ => true) held t (.slice a len cap) x p) :
    ∃ l : List α, len = l.length ∧ l.length ≤ cap ∧ d.C w a l.length l ∧ ok l := by
  obtain ⟨fuel, hf⟩ := hr
  obtain ⟨l, ⟨A, c, he, hc, hC⟩, ho⟩ := h.2 enc w base held fuel _ _ hf
  simp [Value.cells] at he
  obtain ⟨rfl, rfl, rfl⟩ := he
  exact ⟨l, rfl, hc, hC, ho⟩

end Go.Proofs.Ytkmganbgnjphfaa.Pure
