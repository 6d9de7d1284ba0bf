/- Lemmas for the law FnExactTonaryMode. -/
import Derived.Test.YtmacedbpdhkagaaDoorSFnExactTonaryModes2
namespace Go.Proofs.YtmacedbpdhkagaaDoor.Pure
set_option linter.unusedVariables false
set_option linter.unusedSimpArgs false
open Go Go.RowKit Go.Proofs.YtmacedbpdhkagaaDoor.PFnExactTonaryMode Go.Proofs.YtmacedbpdhkagaaDoorW.PrintWords Go.Proofs.YtmacedbpdhkagaaDoorW.PrintLast Go.Proofs.YtmacedbpdhkagaaDoorW.PrintMore

theorem spec_l6In_eq (a b c : Int) : spec_l6In.f a b c = some (decide (b ≤ a ∧ a ≤ c)) := by
 unfold spec_l6In.f
 by_cases h : a ≥ b
 ·
  rw [if_pos h]; simp [show b ≤ a from h]
 ·
  rw [if_neg h]; simp [show ¬ b ≤ a from h]
theorem spec_ToneValid_eq (a : Int) (b : Bool) : spec_ToneValid.f a b = some (toneOk ⟨a, b⟩) := by
 unfold spec_ToneValid.f toneOk
 rw [spec_l6In_eq]
 by_cases h : 0 ≤ a ∧ a ≤ 20
 ·
  cases b <;> simp [h, spec_l1Letter.f]
 ·
  simp [h]
theorem spec_MelodyValid_ev (m : List S90) (hm : m.length ≤ 1000000000000) : Ev (fun k => spec_MelodyValid.f k m) (melOk m) := by
 unfold spec_MelodyValid.f
 have := Ev.over z90 m (fun k (_ : Unit) i => spec_MelodyValid.l0 k m i) (fun _ l => l.all toneOk && decide (m.length ≤ 24)) (fun _ _ => True) (by
  intro s _
  refine Ev.succ ?_
  simp only [spec_MelodyValid.l0]
  refine Ev.eqr (Ev.neg (by omega) (Ev.now _)) ?_
  simp; omega) (by
  intro s i rest _ hi _ ih
  refine Ev.succ ?_
  simp only [spec_MelodyValid.l0]
  refine Ev.pos (by omega) (Ev.pos (by omega) (Ev.conb (spec_ToneValid_eq _ _) ?_))
  show Ev _ (toneOk (rd_T90 m i) && _ && _)
  cases ht : toneOk (rd_T90 m i)
  ·
   exact Ev.neg (by simp [ht]) (Ev.now _)
  ·
   refine Ev.pos (by simp [ht]) ?_
   rw [w64 (by omega) (by omega)]
   simpa using ih () trivial) 0 () (Nat.zero_le _) trivial
 refine Ev.eqr (by simpa using this) ?_
 unfold melOk
 rw [Bool.and_comm]

theorem spec_l5Mode_eq (mode : Int) : spec_l5Mode.f mode = some (mOk mode) := by
 unfold spec_l5Mode.f
 rw [spec_l6In_eq]; rfl
theorem spec_l5Entry_ev (e : S38) (hs : e.f0.size ≤ 9000000000000000) (hl : e.f2.length ≤ 1000000000000) : Ev (fun n => spec_l5Entry.f n e.f0 e.f1 e.f2) (entOk e) := by
 unfold spec_l5Entry.f
 have key : ∀ d i : Nat, i + d = e.f0.size → Ev (fun n => spec_l5Entry.l0 n (i : Int) e.f0 e.f1 e.f2) (lowB (e.f0.data.toList.drop i) && (decide (1 ≤ e.f0.size ∧ e.f0.size ≤ 10) && (mOk e.f1 && (melOk e.f2 && decide (1 ≤ e.f2.length ∧ e.f2.length ≤ 8))))) := by
  intro d
  induction d with
  | zero =>
   intro i hi
   refine Ev.succ ?_
   simp only [spec_l5Entry.l0]
   rw [List.drop_of_length_le (by simp; omega)]
   refine Ev.neg (by omega) (Ev.conb (spec_l6In_eq _ _ _) ?_)
   rw [show (decide ((1 : Int) ≤ (e.f0.size : Int) ∧ (e.f0.size : Int) ≤ 10)) = decide (1 ≤ e.f0.size ∧ e.f0.size ≤ 10) from decide_eq_decide.2 (by omega)]
   show Ev _ (true && _)
   rw [Bool.true_and]
   cases decide (1 ≤ e.f0.size ∧ e.f0.size ≤ 10)
   ·
    exact Ev.neg (by simp) (Ev.now _)
   refine Ev.pos rfl (Ev.conb (spec_l5Mode_eq _) ?_)
   rw [Bool.true_and]
   cases mOk e.f1
   ·
    exact Ev.neg (by simp) (Ev.now _)
   refine Ev.pos rfl (Ev.bind (spec_MelodyValid_ev e.f2 hl) ?_)
   rw [Bool.true_and]
   cases melOk e.f2
   ·
    exact Ev.neg (by simp) (Ev.now _)
   refine Ev.pos rfl (Ev.conb (spec_l6In_eq _ _ _) (Ev.eqr (Ev.now _) ?_))
   rw [Bool.true_and]
   exact decide_eq_decide.2 (by omega)
  | succ d ih =>
   intro i hi
   obtain ⟨c, hc, hdr⟩ := bt_get e.f0 i (by omega)
   refine Ev.succ ?_
   simp only [spec_l5Entry.l0]
   rw [hc, hdr, w64 (x := (i : Int) + 1) (by omega) (by omega)]
   have e2 : lowB (c :: e.f0.data.toList.drop (i + 1)) = (decide (97 ≤ c.toNat ∧ c.toNat ≤ 122) && lowB (e.f0.data.toList.drop (i + 1))) := rfl
   rw [e2]
   refine Ev.pos (by omega) (Ev.pos (by omega) ?_)
   by_cases h97 : (c.toNat : Int) < 97
   ·
    refine Ev.pos h97 (Ev.eqr (Ev.now _) ?_)
    rw [decide_eq_false (by omega)]; rfl
   refine Ev.neg h97 ?_
   by_cases h122 : (c.toNat : Int) > 122
   ·
    refine Ev.pos h122 (Ev.eqr (Ev.now _) ?_)
    rw [decide_eq_false (by omega)]; rfl
   refine Ev.neg h122 ?_
   rw [decide_eq_true (show 97 ≤ c.toNat ∧ c.toNat ≤ 122 by omega), Bool.true_and]
   exact ih (i + 1) (by omega)
 refine Ev.eqr (key e.f0.size 0 (by omega)) ?_
 unfold entOk
 rw [List.drop_zero]
 cases lowB e.f0.data.toList <;> cases mOk e.f1 <;> cases melOk e.f2 <;> cases decide (1 ≤ e.f0.size ∧ e.f0.size ≤ 10) <;> cases decide (1 ≤ e.f2.length ∧ e.f2.length ≤ 8) <;> rfl
theorem spec_l5Before_eq (p e : S38) : spec_l5Before.f p.f0 p.f1 p.f2 e.f0 e.f1 e.f2 = some (befE p e) := by
 unfold spec_l5Before.f befE nmLt
 by_cases h1 : p.f1 < e.f1
 ·
  rw [if_pos h1, if_pos h1]
 rw [if_neg h1, if_neg h1]
 by_cases h2 : p.f1 = e.f1
 ·
  rw [if_pos h2, if_pos h2]
 ·
  rw [if_neg h2, if_neg h2]
theorem spec_TonaryValid_ev (L : List S38) (hl : L.length ≤ 1000000000000) (hz : entSz L = true) : Ev (fun n => spec_TonaryValid.f n L) (tonOk L) := by
 have HZ := entSz_all hz
 unfold spec_TonaryValid.f
 have key : ∀ d i : Nat, i + d = L.length → Ev (fun n => spec_TonaryValid.l0 n L (i : Int)) (tOkFrom (prevOf L i) (L.drop i) && decide (L.length ≤ 20)) := by
  intro d
  induction d with
  | zero =>
   intro i hi
   refine Ev.succ ?_
   simp only [spec_TonaryValid.l0]
   rw [List.drop_of_length_le (by omega)]
   refine Ev.neg (by omega) (Ev.eqr (Ev.now _) ?_)
   have : tOkFrom (prevOf L i) [] = true := by cases prevOf L i <;> rfl
   rw [this, Bool.true_and]
   exact decide_eq_decide.2 (by omega)
  | succ d ih =>
   intro i hi
   have hlt : i < L.length := by omega
   have hzi := HZ _ (rd_ent L i hlt)
   have ih := ih (i + 1) (by omega)
   rw [prev_next] at ih
   refine Ev.succ ?_
   simp only [spec_TonaryValid.l0]
   rw [rd_drop L i hlt, w64 (x := (i : Int) + 1) (by omega) (by omega)]
   refine Ev.pos (by omega) (Ev.pos (by omega) (Ev.bind (spec_l5Entry_ev (rd_T38 L (i : Int)) hzi.1 hzi.2) ?_))
   cases hve : entOk (rd_T38 L (i : Int))
   ·
    refine Ev.neg (by simp) (Ev.eqr (Ev.now _) ?_)
    cases prevOf L i <;> (simp only [tOkFrom]; rw [hve]; rfl)
   refine Ev.pos rfl ?_
   by_cases h0 : (i : Int) > 0
   ·
    refine Ev.pos h0 ?_
    rw [w64 (x := (i : Int) - 1) (by omega) (by omega)]
    have hp : prevOf L i = some (rd_T38 L ((i : Int) - 1)) := by unfold prevOf; rw [if_neg (by omega)]
    refine Ev.pos (by omega) (Ev.pos (by omega) (Ev.conb (spec_l5Before_eq _ _) ?_))
    rw [hp]
    simp only [tOkFrom]
    rw [hve, Bool.true_and]
    cases befE (rd_T38 L ((i : Int) - 1)) (rd_T38 L (i : Int))
    ·
     exact Ev.neg (by simp) (Ev.now _)
    ·
     refine Ev.pos rfl ?_
     rw [Bool.true_and]
     exact ih
   ·
    refine Ev.neg h0 ?_
    have hp : prevOf L i = none := by unfold prevOf; rw [if_pos (by omega)]
    rw [hp]
    simp only [tOkFrom]
    rw [hve, Bool.true_and]
    exact ih
 refine Ev.eqr (key L.length 0 (by omega)) ?_
 unfold tonOk
 rw [Bool.and_comm, List.drop_zero]; rfl

theorem entSz_of {L : List S38} (h : EntrySz L ≤ 1000000000000) : entSz L = true :=
 List.all_eq_true.2 fun e he => decide_eq_true (by have := EntrySz_get he; omega)
theorem esz_filter (p : S38 → Bool) : ∀ L : List S38, esz (L.filter p) ≤ esz L
 | [] => by simp [esz]
 | x :: xs => by
  have := esz_filter p xs
  simp only [List.filter_cons, esz]
  split
  ·
   simp only [esz]; omega
  ·
   omega
theorem EntrySz_filter (p : S38 → Bool) (L : List S38) : EntrySz (L.filter p) ≤ EntrySz L := by
 have := esz_filter p L
 have := List.length_filter_le p L
 unfold EntrySz; omega
theorem tonMode_sz (L : List S38) (mode : Int) : EntrySz (tonMode L mode) ≤ EntrySz L := by
 unfold tonMode
 split
 ·
  exact EntrySz_filter _ _
 ·
  exact EntrySz_nn L
theorem spec_l5Copy_eq (e : S38) (h : e.f2.length ≤ 1000000000000) : spec_l5Copy.f e.f0 e.f1 e.f2 = some (e.f0, e.f1, e.f2) := by
 unfold spec_l5Copy.f
 simp only [Option.bind_some, List.nil_append, List.length_nil]
 rw [if_pos (by omega)]
theorem spec_TonaryMode_ev (L : List S38) (mode : Int) (hl : EntrySz L ≤ 1000000000000) : Ev (fun n => spec_TonaryMode.f n L mode) (tonMode L mode) := by
 have hz := entSz_of hl
 have hll := EntrySz_len L
 have hv := spec_TonaryValid_ev L (by omega) hz
 unfold spec_TonaryMode.f tonMode
 cases hk : tonOk L
 ·
  rw [hk] at hv
  rw [if_neg (by decide)]
  refine Ev.succ ?_
  simp only [spec_TonaryMode.l0]
  by_cases h0 : (0 : Int) < (L.length : Int)
  ·
   refine Ev.pos h0 (Ev.bind hv ?_)
   refine Ev.succ ?_
   simp only [spec_TonaryMode.j1]
   exact Ev.neg (by simp) (Ev.now _)
  ·
   refine Ev.neg h0 ?_
   refine Ev.succ ?_
   simp only [spec_TonaryMode.j1]
   exact Ev.neg (by simp) (Ev.now _)
 rw [hk] at hv
 rw [if_pos rfl]
 have key : ∀ (d i : Nat) (X : List S38), i + d = L.length → X.length ≤ i → Ev (fun n => spec_TonaryMode.l0 n L mode X (i : Int)) (X ++ (L.drop i).filter (fun e => e.f1 == mode)) := by
  intro d
  induction d with
  | zero =>
   intro i X hi hX
   refine Ev.succ ?_
   simp only [spec_TonaryMode.l0]
   refine Ev.neg (by omega) ?_
   refine Ev.succ ?_
   simp only [spec_TonaryMode.j1]
   rw [List.drop_of_length_le (by omega)]
   refine Ev.neg (by simp) (Ev.eqr (Ev.now _) ?_)
   simp
  | succ d ih =>
   intro i X hi hX
   have hlt : i < L.length := by omega
   have hm := rd_ent L i hlt
   have hg := EntrySz_get hm
   refine Ev.succ ?_
   simp only [spec_TonaryMode.l0]
   refine Ev.pos (by omega) (Ev.bind hv ?_)
   refine Ev.succ ?_
   simp only [spec_TonaryMode.j1]
   rw [rd_drop L i hlt, w64 (x := (i : Int) + 1) (by omega) (by omega)]
   refine Ev.pos (by simp) (Ev.pos (by omega) (Ev.pos (by omega) ?_))
   by_cases hmo : (rd_T38 L (i : Int)).f1 = mode
   ·
    refine Ev.pos hmo (Ev.conb (spec_l5Copy_eq _ (by omega)) (Ev.pos (by omega) ?_))
    refine Ev.eqr (ih (i + 1) _ (by omega) (by rw [List.length_append, List.length_singleton]; omega)) ?_
    rw [List.filter_cons, if_pos (by rw [hmo]; simp), List.append_assoc]; rfl
   ·
    refine Ev.neg hmo ?_
    refine Ev.eqr (ih (i + 1) X (by omega) (by omega)) ?_
    rw [List.filter_cons, if_neg (by simpa using hmo)]
 have := key L.length 0 [] (by omega) (by simp)
 simpa using this
theorem spec_TonaryMode_x (L : List S38) (mode : Int) (A0 : Option Addr) (c0 : Nat) (w : World) (hr0 : Kd.C k38 w A0 L.length L) (hc0 : L.length ≤ c0) (hl : EntrySz L ≤ 1000000000000) :
 Calls Tryd.prog 25 #[.slice A0 L.length c0, .int .i64 mode] w fun e w' => ∃ v, e = .returned v ∧ Kd.S k38 38 w' w.heap.size (fun _ => True) v (tonMode L mode) ∧ Below w.heap.size w w' := by
 obtain ⟨k, h⟩ := Ev.rounds (spec_TonaryMode_ev L mode hl)
 exact (spec_TonaryMode.calls k A0 c0 L mode _ w hr0 hc0 h).mono (fun e w' h => h)
theorem impl_TonaryMode_x (L : List S38) (mode : Int) (A0 : Option Addr) (c0 : Nat) (w : World) (ht : MTab w) (hr0 : Kd.C k38 w A0 L.length L) (hc0 : L.length ≤ c0) (hl : EntrySz L ≤ 1000000000000) :
 Calls Tryd.prog 23 #[.slice A0 L.length c0, .int .i64 mode] w fun e w' => ∃ v, e = .returned v ∧ Kd.S k38 38 w' w.heap.size (fun _ => True) v (tonMode L mode) ∧ Below w.heap.size w w' :=
 impl_TonaryMode_calls L mode A0 c0 w ht hr0 hc0 (entSz_of hl)

end Go.Proofs.YtmacedbpdhkagaaDoor.Pure
namespace Go.Proofs.YtmacedbpdhkagaaDoor.Pure
set_option linter.unusedVariables false
set_option linter.unusedSimpArgs false
open Go Go.RowKit Go.Proofs.YtmacedbpdhkagaaDoor.PFnExactTonaryMode Go.Proofs.YtmacedbpdhkagaaDoorW.PrintWords Go.Proofs.YtmacedbpdhkagaaDoorW.PrintLast Go.Proofs.YtmacedbpdhkagaaDoorW.PrintMore

def Opn {α : Type} (P : Program) (t : TypeId) (d : Kd α) (ok : α → Prop) : Prop :=
 P.cellsOf t = d.sz ∧ ∀ {H : Type} (enc : TypeId × Value → H) (w : World) (base : Nat) (held : Bool) (fuel : Nat) (cs : List Value) (x : DataW H × List MemPlace), DataW.trod enc P w base (fun _ => true) held fuel t cs = some x → ∃ p, d.K w p cs ∧ ok p
theorem opn_int {P : Program} {t : TypeId} (k : IntKind) (ht : P.underlying t = some (.int k)) (hc : P.cellsOf t = 1) : Opn P t (Kd.int k) (fun n => (Lit.int k n).wf = true) :=
 ⟨hc, fun enc w base held fuel cs x h => by obtain ⟨n, rfl, _, hw⟩ := DataW.trod_int ht h; exact ⟨n, rfl, hw⟩⟩
theorem opn_bool {P : Program} {t : TypeId} (ht : P.underlying t = some .bool) (hc : P.cellsOf t = 1) : Opn P t Kd.bool (fun _ => True) :=
 ⟨hc, fun enc w base held fuel cs x h => by obtain ⟨n, rfl, _⟩ := DataW.trod_bool ht h; exact ⟨n, rfl, trivial⟩⟩
theorem opn_string {P : Program} {t : TypeId} (ht : P.underlying t = some .string) (hc : P.cellsOf t = 1) : Opn P t Kd.string (fun s => s.size ≤ maxLen) :=
 ⟨hc, fun enc w base held fuel cs x h => by obtain ⟨n, rfl, _, hs⟩ := DataW.trod_string ht h; exact ⟨n, rfl, hs⟩⟩
theorem opn_slice {α : Type} {P : Program} {t e : TypeId} {d : Kd α} {ok : α → Prop} (ht : P.underlying t = some (.slice e)) (hc : P.cellsOf t = 1) (he : Opn P e d ok) : Opn P t (Kd.slice e d) (fun l => (∀ x ∈ l, ok x) ∧ l.length ≤ maxLen) := by
 refine ⟨hc, fun enc w base held fuel cs x h => ?_⟩
 rcases Go.Deep.open_slice ht h with ⟨rfl, _⟩ | ⟨a, len, cap, m, n, D, Pl, rfl, _, hl, hm, hmm, _, hi⟩
 ·
  exact ⟨[], ⟨none, 0, rfl, Nat.le_refl _, rfl, by simp, fun h => by simp at h⟩, by simp, by simp⟩
 ·
  have hmc : m = cap := by simpa using hmm
  clear hmm
  have key : ∀ k, k ≤ len → ∃ l : List α, l.length = k ∧ (∀ x ∈ l, ok x) ∧ ∀ j p, l[j]? = some p → ∃ c, c.length = d.sz ∧ d.K w p c ∧ ∀ i u, c[i]? = some u → w.cell? (a.add (j * d.sz + i)) = some u := by
   intro k
   induction k with
   | zero => intro _; exact ⟨[], rfl, by simp, by simp⟩
   | succ k ih =>
    intro hk
    obtain ⟨l, hll, hlo, hlc⟩ := ih (by omega)
    obtain ⟨cs', hcs, ht'⟩ := hi k (by omega)
    rw [he.1] at hcs
    obtain ⟨p, hp, hop⟩ := he.2 enc w base held n cs' _ ht'
    obtain ⟨_, hcl, hat⟩ := World.cells?_some hcs
    refine ⟨l ++ [p], by simp [hll], ?_, ?_⟩
    ·
     intro x hx
     rcases List.mem_append.1 hx with hx | hx
     ·
      exact hlo x hx
     ·
      rw [List.mem_singleton.1 hx]; exact hop
    ·
     intro j q hq
     by_cases hj : j < l.length
     ·
      rw [List.getElem?_append_left hj] at hq
      exact hlc j q hq
     ·
      have hj2 : j = l.length := by
       have := (List.getElem?_eq_some_iff.1 hq).1
       simp at this; omega
      subst hj2
      rw [List.getElem?_append_right (Nat.le_refl _)] at hq
      simp at hq
      subst hq
      refine ⟨cs', hcl, hp, fun i u hu => ?_⟩
      have hil : i < d.sz := by rw [← hcl]; exact (List.getElem?_eq_some_iff.1 hu).1
      rw [hll, ← Go.Deep.add_add, hat i hil, hu]
  obtain ⟨l, hll, hlo, hlc⟩ := key len (Nat.le_refl _)
  subst hll
  exact ⟨l, ⟨some a, cap, rfl, hl, rfl, by unfold maxLen at hm; omega, fun _ => ⟨a, rfl, hlc⟩⟩, hlo, by omega⟩
theorem opn_iso {α β : Type} {P : Program} {t : TypeId} {d : Kd α} {ok : α → Prop} (h : Opn P t d ok) (f : β → α) (g : α → β) (hfg : ∀ x, f (g x) = x) : Opn P t (Kd.iso d f) (fun y => ok (f y)) :=
 ⟨h.1, fun enc w base held fuel cs x hx => by
  obtain ⟨p, hp, ho⟩ := h.2 enc w base held fuel cs x hx
  exact ⟨g p, by show d.K w (f (g p)) cs; rw [hfg]; exact hp, by show ok (f (g p)); rw [hfg]; exact ho⟩⟩
theorem opn_struct2 {α β : Type} {P : Program} {t : TypeId} {f0 f1 : Field} {a : Kd α} {b : Kd β} {oka : α → Prop} {okb : β → Prop} (ht : P.underlying t = some (.struct #[f0, f1])) (h0 : Opn P f0.type a oka) (h1 : Opn P f1.type b okb)
 (o0 : f0.offset = 0) (o1 : f1.offset = a.sz) (hc : P.cellsOf t = a.sz + b.sz) : Opn P t (Kd.pair a b) (fun p => oka p.1 ∧ okb p.2) := by
 refine ⟨hc, fun enc w base held fuel cs x h => ?_⟩
 obtain ⟨xs, n, _, _, hl, hxl, hg⟩ := DataW.trod_struct ht h
 have g0 := hg 0 f0 rfl
 have g1 := hg 1 f1 rfl
 rw [o0, h0.1, List.drop_zero] at g0
 rw [o1, h1.1] at g1
 rw [List.getElem?_eq_getElem (by rw [hxl]; simp)] at g0 g1
 obtain ⟨p, hp, hop⟩ := h0.2 enc w base held n _ _ g0
 obtain ⟨q, hq, hoq⟩ := h1.2 enc w base held n _ _ g1
 refine ⟨(p, q), ⟨cs.take a.sz, (cs.drop a.sz).take b.sz, ?_, hp, hq⟩, hop, hoq⟩
 rw [List.take_of_length_le (l := cs.drop a.sz) (by rw [List.length_drop, hl, hc]; omega), List.take_append_drop]
theorem opn_struct3 {α β γ : Type} {P : Program} {t : TypeId} {f0 f1 f2 : Field} {a : Kd α} {b : Kd β} {c : Kd γ} {oka : α → Prop} {okb : β → Prop} {okc : γ → Prop} (ht : P.underlying t = some (.struct #[f0, f1, f2])) (h0 : Opn P f0.type a oka) (h1 : Opn P f1.type b okb) (h2 : Opn P f2.type c okc)
 (o0 : f0.offset = 0) (o1 : f1.offset = a.sz) (o2 : f2.offset = a.sz + b.sz) (hc : P.cellsOf t = a.sz + (b.sz + c.sz)) : Opn P t (Kd.pair a (Kd.pair b c)) (fun p => oka p.1 ∧ okb p.2.1 ∧ okc p.2.2) := by
 refine ⟨hc, fun enc w base held fuel cs x h => ?_⟩
 obtain ⟨xs, n, _, _, hl, hxl, hg⟩ := DataW.trod_struct ht h
 have g0 := hg 0 f0 rfl
 have g1 := hg 1 f1 rfl
 have g2 := hg 2 f2 rfl
 rw [o0, h0.1, List.drop_zero] at g0
 rw [o1, h1.1] at g1
 rw [o2, h2.1] at g2
 rw [List.getElem?_eq_getElem (by rw [hxl]; simp)] at g0 g1 g2
 obtain ⟨p, hp, hop⟩ := h0.2 enc w base held n _ _ g0
 obtain ⟨q, hq, hoq⟩ := h1.2 enc w base held n _ _ g1
 obtain ⟨r, hr, hor⟩ := h2.2 enc w base held n _ _ g2
 refine ⟨(p, q, r), ⟨cs.take a.sz, cs.drop a.sz, by rw [List.take_append_drop], hp, (cs.drop a.sz).take b.sz, (cs.drop (a.sz + b.sz)).take c.sz, ?_, hq, hr⟩, hop, hoq, hor⟩
 rw [List.take_of_length_le (l := cs.drop (a.sz + b.sz)) (by rw [List.length_drop, hl, hc]; omega), ← List.drop_drop, List.take_append_drop]
/-- A slice argument. -/
theorem opn_arg {α : Type} {P : Program} {t e : TypeId} {d : Kd α} {ok : List α → Prop} (h : Opn P t (Kd.slice e d) ok) {H : Type} {enc : TypeId × Value → H} {w : World} {base : Nat} {held : Bool} {a : Option Addr} {len cap : Nat} {x : DataW H} {p : List MemPlace} (hr : DataW.Trod enc P w base (fun _ => true) held t (.slice a len cap) x p) :
 ∃ l : List α, len = l.length ∧ l.length ≤ cap ∧ d.C w a l.length l ∧ ok l := by
 obtain ⟨fuel, hf⟩ := hr
 obtain ⟨l, ⟨A, c, he, hc, hC⟩, ho⟩ := h.2 enc w base held fuel _ _ hf
 simp [Value.cells] at he
 obtain ⟨rfl, rfl, rfl⟩ := he
 exact ⟨l, rfl, hc, hC, ho⟩

set_option maxHeartbeats 8000000 in
set_option maxRecDepth 100000 in
theorem FnExactTonaryMode_walk (l : List S62) (mode : Int) (Al : Option Addr) (cl : Nat) (w : World) (ht : MTab w) (hrl : Kd.C k62 w Al l.length l) (hcl : l.length ≤ cl) (hwl : ∀ x ∈ l, x.f0.size ≤ maxLen ∧ (Lit.int .i64 x.f1).wf = true ∧ x.f2.length ≤ maxLen) (hml : l.length ≤ maxLen) :
 Calls Tryd.prog 6 #[.slice Al l.length cl, .int .i64 mode] w fun e w' => e = .returned (.bool true) ∧ Below w.heap.size w w' := by
 have HT := Aside0.mk ht
 clear ht
 have HRl := Aside0.mk hrl
 have HCl := Aside0.mk hcl
 unfold maxLen at hml
 clear hrl hcl
 have HWl := Aside0.mk hwl
 clear hwl
 by_cases z0 : (1048576 : Int) - EntrySz (l.map convEntry) < 0
 ·
  go_enter Tryd.func6, Tryd.ntmps6
  go_wp2_with fail
  refine (EntryS_sz l _ _ _ _ (by omega) (by omega) (by omega) (fun x hx => by have := HWl.out x hx; unfold maxLen at this; omega) HRl.out HCl.out).mono ?_
  rintro _ ws0 ⟨e0', rfl, he0', hb⟩
  have hb0 := hb
  have u0 : decide (e0' < 0) = true := by rw [he0', if_pos z0]; rfl
  clear he0' z0
  go_wp2
  go_ret
  exact ⟨rfl, hb0⟩
 obtain ⟨e0, he0⟩ : ∃ e : Int, e = (1048576 : Int) - EntrySz (l.map convEntry) := ⟨_, rfl⟩
 have n0 := EntrySz_len (l.map convEntry)
 rw [List.length_map] at n0
 have t0 : decide (e0 < 0) = false := decide_eq_false (by omega)
 have y0 : l.length ≤ 1048576 := by omega
 have y0' : 0 ≤ e0 ∧ e0 ≤ 1048576 := by omega
 have q0 : EntrySz (l.map convEntry) ≤ 1048576 := by omega
 clear n0
 replace he0 := Aside0.mk he0
 obtain ⟨xl, hxl⟩ : ∃ x, x = l.map convEntry := ⟨_, rfl⟩
 have lxl : xl.length ≤ 1048576 := by rw [hxl, List.length_map]; omega
 have lzl : EntrySz xl ≤ 1048576 := by rw [hxl]; omega
 have lyl : 0 ≤ EntrySz xl := EntrySz_nn xl
 have lml := emk_sz xl
 have lnl := emk_nn xl
 have Xl := Aside0.mk hxl
 clear hxl
 skip
 obtain ⟨r0, hres⟩ : ∃ r0, tonMode xl mode = (r0) := ⟨_, rfl⟩
 have lr : EntrySz r0 ≤ 2000000 := by have := tonMode_sz xl mode; rw [hres] at this; omega
 have lr1 : r0.length ≤ 2000000 := by have := EntrySz_len r0; omega
 have lr2 := EntrySz_nn r0
 have lr3 := emk_sz r0
 have lr4 := emk_nn r0
 have RES := Aside0.mk hres
 clear hres
 go_enter Tryd.func6, Tryd.ntmps6
 go_wp2_with fail
 refine (EntryS_sz l _ _ _ _ (by omega) (by omega) (by omega) (fun x hx => by have := HWl.out x hx; unfold maxLen at this; omega) HRl.out HCl.out).mono ?_
 rintro _ w1 ⟨e', rfl, he', hb⟩
 obtain rfl : e' = e0 := by have := he0.out; rw [he', if_neg (by omega), this]
 clear he'
 have HB := Aside0.mk hb
 have S1 := Aside0.mk hb.size
 go_wp2_with fail
 refine (EntryS_to l _ _ _ (by omega) (Kd.C_below HRl.out HB.out) HCl.out).mono ?_
 rintro _ w2 ⟨vsl, rfl, ho, hb⟩
 rw [← Xl.out] at ho
 obtain ⟨Asl, csl, rfl, _, _⟩ := Kd.S_reads ho
 have Osl := Aside0.mk (OwnS.make ho HB.out.size)
 clear ho
 replace HB := Aside0.mk (below_step HB.out hb)
 have S2 := Aside0.mk hb.size
 go_wp2_with fail
 refine (spec_TonaryMode_x xl mode _ _ _ Osl.out.C Osl.out.cap (by omega)).mono ?_
 rintro _ w3 ⟨v, rfl, ho, hb⟩
 simp only [RES.out] at ho ⊢
 obtain ⟨AW, cW, rfl, _, _⟩ := Kd.S_reads ho
 replace Osl := Aside0.mk (Osl.out.below hb)
 have OW := Aside0.mk (OwnS.make ho HB.out.size)
 clear ho
 replace HB := Aside0.mk (below_step HB.out hb)
 have S3 := Aside0.mk hb.size
 clear Osl
 go_wp2_with fail
 refine (EntryS_to l _ _ _ (by omega) (Kd.C_below HRl.out HB.out) HCl.out).mono ?_
 rintro _ w4 ⟨vpl, rfl, ho, hb⟩
 rw [← Xl.out] at ho
 obtain ⟨Apl, cpl, rfl, _, _⟩ := Kd.S_reads ho
 replace OW := Aside0.mk (OW.out.below hb)
 have Opl := Aside0.mk (OwnS.make ho HB.out.size)
 clear ho
 replace HB := Aside0.mk (below_step HB.out hb)
 have S4 := Aside0.mk hb.size
 go_wp2_with fail
 refine (impl_TonaryMode_x xl mode _ _ _ (HT.out.below HB.out) Opl.out.C Opl.out.cap (by omega)).mono ?_
 rintro _ w5 ⟨v, rfl, ho, hb⟩
 simp only [RES.out] at ho ⊢
 obtain ⟨AG, cG, rfl, _, _⟩ := Kd.S_reads ho
 replace OW := Aside0.mk (OW.out.below hb)
 replace Opl := Aside0.mk (Opl.out.below hb)
 have OG := Aside0.mk (OwnS.make ho HB.out.size)
 clear ho
 replace HB := Aside0.mk (below_step HB.out hb)
 have S5 := Aside0.mk hb.size
 go_wp2_with fail
 refine (EntryS_eq r0 _ _ _ _ _ (by omega) OG.out.C OG.out.cap OW.out.C OW.out.cap).mono ?_
 rintro _ w6 ⟨rfl, hb⟩
 replace OW := Aside0.mk (OW.out.below hb)
 replace Opl := Aside0.mk (Opl.out.below hb)
 replace OG := Aside0.mk (OG.out.below hb)
 replace HB := Aside0.mk (below_step HB.out hb)
 have S6 := Aside0.mk hb.size
 go_wp2_with fail
 refine (EntryS_to l _ _ _ (by omega) (Kd.C_below HRl.out HB.out) HCl.out).mono ?_
 rintro _ w7 ⟨vtl, rfl, ho, hb⟩
 rw [← Xl.out] at ho
 obtain ⟨Atl, ctl, rfl, _, _⟩ := Kd.S_reads ho
 replace OW := Aside0.mk (OW.out.below hb)
 replace Opl := Aside0.mk (Opl.out.below hb)
 replace OG := Aside0.mk (OG.out.below hb)
 have Otl := Aside0.mk (OwnS.make ho HB.out.size)
 clear ho
 replace HB := Aside0.mk (below_step HB.out hb)
 have S7 := Aside0.mk hb.size
 go_wp2_with fail
 refine (EntryS_eq xl _ _ _ _ _ (by omega) Opl.out.C Opl.out.cap Otl.out.C Otl.out.cap).mono ?_
 rintro _ w8 ⟨rfl, hb⟩
 replace OW := Aside0.mk (OW.out.below hb)
 replace Opl := Aside0.mk (Opl.out.below hb)
 replace OG := Aside0.mk (OG.out.below hb)
 replace Otl := Aside0.mk (Otl.out.below hb)
 replace HB := Aside0.mk (below_step HB.out hb)
 have S8 := Aside0.mk hb.size
 clear Otl
 go_wp2_with fail
 refine (EntryS_mark xl _ _ _ _ w _ (by omega) (by omega) (by omega) HB.out Opl.out).mono ?_
 rintro _ w9 ⟨k0, rfl, hk0, ho, hb, hkept⟩
 clear Opl
 replace OW := Aside0.mk (OW.out.kept hkept (by intro k h1 h2 h3; have := S1.out; have := S2.out; have := S3.out; have := S4.out; have := S5.out; have := S6.out; have := S7.out; have := S8.out; omega))
 replace OG := Aside0.mk (OG.out.kept hkept (by intro k h1 h2 h3; have := S1.out; have := S2.out; have := S3.out; have := S4.out; have := S5.out; have := S6.out; have := S7.out; have := S8.out; omega))
 replace HB := Aside0.mk hb
 have S9 := Aside0.mk hkept.1
 have b0 : 0 ≤ k0 ∧ k0 ≤ 2097153 := by omega
 clear hk0 ho hkept
 have u : decide (k0 < 0) = false := decide_eq_false (by omega)
 go_wp2_with fail
 refine (EntryS_eq r0 _ _ _ _ _ (by omega) OG.out.C OG.out.cap OW.out.C OW.out.cap).mono ?_
 rintro _ w10 ⟨rfl, hb⟩
 replace OW := Aside0.mk (OW.out.below hb)
 replace OG := Aside0.mk (OG.out.below hb)
 replace HB := Aside0.mk (below_step HB.out hb)
 have S10 := Aside0.mk hb.size
 go_wp2_with fail
 refine (EntryS_mark r0 _ _ _ _ w _ (by omega) (by omega) (by omega) HB.out OG.out).mono ?_
 rintro _ w11 ⟨mk_, rfl, hm_, ho, hb, hkept⟩
 replace OW := Aside0.mk (OW.out.kept hkept (by intro k h1 h2 h3; have := S1.out; have := S2.out; have := S3.out; have := S4.out; have := S5.out; have := S6.out; have := S7.out; have := S8.out; have := S9.out; have := S10.out; omega))
 replace OG := Aside0.mk ho
 replace HB := Aside0.mk hb
 have S11 := Aside0.mk hkept.1
 clear ho hkept
 have um : decide (mk_ < 0) = false := decide_eq_false (by omega)
 have HM_ := Aside0.mk hm_
 clear hm_
 go_wp2_with fail
 refine (EntryS_held r0 1 _ _ _ (by omega) (by omega) (by omega) (by have h := (Kd.S_reads' OG.out).2.2; rw [markEntry_len] at h; exact h) OG.out.cap).mono ?_
 rintro _ w12 ⟨q, rfl, hq, hb⟩
 obtain rfl : mk_ = q := by rw [hq, HM_.out]
 clear hq
 replace OW := Aside0.mk (OW.out.below hb)
 replace OG := Aside0.mk (OG.out.below hb)
 replace HB := Aside0.mk (below_step HB.out hb)
 have S12 := Aside0.mk hb.size
 go_wp2_with fail
 refine (EntryS_to l _ _ _ (by omega) (Kd.C_below HRl.out HB.out) HCl.out).mono ?_
 rintro _ w13 ⟨vhl, rfl, ho, hb⟩
 rw [← Xl.out] at ho
 obtain ⟨Ahl, chl, rfl, _, _⟩ := Kd.S_reads ho
 replace OW := Aside0.mk (OW.out.below hb)
 replace OG := Aside0.mk (OG.out.below hb)
 have Ohl := Aside0.mk (OwnS.make ho HB.out.size)
 clear ho
 replace HB := Aside0.mk (below_step HB.out hb)
 have S13 := Aside0.mk hb.size
 go_wp2_with fail
 refine (impl_TonaryMode_x xl mode _ _ _ (HT.out.below HB.out) Ohl.out.C Ohl.out.cap (by omega)).mono ?_
 rintro _ w14 ⟨v, rfl, ho, hb⟩
 simp only [RES.out] at ho ⊢
 obtain ⟨AH, cH, rfl, _, _⟩ := Kd.S_reads ho
 replace OW := Aside0.mk (OW.out.below hb)
 replace OG := Aside0.mk (OG.out.below hb)
 replace Ohl := Aside0.mk (Ohl.out.below hb)
 have OH := Aside0.mk (OwnS.make ho HB.out.size)
 clear ho
 replace HB := Aside0.mk (below_step HB.out hb)
 have S14 := Aside0.mk hb.size
 clear Ohl
 go_wp2_with fail
 refine (EntryS_eq r0 _ _ _ _ _ (by omega) OH.out.C OH.out.cap OW.out.C OW.out.cap).mono ?_
 rintro _ w15 ⟨rfl, hb⟩
 replace OW := Aside0.mk (OW.out.below hb)
 replace OG := Aside0.mk (OG.out.below hb)
 replace OH := Aside0.mk (OH.out.below hb)
 replace HB := Aside0.mk (below_step HB.out hb)
 have S15 := Aside0.mk hb.size
 go_wp2_with fail
 refine (EntryS_held r0 1 _ _ _ (by omega) (by omega) (by omega) (by have h := (Kd.S_reads' OG.out).2.2; rw [markEntry_len] at h; exact h) OG.out.cap).mono ?_
 rintro _ w16 ⟨q, rfl, hq, hb⟩
 obtain rfl : mk_ = q := by rw [hq, HM_.out]
 clear hq
 replace OW := Aside0.mk (OW.out.below hb)
 replace OG := Aside0.mk (OG.out.below hb)
 replace OH := Aside0.mk (OH.out.below hb)
 replace HB := Aside0.mk (below_step HB.out hb)
 have S16 := Aside0.mk hb.size
 go_wp2
 go_ret
 exact ⟨rfl, HB.out⟩

end Go.Proofs.YtmacedbpdhkagaaDoor.Pure
