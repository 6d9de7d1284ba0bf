/- Lemmas on the printed functions for the law FnModeLikely. -/
import Derived.Test.YtclpnaaagajhiaaDoorGFnModeLikelyg30
import Derived.Test.YtclpnaaagajhiaaDoorGFnModeLikelyg31
import Derived.Test.YtclpnaaagajhiaaDoorQFnModeLikelyq0
import Derived.Test.YtclpnaaagajhiaaDoorQFnModeLikelyq1
import Derived.Deep.RegionHeld3
import Derived.BigRegion
import Derived.Deep.Slices
import Derived.Laws.CopyOwn
namespace Go.Proofs.YtclpnaaagajhiaaDoor.Pure
set_option linter.unusedVariables false
set_option linter.unusedSimpArgs false
open Go Go.RowKit Go.Proofs.YtclpnaaagajhiaaDoor.PFnModeLikely Go.Proofs.YtclpnaaagajhiaaDoorW.PrintWords Go.Proofs.YtclpnaaagajhiaaDoorW.PrintLast Go.Proofs.YtclpnaaagajhiaaDoorW.PrintMore

theorem atTenor_ev (m : List S29) (mode : Int) (hm : m.length ≤ 1000000000000) : Ev (fun k => laws_atTenor.f k m mode) (mCount mode m) := by
  unfold laws_atTenor.f
  have := Ev.over z29 m (fun k (s : Int) i => laws_atTenor.l0 k m mode s i) (fun s rest => s + mCount mode rest) (fun i s => 0 ≤ s ∧ s ≤ i) (by
    intro s _
    refine Ev.succ ?_
    simp only [laws_atTenor.l0, mCount]
    exact Ev.eqr (Ev.neg (by omega) (Ev.now _)) (by omega)) (by
    intro s i rest hs hi _ ih
    refine Ev.succ ?_
    simp only [laws_atTenor.l0, mCount]
    rw [w64 (x := s + 1) (by omega) (by omega), w64 (by omega) (by omega)]
    refine Ev.pos (by omega) (Ev.pos (by omega) (Ev.conb (a := mTen mode) rfl ?_))
    have hrd : rd_T29 m (i : Int) = m.getD i z29 := rfl
    rw [hrd]
    by_cases h : (m.getD i z29).f0 = mTen mode
    · rw [if_pos h]
      exact Ev.pos h (Ev.eqr (ih _ (by omega)) (by omega))
    · rw [if_neg h]
      exact Ev.neg h (Ev.eqr (ih _ (by omega)) (by omega))) 0 0 (Nat.zero_le _) (by omega)
  simpa using this
/-- The best of some: it is one of them, none has more, and those that have as many stand behind it. -/
theorem mBest_is (m : List S29) : ∀ (l : List Int) (b : Int), (mBest m b l = b ∨ mBest m b l ∈ l) ∧ mCount b m ≤ mCount (mBest m b l) m ∧ (mBest m b l ≠ b → mCount b m < mCount (mBest m b l) m) ∧ ∀ x ∈ l, mCount x m ≤ mCount (mBest m b l) m
  | [], b => ⟨.inl rfl, Int.le_refl _, fun h => absurd rfl h, by simp⟩
  | x :: xs, b => by
    simp only [mBest]
    by_cases h : mCount x m > mCount b m
    · rw [if_pos h]
      obtain ⟨h1, h2, h3, h4⟩ := mBest_is m xs x
      refine ⟨.inr ?_, by omega, fun _ => by omega, fun y hy => ?_⟩
      · rcases h1 with h1 | h1
        · rw [h1]; exact List.mem_cons_self
        · exact List.mem_cons_of_mem _ h1
      · rcases List.mem_cons.1 hy with rfl | hy
        · exact h2
        · exact h4 y hy
    · rw [if_neg h]
      obtain ⟨h1, h2, h3, h4⟩ := mBest_is m xs b
      refine ⟨h1.imp id (fun h => List.mem_cons_of_mem _ h), h2, h3, fun y hy => ?_⟩
      rcases List.mem_cons.1 hy with rfl | hy
      · omega
      · exact h4 y hy
theorem mBest_first (m : List S29) : ∀ (l : List Int) (b : Int), (∀ x ∈ l, b < x) → l.Pairwise (fun x y => x < y) → ∀ x, (x = b ∨ x ∈ l) → mCount x m = mCount (mBest m b l) m → mBest m b l ≤ x
  | [], b, _, _, x, hx, _ => by
    rcases hx with rfl | hx
    · exact Int.le_refl _
    · cases hx
  | y :: ys, b, hb, hp, x, hx, he => by
    obtain ⟨p1, p2⟩ := List.pairwise_cons.1 hp
    have hby := hb y List.mem_cons_self
    simp only [mBest] at he ⊢
    by_cases h : mCount y m > mCount b m
    · rw [if_pos h] at he ⊢
      obtain ⟨_, h2, _, _⟩ := mBest_is m ys y
      rcases hx with rfl | hx
      · omega
      · exact mBest_first m ys y p1 p2 x (List.mem_cons.1 hx) he
    · rw [if_neg h] at he ⊢
      have hb' := fun z hz => hb z (List.mem_cons_of_mem _ hz)
      rcases hx with rfl | hx
      · exact mBest_first m ys x hb' p2 x (.inl rfl) he
      · rcases List.mem_cons.1 hx with rfl | hx
        · obtain ⟨h1, h2, h3, _⟩ := mBest_is m ys b
          by_cases hbb : mBest m b ys = b
          · omega
          · have := h3 hbb; omega
        · exact mBest_first m ys b hb' p2 x (.inr hx) he
theorem mUp_pw (m : List S29) : ∀ n, (mUp m n).Pairwise (fun x y => x < y)
  | 0 => List.Pairwise.nil
  | n + 1 => by
    have h := mUp_pw m n
    simp only [mUp]
    split
    · rw [List.pairwise_append]
      refine ⟨h, by simp, fun x hx y hy => ?_⟩
      have h1 := mUp_bd m n x hx
      have h2 := List.mem_singleton.1 hy
      omega
    · exact h
theorem drawModeLikely_ev (l0 : List Int) (hw : ∀ x ∈ l0, (Lit.int .u8 x).wf = true) :
    Evx (fun k => spec_DrawModeLikely.f k l0) (fun r => r.length ≤ 600) := by
  obtain ⟨s, h1, hc⟩ := open_ev l0 hw
  unfold spec_DrawModeLikely.f
  refine Evx.conb h1 (Evx.bind (drawChant_ev hc 0 (by omega) (by omega)) ?_)
  rintro ⟨m, q⟩ ⟨h1, _, _⟩
  have h1 : (m.length : Int) ≤ 8 := h1
  exact Evx.now (by show m.length ≤ 600; omega)
theorem FnModeLikely_core (l0 : List Int) (hm0 : l0.length ≤ maxLen) (hw : ∀ x ∈ l0, (Lit.int .u8 x).wf = true) : ∃ k, laws_FnModeLikely.f k l0 = some true := by
  unfold maxLen at hm0
  have key : Ev (fun k => laws_FnModeLikely.f k l0) true := by
    unfold laws_FnModeLikely.f
    by_cases hb : (l0.length : Int) > 1048576
    · exact Ev.pos hb (Ev.now _)
    refine Ev.neg hb ?_
    obtain ⟨m, hd, hm⟩ := drawModeLikely_ev l0 hw
    have hlk : impl_ModeLikely.f m = some (mLikely m) := by
      unfold impl_ModeLikely.f
      rw [if_pos (by omega)]
    have hal : impl_ModeAll.f m = some (mUp m 8) := by
      unfold impl_ModeAll.f
      rw [if_pos (by omega)]
    refine Ev.bind hd (Ev.conb hlk (Ev.bind (spec_ModeLikely_ev m (by omega)) (Ev.neg (by simp) (Ev.pos rfl (Ev.succ ?_)))))
    simp only [laws_FnModeLikely.j0]
    have hl8 := mUp_len m 8
    have hpw := mUp_pw m 8
    unfold mLikely
    cases hU : mUp m 8 with
    | nil => exact Ev.pos (by simp) (Ev.pos (by simp) (Ev.eqr (Ev.now _) (by simp)))
    | cons x xs =>
      rw [hU] at hl8 hpw hal
      obtain ⟨p1, p2⟩ := List.pairwise_cons.1 hpw
      obtain ⟨b1, b2, b3, b4⟩ := mBest_is m xs x
      have bf := mBest_first m xs x p1 p2
      refine Ev.neg (by simp) (Ev.conb hal ?_)
      obtain ⟨B, hB⟩ : ∃ B, B = mBest m x xs := ⟨_, rfl⟩
      show Ev (fun n => laws_FnModeLikely.l0 n m (mBest m x xs) (x :: xs) false 0) true
      rw [← hB] at b1 b2 b3 b4 bf ⊢
      have hmem : B ∈ x :: xs := by
        rcases b1 with h | h
        · rw [h]; exact List.mem_cons_self
        · exact List.mem_cons_of_mem _ h
      have hmax : ∀ y ∈ x :: xs, mCount y m ≤ mCount B m := by
        intro y hy
        rcases List.mem_cons.1 hy with rfl | hy
        · exact b2
        · exact b4 y hy
      have hfst : ∀ y ∈ x :: xs, mCount y m = mCount B m → B ≤ y := fun y hy he => bf y (List.mem_cons.1 hy) he
      have := Ev.over (0 : Int) (x :: xs) (fun k (s : Bool) i => laws_FnModeLikely.l0 k m B (x :: xs) s i) (fun s rest => s || decide (B ∈ rest)) (fun _ _ => True) (by
        intro s _
        refine Ev.succ ?_
        simp only [laws_FnModeLikely.l0]
        exact Ev.neg (by omega) (Ev.eqr (Ev.now _) (by simp))) (by
        intro s i rest _ hi hdr ih
        have hrd : rd (x :: xs) (i : Int) = (x :: xs).getD i 0 := rfl
        have hym : (x :: xs).getD i 0 ∈ x :: xs := by rw [List.getD_eq_getElem?_getD, List.getElem?_eq_getElem hi]; exact List.getElem_mem hi
        have hy1 := hmax _ hym
        have hy2 := hfst _ hym
        refine Ev.succ ?_
        simp only [laws_FnModeLikely.l0]
        have go : ∀ s' : Bool, Ev (fun k => laws_FnModeLikely.j2 k m B (x :: xs) s' (i : Int)) (s' || decide (B ∈ rest)) := by
          intro s'
          refine Ev.succ ?_
          simp only [laws_FnModeLikely.j2]
          rw [hrd, w64 (x := (i : Int) + 1) (by omega) (by omega)]
          refine Ev.pos (by omega) (Ev.pos (by omega) (Ev.bind (atTenor_ev m _ (by omega)) (Ev.bind (atTenor_ev m _ (by omega)) (Ev.neg (by omega) ?_))))
          by_cases he : mCount ((x :: xs).getD i 0) m = mCount B m
          · exact Ev.pos he (Ev.neg (by have := hy2 he; omega) (ih s' trivial))
          · exact Ev.neg he (ih s' trivial)
        refine Ev.pos (by omega) ?_
        cases s
        · refine Ev.neg (by simp) (Ev.pos (by omega) ?_)
          rw [hrd]
          refine Ev.eqr (go _) ?_
          rw [Bool.false_or, Bool.eq_iff_iff]
          simp only [Bool.or_eq_true, beq_iff_eq, decide_eq_true_eq, List.mem_cons]
          exact ⟨fun h => h.imp (fun h => h.symm) id, fun h => h.imp (fun h => h.symm) id⟩
        · exact Ev.pos rfl (Ev.eqr (go true) (by simp))) 0 false (Nat.zero_le _) trivial
      refine Ev.eqr (by simpa using this) ?_
      simpa using hmem
  exact Ev.rounds key
theorem FnModeLikely_walk (l0 : List Int) (A0 : Option Addr) (c0 : Nat) (w : World) (ht : MTab w) (hr0 : Kd.C (Kd.int .u8) w A0 l0.length l0) (hc0 : l0.length ≤ c0) (hw0 : ∀ x ∈ l0, (Lit.int .u8 x).wf = true) (hm0 : l0.length ≤ maxLen) :
    Calls Tryd.prog 5 #[.slice A0 l0.length c0] w fun e w' => e = .returned (.bool true) ∧ Below w.heap.size w w' := by
  obtain ⟨k, h⟩ := FnModeLikely_core l0 hm0 hw0
  exact laws_FnModeLikely.calls k A0 c0 l0 true w ht hr0 hc0 h

/-! arguments that are read as data, as kinds -/
def Opn {α : Type} (P : Program) (t : TypeId) (d : Kd α) (ok : α → Prop) : Prop :=
  P.cellsOf t = d.sz ∧ ∀ {H : Type} (enc : TypeId × Value → H) (w : World) (base : Nat) (held : Bool) (fuel : Nat) (cs : List Value) (x : DataW H × List MemPlace), DataW.trod enc P w base (fun _ => true) held fuel t cs = some x → ∃ p, d.K w p cs ∧ ok p
theorem opn_int {P : Program} {t : TypeId} (k : IntKind) (ht : P.underlying t = some (.int k)) (hc : P.cellsOf t = 1) : Opn P t (Kd.int k) (fun n => (Lit.int k n).wf = true) :=
  ⟨hc, fun enc w base held fuel cs x h => by obtain ⟨n, rfl, _, hw⟩ := DataW.trod_int ht h; exact ⟨n, rfl, hw⟩⟩
theorem opn_bool {P : Program} {t : TypeId} (ht : P.underlying t = some .bool) (hc : P.cellsOf t = 1) : Opn P t Kd.bool (fun _ => True) :=
  ⟨hc, fun enc w base held fuel cs x h => by obtain ⟨n, rfl, _⟩ := DataW.trod_bool ht h; exact ⟨n, rfl, trivial⟩⟩
theorem opn_string {P : Program} {t : TypeId} (ht : P.underlying t = some .string) (hc : P.cellsOf t = 1) : Opn P t Kd.string (fun s => s.size ≤ maxLen) :=
  ⟨hc, fun enc w base held fuel cs x h => by obtain ⟨n, rfl, _, hs⟩ := DataW.trod_string ht h; exact ⟨n, rfl, hs⟩⟩
theorem opn_slice {α : Type} {P : Program} {t e : TypeId} {d : Kd α} {ok : α → Prop} (ht : P.underlying t = some (.slice e)) (hc : P.cellsOf t = 1) (he : Opn P e d ok) : Opn P t (Kd.slice e d) (fun l => (∀ x ∈ l, ok x) ∧ l.length ≤ maxLen) := by
  refine ⟨hc, fun enc w base held fuel cs x h => ?_⟩
  rcases Go.Deep.open_slice ht h with ⟨rfl, _⟩ | ⟨a, len, cap, m, n, D, Pl, rfl, _, hl, hm, hmm, _, hi⟩
  · exact ⟨[], ⟨none, 0, rfl, Nat.le_refl _, rfl, by simp, fun h => by simp at h⟩, by simp, by simp⟩
  · have hmc : m = cap := by simpa using hmm
    clear hmm
    have key : ∀ k, k ≤ len → ∃ l : List α, l.length = k ∧ (∀ x ∈ l, ok x) ∧ ∀ j p, l[j]? = some p → ∃ c, c.length = d.sz ∧ d.K w p c ∧ ∀ i u, c[i]? = some u → w.cell? (a.add (j * d.sz + i)) = some u := by
      intro k
      induction k with
      | zero => intro _; exact ⟨[], rfl, by simp, by simp⟩
      | succ k ih =>
        intro hk
        obtain ⟨l, hll, hlo, hlc⟩ := ih (by omega)
        obtain ⟨cs', hcs, ht'⟩ := hi k (by omega)
        rw [he.1] at hcs
        obtain ⟨p, hp, hop⟩ := he.2 enc w base held n cs' _ ht'
        obtain ⟨_, hcl, hat⟩ := World.cells?_some hcs
        refine ⟨l ++ [p], by simp [hll], ?_, ?_⟩
        · intro x hx
          rcases List.mem_append.1 hx with hx | hx
          · exact hlo x hx
          · rw [List.mem_singleton.1 hx]; exact hop
        · intro j q hq
          by_cases hj : j < l.length
          · rw [List.getElem?_append_left hj] at hq
            exact hlc j q hq
          · have hj2 : j = l.length := by
              have := (List.getElem?_eq_some_iff.1 hq).1
              simp at this; omega
            subst hj2
            rw [List.getElem?_append_right (Nat.le_refl _)] at hq
            simp at hq
            subst hq
            refine ⟨cs', hcl, hp, fun i u hu => ?_⟩
            have hil : i < d.sz := by rw [← hcl]; exact (List.getElem?_eq_some_iff.1 hu).1
            rw [hll, ← Go.Deep.add_add, hat i hil, hu]
    obtain ⟨l, hll, hlo, hlc⟩ := key len (Nat.le_refl _)
    subst hll
    exact ⟨l, ⟨some a, cap, rfl, hl, rfl, by unfold maxLen at hm; omega, fun _ => ⟨a, rfl, hlc⟩⟩, hlo, by omega⟩
theorem opn_iso {α β : Type} {P : Program} {t : TypeId} {d : Kd α} {ok : α → Prop} (h : Opn P t d ok) (f : β → α) (g : α → β) (hfg : ∀ x, f (g x) = x) : Opn P t (Kd.iso d f) (fun y => ok (f y)) :=
  ⟨h.1, fun enc w base held fuel cs x hx => by
    obtain ⟨p, hp, ho⟩ := h.2 enc w base held fuel cs x hx
    exact ⟨g p, by show d.K w (f (g p)) cs; rw [hfg]; exact hp, by show ok (f (g p)); rw [hfg]; exact ho⟩⟩
theorem opn_struct2 {α β : Type} {P : Program} {t : TypeId} {f0 f1 : Field} {a : Kd α} {b : Kd β} {oka : α → Prop} {okb : β → Prop} (ht : P.underlying t = some (.struct #[f0, f1])) (h0 : Opn P f0.type a oka) (h1 : Opn P f1.type b okb)
    (o0 : f0.offset = 0) (o1 : f1.offset = a.sz) (hc : P.cellsOf t = a.sz + b.sz) : Opn P t (Kd.pair a b) (fun p => oka p.1 ∧ okb p.2) := by
  refine ⟨hc, fun enc w base held fuel cs x h => ?_⟩
  obtain ⟨xs, n, _, _, hl, hxl, hg⟩ := DataW.trod_struct ht h
  have g0 := hg 0 f0 rfl
  have g1 := hg 1 f1 rfl
  rw [o0, h0.1, List.drop_zero] at g0
  rw [o1, h1.1] at g1
  rw [List.getElem?_eq_getElem (by rw [hxl]; simp)] at g0 g1
  obtain ⟨p, hp, hop⟩ := h0.2 enc w base held n _ _ g0
  obtain ⟨q, hq, hoq⟩ := h1.2 enc w base held n _ _ g1
  refine ⟨(p, q), ⟨cs.take a.sz, (cs.drop a.sz).take b.sz, ?_, hp, hq⟩, hop, hoq⟩
  rw [List.take_of_length_le (l := cs.drop a.sz) (by rw [List.length_drop, hl, hc]; omega), List.take_append_drop]
theorem opn_struct3 {α β γ : Type} {P : Program} {t : TypeId} {f0 f1 f2 : Field} {a : Kd α} {b : Kd β} {c : Kd γ} {oka : α → Prop} {okb : β → Prop} {okc : γ → Prop} (ht : P.underlying t = some (.struct #[f0, f1, f2])) (h0 : Opn P f0.type a oka) (h1 : Opn P f1.type b okb) (h2 : Opn P f2.type c okc)
    (o0 : f0.offset = 0) (o1 : f1.offset = a.sz) (o2 : f2.offset = a.sz + b.sz) (hc : P.cellsOf t = a.sz + (b.sz + c.sz)) : Opn P t (Kd.pair a (Kd.pair b c)) (fun p => oka p.1 ∧ okb p.2.1 ∧ okc p.2.2) := by
  refine ⟨hc, fun enc w base held fuel cs x h => ?_⟩
  obtain ⟨xs, n, _, _, hl, hxl, hg⟩ := DataW.trod_struct ht h
  have g0 := hg 0 f0 rfl
  have g1 := hg 1 f1 rfl
  have g2 := hg 2 f2 rfl
  rw [o0, h0.1, List.drop_zero] at g0
  rw [o1, h1.1] at g1
  rw [o2, h2.1] at g2
  rw [List.getElem?_eq_getElem (by rw [hxl]; simp)] at g0 g1 g2
  obtain ⟨p, hp, hop⟩ := h0.2 enc w base held n _ _ g0
  obtain ⟨q, hq, hoq⟩ := h1.2 enc w base held n _ _ g1
  obtain ⟨r, hr, hor⟩ := h2.2 enc w base held n _ _ g2
  refine ⟨(p, q, r), ⟨cs.take a.sz, cs.drop a.sz, by rw [List.take_append_drop], hp, (cs.drop a.sz).take b.sz, (cs.drop (a.sz + b.sz)).take c.sz, ?_, hq, hr⟩, hop, hoq, hor⟩
  rw [List.take_of_length_le (l := cs.drop (a.sz + b.sz)) (by rw [List.length_drop, hl, hc]; omega), ← List.drop_drop, List.take_append_drop]
theorem opn_struct4 {α β γ δ : Type} {P : Program} {t : TypeId} {f0 f1 f2 f3 : Field} {a : Kd α} {b : Kd β} {c : Kd γ} {d : Kd δ} {oka : α → Prop} {okb : β → Prop} {okc : γ → Prop} {okd : δ → Prop} (ht : P.underlying t = some (.struct #[f0, f1, f2, f3])) (h0 : Opn P f0.type a oka) (h1 : Opn P f1.type b okb) (h2 : Opn P f2.type c okc) (h3 : Opn P f3.type d okd)
    (o0 : f0.offset = 0) (o1 : f1.offset = a.sz) (o2 : f2.offset = a.sz + b.sz) (o3 : f3.offset = a.sz + b.sz + c.sz) (hc : P.cellsOf t = a.sz + (b.sz + (c.sz + d.sz))) : Opn P t (Kd.pair a (Kd.pair b (Kd.pair c d))) (fun p => oka p.1 ∧ okb p.2.1 ∧ okc p.2.2.1 ∧ okd p.2.2.2) := by
  refine ⟨hc, fun enc w base held fuel cs x h => ?_⟩
  obtain ⟨xs, n, _, _, hl, hxl, hg⟩ := DataW.trod_struct ht h
  have g0 := hg 0 f0 rfl
  have g1 := hg 1 f1 rfl
  have g2 := hg 2 f2 rfl
  have g3 := hg 3 f3 rfl
  rw [o0, h0.1, List.drop_zero] at g0
  rw [o1, h1.1] at g1
  rw [o2, h2.1] at g2
  rw [o3, h3.1] at g3
  rw [List.getElem?_eq_getElem (by rw [hxl]; simp)] at g0 g1 g2 g3
  obtain ⟨p, hp, hop⟩ := h0.2 enc w base held n _ _ g0
  obtain ⟨q, hq, hoq⟩ := h1.2 enc w base held n _ _ g1
  obtain ⟨r, hr, hor⟩ := h2.2 enc w base held n _ _ g2
  obtain ⟨s, hs, hos⟩ := h3.2 enc w base held n _ _ g3
  refine ⟨(p, q, r, s), ⟨cs.take a.sz, cs.drop a.sz, by rw [List.take_append_drop], hp, (cs.drop a.sz).take b.sz, cs.drop (a.sz + b.sz), by rw [← List.drop_drop, List.take_append_drop], hq, (cs.drop (a.sz + b.sz)).take c.sz, (cs.drop (a.sz + b.sz + c.sz)).take d.sz, ?_, hr, hs⟩, hop, hoq, hor, hos⟩
  rw [List.take_of_length_le (l := cs.drop (a.sz + b.sz + c.sz)) (by rw [List.length_drop, hl, hc]; omega)]
  exact (List.take_append_drop c.sz (cs.drop (a.sz + b.sz))).symm.trans (by rw [List.drop_drop])
/-- A slice argument. -/
theorem opn_arg {α : Type} {P : Program} {t e : TypeId} {d : Kd α} {ok : List α → Prop} (h : Opn P t (Kd.slice e d) ok) {H : Type} {enc : TypeId × Value → H} {w : World} {base : Nat} {held : Bool} {a : Option Addr} {len cap : Nat} {x : DataW H} {p : List MemPlace} (hr : DataW.Trod enc P w base (fun _ => true) held t (.slice a len cap) x p) :
    ∃ l : List α, len = l.length ∧ l.length ≤ cap ∧ d.C w a l.length l ∧ ok l := by
  obtain ⟨fuel, hf⟩ := hr
  obtain ⟨l, ⟨A, c, he, hc, hC⟩, ho⟩ := h.2 enc w base held fuel _ _ hf
  simp [Value.cells] at he
  obtain ⟨rfl, rfl, rfl⟩ := he
  exact ⟨l, rfl, hc, hC, ho⟩

end Go.Proofs.YtclpnaaagajhiaaDoor.Pure
