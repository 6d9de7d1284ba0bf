/- Lemmas on the printed functions for the law FnExactFormulasBest. -/
import Derived.Test.YtkmganbgnjphfaaQFnExactFormulasBestq0
import Derived.Test.YtkmganbgnjphfaaQFnExactFormulasBestq1
import Derived.Test.YtkmganbgnjphfaaQFnExactFormulasBestq2
import Derived.Test.YtkmganbgnjphfaaQFnExactFormulasBestq3
import Derived.Test.YtkmganbgnjphfaaQFnExactFormulasBestq4
import Derived.Test.YtkmganbgnjphfaaQFnExactFormulasBestq5
import Derived.Test.YtkmganbgnjphfaaQFnExactFormulasBestq6
import Derived.Test.YtkmganbgnjphfaaQFnExactFormulasBestq7
import Derived.Test.YtkmganbgnjphfaaQFnExactFormulasBestq8
import Derived.Deep.RegionHeld3
import Derived.BigRegion
import Derived.Deep.Slices
import Derived.Laws.CopyOwn
namespace Go.Proofs.Ytkmganbgnjphfaa.Pure
set_option linter.unusedVariables false
set_option linter.unusedSimpArgs false
open Go Go.RowKit Go.Proofs.Ytkmganbgnjphfaa.PFnExactFormulasBest Go.Proofs.YtkmganbgnjphfaaW.PrintWords Go.Proofs.YtkmganbgnjphfaaW.PrintLast Go.Proofs.YtkmganbgnjphfaaW.PrintMore

/-! the reference's best reading: the first formula of the least weight -/
theorem rdC_ge {rec : List Int → OutC} {s : List Int} : ∀ (l : List S37) (q : Int) (x : Int × OutC), x ∈ rdC rec s q l → q ≤ x.1
  | [], _, _, h => by cases h
  | f :: fs, q, x, h => by
    simp only [rdC] at h
    have tl : x ∈ rdC rec s (q + 1) fs → q ≤ x.1 := fun h => by have := rdC_ge fs (q + 1) x h; omega
    split at h
    · split at h
      · exact tl h
      · rcases List.mem_cons.1 h with rfl | h
        · exact Int.le_refl _
        · exact tl h
    · exact tl h
theorem rdC_pw {rec : List Int → OutC} {s : List Int} : ∀ (l : List S37) (q : Int), (rdC rec s q l).Pairwise (fun x y => x.1 < y.1)
  | [], _ => List.Pairwise.nil
  | f :: fs, q => by
    simp only [rdC]
    split
    · split
      · exact rdC_pw fs (q + 1)
      · exact List.Pairwise.cons (fun y hy => by have := rdC_ge fs (q + 1) y hy; show q < y.1; omega) (rdC_pw fs (q + 1))
    · exact rdC_pw fs (q + 1)
theorem rdC_has {rec : List Int → OutC} {s : List Int} {L : List S37} (k : Nat) (hk : k < L.length) (hp : isPre (rd_T37 L (k : Int)).f0 s = true) (hz : (rec (s.drop (rd_T37 L (k : Int)).f0.length)).f0 ≠ 0) : ∀ (d q : Nat), q + d = k → ((k : Int), rec (s.drop (rd_T37 L (k : Int)).f0.length)) ∈ rdC rec s (q : Int) (L.drop q)
  | d, q, e => by
    have hq : q < L.length := by omega
    have e1 : L.drop q = rd_T37 L (q : Int) :: L.drop (q + 1) := by
      rw [List.drop_eq_getElem_cons hq]
      unfold rd_T37
      rw [Int.toNat_natCast, List.getD_eq_getElem?_getD, List.getElem?_eq_getElem hq]; rfl
    rw [e1]
    simp only [rdC]
    have e2 : ((q : Int) + 1) = ((q + 1 : Nat) : Int) := by omega
    rw [e2]
    match d, e with
    | 0, e =>
      obtain rfl : q = k := e
      rw [if_pos hp, if_neg hz]
      exact List.mem_cons_self
    | d + 1, e =>
      have := rdC_has k hk hp hz d (q + 1) (by omega)
      split
      · split
        · exact this
        · exact List.mem_cons_of_mem _ this
      · exact this
def valF (L : List S37) (x : Int × OutC) : Int := wrap64 ((rd_T37 L x.1).f1 + x.2.f1)
theorem bestF_first (L : List S37) : ∀ (h : List (Int × OutC)) (b a : Int), (∀ x ∈ h, 0 ≤ x.1) → h.Pairwise (fun x y => x.1 < y.1) → (0 ≤ b → ∀ x ∈ h, b < x.1) →
    (∀ x ∈ h, x.1 < (bestF L h (b, a)).1 → (bestF L h (b, a)).2 < valF L x) ∧ (0 ≤ b → (bestF L h (b, a)).2 ≤ a ∧ (b < (bestF L h (b, a)).1 → (bestF L h (b, a)).2 < a))
  | [], b, a, _, _, _ => ⟨fun x hx => (by cases hx), fun _ => ⟨Int.le_refl _, fun h => absurd h (Int.lt_irrefl _)⟩⟩
  | (i, o) :: r, b, a, h0, hp, hb => by
    obtain ⟨p1, p2⟩ := List.pairwise_cons.1 hp
    have hi : 0 ≤ i := h0 (i, o) List.mem_cons_self
    have hr := fun x hx => h0 x (List.mem_cons_of_mem _ hx)
    simp only [bestF]
    have hv : valF L (i, o) = wrap64 ((rd_T37 L i).f1 + o.f1) := rfl
    rw [← hv]
    by_cases hc : b < 0 ∨ valF L (i, o) < a
    · rw [if_pos hc]
      obtain ⟨q1, q2⟩ := bestF_first L r i (valF L (i, o)) hr p2 (fun _ x hx => p1 x hx)
      obtain ⟨q3, q4⟩ := q2 hi
      refine ⟨fun x hx hlt => ?_, fun h => ⟨by omega, fun _ => by omega⟩⟩
      rcases List.mem_cons.1 hx with rfl | hx
      · exact q4 hlt
      · exact q1 x hx hlt
    · rw [if_neg hc]
      have hb0 : 0 ≤ b := by omega
      have hbi := hb hb0
      obtain ⟨q1, q2⟩ := bestF_first L r b a hr p2 (fun _ x hx => hbi x (List.mem_cons_of_mem _ hx))
      obtain ⟨q3, q4⟩ := q2 hb0
      refine ⟨fun x hx hlt => ?_, fun _ => ⟨q3, q4⟩⟩
      rcases List.mem_cons.1 hx with rfl | hx
      · have h1 := hbi (i, o) List.mem_cons_self
        have h1 : b < i := h1
        have hlt : i < _ := hlt
        have := q4 (by omega)
        omega
      · exact q1 x hx hlt
theorem best_first {L : List S37} (hv : FsV L) {s : List Int} (hs : s.length ≤ 23) (hne : s ≠ []) (hm : (rdO L s).f0 ≠ 0) :
    ∃ b : Nat, (bestF L (rdCalls L s) (-1, 0)).1 = (b : Int) ∧ b < L.length ∧ isPre (rd_T37 L (b : Int)).f0 s = true ∧ 0 ≤ oW (rdO L (s.drop (rd_T37 L (b : Int)).f0.length)) ∧ oW (rdO L (s.drop (rd_T37 L (b : Int)).f0.length)) + (rd_T37 L (b : Int)).f1 = oW (rdO L s) ∧
      ∀ k : Nat, k < b → isPre (rd_T37 L (k : Int)).f0 s = true → 0 ≤ oW (rdO L (s.drop (rd_T37 L (k : Int)).f0.length)) → oW (rdO L s) < oW (rdO L (s.drop (rd_T37 L (k : Int)).f0.length)) + (rd_T37 L (k : Int)).f1 := by
  have hcl : rdCalls L s = rdC (rdO L) s ((0 : Nat) : Int) L := if_neg hne
  obtain ⟨h1, h2⟩ := bestF_lA hv hs L 0 rfl (-1) 0 (.inl (by show (-1 : Int) < 0; omega))
  have hf := bestF_first L (rdCalls L s) (-1) 0 (fun x hx => by rw [hcl] at hx; have := rdC_ge _ _ x hx; omega) (by rw [hcl]; exact rdC_pw _ _) (fun h => absurd h (by decide))
  rw [← hcl] at h1 h2
  have s0 : selA (-1, 0) = -1 := rfl
  rw [s0, ← (rdO_least hv hs hne).1] at h2
  have h0 : 0 ≤ oW (rdO L s) := by
    have := rdO_bd hv s.length s rfl hs
    unfold oW
    rw [if_neg hm]; exact this.w0 hm
  rcases h1 with h1 | ⟨a1, a2, a3, a4, a5, a6⟩
  · have : selA (bestF L (rdCalls L s) (-1, 0)) = -1 := if_pos h1
    omega
  · have hsel : selA (bestF L (rdCalls L s) (-1, 0)) = (bestF L (rdCalls L s) (-1, 0)).2 := if_neg (by omega)
    rw [hsel] at h2
    obtain ⟨b, hb⟩ := Int.eq_ofNat_of_zero_le a2
    rw [hb] at a3 a4 a5 a6
    have hlen := isPre_len a4
    have hmem : rd_T37 L (b : Int) ∈ L := rd_mem (by omega) (by omega)
    have hbd := rdO_bd hv (s.length - (rd_T37 L (b : Int)).f0.length) (s.drop (rd_T37 L (b : Int)).f0.length) (by rw [List.length_drop]) (by omega)
    refine ⟨b, hb, by omega, a4, by unfold oW; rw [if_neg a5]; exact hbd.w0 a5, by omega, fun k hk hp hg => ?_⟩
    have hzk := oW_nn hg
    have hkl := isPre_len hp
    have hmemk : rd_T37 L (k : Int) ∈ L := rd_mem (by omega) (by omega)
    have hwk := hv.wt _ hmemk
    have hbk := rdO_bd hv (s.length - (rd_T37 L (k : Int)).f0.length) (s.drop (rd_T37 L (k : Int)).f0.length) (by rw [List.length_drop]) (by omega)
    have hin := rdC_has (rec := rdO L) k (by omega) hp hzk k 0 (by omega)
    rw [List.drop_zero, ← hcl] at hin
    have hlt := hf.1 _ hin (by rw [hb]; show (k : Int) < _; omega)
    have e1 : oW (rdO L (s.drop (rd_T37 L (k : Int)).f0.length)) = (rdO L (s.drop (rd_T37 L (k : Int)).f0.length)).f1 := if_neg hzk
    have w0 := hbk.w0 hzk
    have w1 := hbk.w1 hzk
    have e2 : valF L ((k : Int), rdO L (s.drop (rd_T37 L (k : Int)).f0.length)) = (rd_T37 L (k : Int)).f1 + (rdO L (s.drop (rd_T37 L (k : Int)).f0.length)).f1 := by
      unfold valF
      exact w64 (by show _ ≤ (rd_T37 L (k : Int)).f1 + (rdO L _).f1; omega) (by show (rd_T37 L (k : Int)).f1 + (rdO L _).f1 ≤ _; omega)
    rw [e2] at hlt
    omega
theorem spec_FormulasBest_find {L : List S37} {S : List Int} (hv : FsV L) (hS : S.length ≤ 23) (out : List Int) (at_ : Nat) (hat : at_ < S.length) (b : Nat) (hb : b < L.length)
    (hbp : isPre (rd_T37 L (b : Int)).f0 (S.drop at_) = true) (hb0 : 0 ≤ oW (rdO L ((S.drop at_).drop (rd_T37 L (b : Int)).f0.length))) (hbe : oW (rdO L ((S.drop at_).drop (rd_T37 L (b : Int)).f0.length)) + (rd_T37 L (b : Int)).f1 = oW (rdO L (S.drop at_)))
    (hk : ∀ k : Nat, k < b → isPre (rd_T37 L (k : Int)).f0 (S.drop at_) = true → 0 ≤ oW (rdO L ((S.drop at_).drop (rd_T37 L (k : Int)).f0.length)) → oW (rdO L (S.drop at_)) < oW (rdO L ((S.drop at_).drop (rd_T37 L (k : Int)).f0.length)) + (rd_T37 L (k : Int)).f1)
    (hol : out.length ≤ 1000) {r : List Int × Bool} (nxt : Ev (fun k => spec_FormulasBest.l0 k L S (out ++ [(b : Int)]) (leastL L S false) ((at_ + (rd_T37 L (b : Int)).f0.length : Nat) : Int)) r) :
    ∀ (d q : Nat), q + d = b → Ev (fun k => spec_FormulasBest.l1 k L S out (leastL L S false) (at_ : Int) (q : Int)) r
  | d, q, e => by
    have hll := hv.len
    refine Ev.succ ?_
    simp only [spec_FormulasBest.l1]
    have hf := hv.one _ (rd_mem (l := L) (k := (q : Int)) (by omega) (by omega))
    have hw := hv.wt _ (rd_mem (l := L) (k := (q : Int)) (by omega) (by omega))
    rw [w64 (x := (q : Int) + 1) (by omega) (by omega), w64 (x := (at_ : Int) + ((rd_T37 L (q : Int)).f0.length : Int)) (by omega) (by omega)]
    refine Ev.pos (by omega) (Ev.pos (by omega) (Ev.bind (spec_l6fAt_ev _ S at_ (by omega) (by omega) (by omega)) ?_))
    have e3 : ((at_ : Int) + ((rd_T37 L (q : Int)).f0.length : Int)) = ((at_ + (rd_T37 L (q : Int)).f0.length : Nat) : Int) := by omega
    have rdl : ∀ j : Nat, j ≤ S.length → rd (leastL L S false) (j : Int) = oW (rdO L (S.drop j)) := by
      intro j hj
      unfold rd
      rw [Int.toNat_natCast, leastL_get hj]; rfl
    have e0 : rd (leastL L S false) (at_ : Int) = oW (rdO L (S.drop at_)) := rdl at_ (by omega)
    have step : q ≠ b → Ev (fun k => spec_FormulasBest.l1 k L S out (leastL L S false) (at_ : Int) ((q : Int) + 1)) r := by
      intro hne
      obtain ⟨d', rfl⟩ : ∃ d', d = d' + 1 := ⟨d - 1, by omega⟩
      have := spec_FormulasBest_find hv hS out at_ hat b hb hbp hb0 hbe hk hol nxt d' (q + 1) (by omega)
      have e4 : ((q + 1 : Nat) : Int) = (q : Int) + 1 := by omega
      rwa [e4] at this
    cases hp : isPre (rd_T37 L (q : Int)).f0 (S.drop at_)
    · exact Ev.neg (by simp) (step (by rintro rfl; rw [hp] at hbp; cases hbp))
    · have hlen := isPre_len hp
      rw [List.length_drop] at hlen
      have e5 : rd (leastL L S false) (((at_ + (rd_T37 L (q : Int)).f0.length : Nat) : Int)) = oW (rdO L ((S.drop at_).drop (rd_T37 L (q : Int)).f0.length)) := by
        rw [rdl _ (by omega), List.drop_drop]
      have hbd := (rdO_bd hv ((S.drop at_).length - (rd_T37 L (q : Int)).f0.length) ((S.drop at_).drop (rd_T37 L (q : Int)).f0.length) (by rw [List.length_drop]) (by rw [List.length_drop]; omega)).oW
      rw [List.length_drop] at hbd
      rw [e3, e5, e0]
      refine Ev.pos rfl (Ev.pos (by omega) (Ev.pos (by rw [leastL_len]; omega) ?_))
      by_cases hg : oW (rdO L ((S.drop at_).drop (rd_T37 L (q : Int)).f0.length)) < 0
      · exact Ev.pos hg (step (by rintro rfl; omega))
      · refine Ev.neg hg (Ev.pos (by omega) (Ev.pos (by rw [leastL_len]; omega) ?_))
        rw [w64 (by omega) (by omega)]
        rcases Nat.lt_or_ge q b with hlt | hge
        · have := hk q hlt hp (by omega)
          exact Ev.neg (by omega) (step (by omega))
        · obtain rfl : q = b := by omega
          exact Ev.pos hbe (Ev.pos (by omega) nxt)
theorem spec_FormulasBest_loop {L : List S37} {S : List Int} (hv : FsV L) (hS : S.length ≤ 23) : ∀ (n at_ : Nat) (out : List Int), at_ + n = S.length → (rdO L (S.drop at_)).f0 ≠ 0 → out.length ≤ at_ → ∀ m, n ≤ m → Ev (fun k => spec_FormulasBest.l0 k L S out (leastL L S false) (at_ : Int)) (out ++ bestGo L m (S.drop at_), true) := by
  intro n
  induction n using Nat.strongRecOn with
  | _ n IH =>
    intro at_ out e hm hol m hnm
    refine Ev.succ ?_
    simp only [spec_FormulasBest.l0]
    by_cases h0 : n = 0
    · have hd : S.drop at_ = [] := List.drop_eq_nil_of_le (by omega)
      rw [hd]
      refine Ev.neg (by omega) (Ev.eqr (Ev.now _) ?_)
      cases m <;> simp [bestGo]
    · have hne : S.drop at_ ≠ [] := fun h => by have := congrArg List.length h; rw [List.length_drop, List.length_nil] at this; omega
      obtain ⟨b, h1, h2, h3, h4, h5, h6⟩ := best_first hv (by rw [List.length_drop]; omega) hne hm
      have hf := hv.one _ (rd_mem (l := L) (k := (b : Int)) (by omega) (by omega))
      have hlen := isPre_len h3
      rw [List.length_drop] at hlen
      obtain ⟨m', rfl⟩ : ∃ m', m = m' + 1 := ⟨m - 1, by omega⟩
      refine Ev.pos (by omega) ?_
      have hz := oW_nn h4
      have nxt := IH (n - (rd_T37 L (b : Int)).f0.length) (by omega) (at_ + (rd_T37 L (b : Int)).f0.length) (out ++ [(b : Int)]) (by omega) (by rw [← List.drop_drop]; exact hz) (by rw [List.length_append, List.length_singleton]; omega) m' (by omega)
      have := spec_FormulasBest_find hv hS out at_ (by omega) b h2 h3 h4 h5 h6 (by omega) nxt b 0 (by omega)
      refine Ev.eqr this ?_
      simp only [bestGo]
      rw [if_neg hne, h1, List.append_assoc, List.singleton_append, List.drop_drop]
theorem spec_FormulasBest_ev (L : List S37) (S : List Int) (hll : L.length ≤ 1000000000000) (hl : ∀ x ∈ L, x.f0.length ≤ 1000000000000) (hS : S.length ≤ 1000000000000) : Ev (fun k => spec_FormulasBest.f k L S) (fBest L S) := by
  unfold spec_FormulasBest.f fBest
  refine Ev.someb (Ev.bind (spec_l6fOk_ev L S hll hl hS) ?_)
  cases hok : okR L S
  · exact Ev.neg (by simp) (Ev.eqr (Ev.now _) (by simp))
  · refine Ev.pos rfl ?_
    rw [if_pos rfl]
    have hv := FsV.of (okR_of hok).1
    have hS23 := (okR_of hok).2
    refine Ev.bind (spec_l6fLeast_ev hv hS23 false) (Ev.pos (by rw [leastL_len]; omega) ?_)
    have e0 : rd (leastL L S false) 0 = oW (rdO L S) := by
      show (leastL L S false).getD 0 0 = _
      rw [leastL_get (Nat.zero_le _), List.drop_zero]; rfl
    rw [e0]
    by_cases hz : (rdO L S).f0 = 0
    · rw [if_pos hz]
      exact Ev.pos (by unfold oW; rw [if_pos hz]; decide) (Ev.now _)
    · rw [if_neg hz]
      have hbd := rdO_bd hv S.length S rfl hS23
      have h0 : 0 ≤ oW (rdO L S) := by unfold oW; rw [if_neg hz]; exact hbd.w0 hz
      have := spec_FormulasBest_loop hv hS23 S.length 0 [] (by omega) (by rw [List.drop_zero]; exact hz) (by simp) S.length (Nat.le_refl _)
      rw [List.drop_zero, List.nil_append] at this
      exact Ev.neg (by omega) this

theorem fBest_len (L : List S37) (S : List Int) : (fBest L S).1.length ≤ 24 := by
  unfold fBest
  split
  · rename_i h
    split
    · exact Nat.zero_le _
    · have := bestGo_len L S.length S
      have := (okR_of h).2
      show (bestGo L S.length S).length ≤ 24
      omega
  · exact Nat.zero_le _
theorem impl_FormulasBest_x (l : List S37) (r : List Int) (A0 : Option Addr) (c0 : Nat) (A1 : Option Addr) (c1 : Nat) (w : World) (hr0 : Kd.C k37 w A0 l.length l) (hc0 : l.length ≤ c0) (hr1 : Kd.C (Kd.int .i64) w A1 r.length r) (hc1 : r.length ≤ c1) (hl : FormulaSz l ≤ 1000000000000) (hr : r.length ≤ 1000000000000) :
    Calls Try.prog 23 #[.slice A0 l.length c0, .slice A1 r.length c1] w fun e w' => ∃ v, e = .returned (.tuple #[v, .bool (fBest l r).2]) ∧ Kd.R (Kd.int .i64) 3 w' w.heap.size (fun _ => True) v (fBest l r).1 ∧ Below w.heap.size w w' :=
  impl_FormulasBest_calls l r A0 c0 A1 c1 w hr0 hc0 hr1 hc1 (fun x hx => by have := FormulaSz_get hx; omega) hr
theorem spec_FormulasBest_x (l : List S37) (r : List Int) (A0 : Option Addr) (c0 : Nat) (A1 : Option Addr) (c1 : Nat) (w : World) (hr0 : Kd.C k37 w A0 l.length l) (hc0 : l.length ≤ c0) (hr1 : Kd.C (Kd.int .i64) w A1 r.length r) (hc1 : r.length ≤ c1) (hl : FormulaSz l ≤ 1000000000000) (hr : r.length ≤ 1000000000000) :
    Calls Try.prog 25 #[.slice A0 l.length c0, .slice A1 r.length c1] w fun e w' => ∃ v, e = .returned (.tuple #[v, .bool (fBest l r).2]) ∧ Kd.R (Kd.int .i64) 3 w' w.heap.size (fun _ => True) v (fBest l r).1 ∧ Below w.heap.size w w' := by
  obtain ⟨kk, h⟩ := Ev.rounds (spec_FormulasBest_ev l r (by have := FormulaSz_len l; omega) (fun x hx => by have := FormulaSz_get hx; omega) hr)
  exact spec_FormulasBest.calls kk _ _ l _ _ r _ _ w hr0 hc0 hr1 hc1 h

/-! arguments that are read as data, as kinds -/
def Opn {α : Type} (P : Program) (t : TypeId) (d : Kd α) (ok : α → Prop) : Prop :=
  P.cellsOf t = d.sz ∧ ∀ {H : Type} (enc : TypeId × Value → H) (w : World) (base : Nat) (held : Bool) (fuel : Nat) (cs : List Value) (x : DataW H × List MemPlace), DataW.trod enc P w base (fun _ => true) held fuel t cs = some x → ∃ p, d.K w p cs ∧ ok p
theorem opn_int {P : Program} {t : TypeId} (k : IntKind) (ht : P.underlying t = some (.int k)) (hc : P.cellsOf t = 1) : Opn P t (Kd.int k) (fun n => (Lit.int k n).wf = true) :=
  ⟨hc, fun enc w base held fuel cs x h => by obtain ⟨n, rfl, _, hw⟩ := DataW.trod_int ht h; exact ⟨n, rfl, hw⟩⟩
theorem opn_bool {P : Program} {t : TypeId} (ht : P.underlying t = some .bool) (hc : P.cellsOf t = 1) : Opn P t Kd.bool (fun _ => True) :=
  ⟨hc, fun enc w base held fuel cs x h => by obtain ⟨n, rfl, _⟩ := DataW.trod_bool ht h; exact ⟨n, rfl, trivial⟩⟩
theorem opn_string {P : Program} {t : TypeId} (ht : P.underlying t = some .string) (hc : P.cellsOf t = 1) : Opn P t Kd.string (fun s => s.size ≤ maxLen) :=
  ⟨hc, fun enc w base held fuel cs x h => by obtain ⟨n, rfl, _, hs⟩ := DataW.trod_string ht h; exact ⟨n, rfl, hs⟩⟩
theorem opn_slice {α : Type} {P : Program} {t e : TypeId} {d : Kd α} {ok : α → Prop} (ht : P.underlying t = some (.slice e)) (hc : P.cellsOf t = 1) (he : Opn P e d ok) : Opn P t (Kd.slice e d) (fun l => (∀ x ∈ l, ok x) ∧ l.length ≤ maxLen) := by
  refine ⟨hc, fun enc w base held fuel cs x h => ?_⟩
  rcases Go.Deep.open_slice ht h with ⟨rfl, _⟩ | ⟨a, len, cap, m, n, D, Pl, rfl, _, hl, hm, hmm, _, hi⟩
  · exact ⟨[], ⟨none, 0, rfl, Nat.le_refl _, rfl, by simp, fun h => by simp at h⟩, by simp, by simp⟩
  · have hmc : m = cap := by simpa using hmm
    clear hmm
    have key : ∀ k, k ≤ len → ∃ l : List α, l.length = k ∧ (∀ x ∈ l, ok x) ∧ ∀ j p, l[j]? = some p → ∃ c, c.length = d.sz ∧ d.K w p c ∧ ∀ i u, c[i]? = some u → w.cell? (a.add (j * d.sz + i)) = some u := by
      intro k
      induction k with
      | zero => intro _; exact ⟨[], rfl, by simp, by simp⟩
      | succ k ih =>
        intro hk
        obtain ⟨l, hll, hlo, hlc⟩ := ih (by omega)
        obtain ⟨cs', hcs, ht'⟩ := hi k (by omega)
        rw [he.1] at hcs
        obtain ⟨p, hp, hop⟩ := he.2 enc w base held n cs' _ ht'
        obtain ⟨_, hcl, hat⟩ := World.cells?_some hcs
        refine ⟨l ++ [p], by simp [hll], ?_, ?_⟩
        · intro x hx
          rcases List.mem_append.1 hx with hx | hx
          · exact hlo x hx
          · rw [List.mem_singleton.1 hx]; exact hop
        · intro j q hq
          by_cases hj : j < l.length
          · rw [List.getElem?_append_left hj] at hq
            exact hlc j q hq
          · have hj2 : j = l.length := by
              have := (List.getElem?_eq_some_iff.1 hq).1
              simp at this; omega
            subst hj2
            rw [List.getElem?_append_right (Nat.le_refl _)] at hq
            simp at hq
            subst hq
            refine ⟨cs', hcl, hp, fun i u hu => ?_⟩
            have hil : i < d.sz := by rw [← hcl]; exact (List.getElem?_eq_some_iff.1 hu).1
            rw [hll, ← Go.Deep.add_add, hat i hil, hu]
    obtain ⟨l, hll, hlo, hlc⟩ := key len (Nat.le_refl _)
    subst hll
    exact ⟨l, ⟨some a, cap, rfl, hl, rfl, by unfold maxLen at hm; omega, fun _ => ⟨a, rfl, hlc⟩⟩, hlo, by omega⟩
theorem opn_iso {α β : Type} {P : Program} {t : TypeId} {d : Kd α} {ok : α → Prop} (h : Opn P t d ok) (f : β → α) (g : α → β) (hfg : ∀ x, f (g x) = x) : Opn P t (Kd.iso d f) (fun y => ok (f y)) :=
  ⟨h.1, fun enc w base held fuel cs x hx => by
    obtain ⟨p, hp, ho⟩ := h.2 enc w base held fuel cs x hx
    exact ⟨g p, by show d.K w (f (g p)) cs; rw [hfg]; exact hp, by show ok (f (g p)); rw [hfg]; exact ho⟩⟩
theorem opn_struct2 {α β : Type} {P : Program} {t : TypeId} {f0 f1 : Field} {a : Kd α} {b : Kd β} {oka : α → Prop} {okb : β → Prop} (ht : P.underlying t = some (.struct #[f0, f1])) (h0 : Opn P f0.type a oka) (h1 : Opn P f1.type b okb)
    (o0 : f0.offset = 0) (o1 : f1.offset = a.sz) (hc : P.cellsOf t = a.sz + b.sz) : Opn P t (Kd.pair a b) (fun p => oka p.1 ∧ okb p.2) := by
  refine ⟨hc, fun enc w base held fuel cs x h => ?_⟩
  obtain ⟨xs, n, _, _, hl, hxl, hg⟩ := DataW.trod_struct ht h
  have g0 := hg 0 f0 rfl
  have g1 := hg 1 f1 rfl
  rw [o0, h0.1, List.drop_zero] at g0
  rw [o1, h1.1] at g1
  rw [List.getElem?_eq_getElem (by rw [hxl]; simp)] at g0 g1
  obtain ⟨p, hp, hop⟩ := h0.2 enc w base held n _ _ g0
  obtain ⟨q, hq, hoq⟩ := h1.2 enc w base held n _ _ g1
  refine ⟨(p, q), ⟨cs.take a.sz, (cs.drop a.sz).take b.sz, ?_, hp, hq⟩, hop, hoq⟩
  rw [List.take_of_length_le (l := cs.drop a.sz) (by rw [List.length_drop, hl, hc]; omega), List.take_append_drop]
theorem opn_struct3 {α β γ : Type} {P : Program} {t : TypeId} {f0 f1 f2 : Field} {a : Kd α} {b : Kd β} {c : Kd γ} {oka : α → Prop} {okb : β → Prop} {okc : γ → Prop} (ht : P.underlying t = some (.struct #[f0, f1, f2])) (h0 : Opn P f0.type a oka) (h1 : Opn P f1.type b okb) (h2 : Opn P f2.type c okc)
    (o0 : f0.offset = 0) (o1 : f1.offset = a.sz) (o2 : f2.offset = a.sz + b.sz) (hc : P.cellsOf t = a.sz + (b.sz + c.sz)) : Opn P t (Kd.pair a (Kd.pair b c)) (fun p => oka p.1 ∧ okb p.2.1 ∧ okc p.2.2) := by
  refine ⟨hc, fun enc w base held fuel cs x h => ?_⟩
  obtain ⟨xs, n, _, _, hl, hxl, hg⟩ := DataW.trod_struct ht h
  have g0 := hg 0 f0 rfl
  have g1 := hg 1 f1 rfl
  have g2 := hg 2 f2 rfl
  rw [o0, h0.1, List.drop_zero] at g0
  rw [o1, h1.1] at g1
  rw [o2, h2.1] at g2
  rw [List.getElem?_eq_getElem (by rw [hxl]; simp)] at g0 g1 g2
  obtain ⟨p, hp, hop⟩ := h0.2 enc w base held n _ _ g0
  obtain ⟨q, hq, hoq⟩ := h1.2 enc w base held n _ _ g1
  obtain ⟨r, hr, hor⟩ := h2.2 enc w base held n _ _ g2
  refine ⟨(p, q, r), ⟨cs.take a.sz, cs.drop a.sz, by rw [List.take_append_drop], hp, (cs.drop a.sz).take b.sz, (cs.drop (a.sz + b.sz)).take c.sz, ?_, hq, hr⟩, hop, hoq, hor⟩
  rw [List.take_of_length_le (l := cs.drop (a.sz + b.sz)) (by rw [List.length_drop, hl, hc]; omega), ← List.drop_drop, List.take_append_drop]
theorem opn_struct4 {α β γ δ : Type} {P : Program} {t : TypeId} {f0 f1 f2 f3 : Field} {a : Kd α} {b : Kd β} {c : Kd γ} {d : Kd δ} {oka : α → Prop} {okb : β → Prop} {okc : γ → Prop} {okd : δ → Prop} (ht : P.underlying t = some (.struct #[f0, f1, f2, f3])) (h0 : Opn P f0.type a oka) (h1 : Opn P f1.type b okb) (h2 : Opn P f2.type c okc) (h3 : Opn P f3.type d okd)
    (o0 : f0.offset = 0) (o1 : f1.offset = a.sz) (o2 : f2.offset = a.sz + b.sz) (o3 : f3.offset = a.sz + b.sz + c.sz) (hc : P.cellsOf t = a.sz + (b.sz + (c.sz + d.sz))) : Opn P t (Kd.pair a (Kd.pair b (Kd.pair c d))) (fun p => oka p.1 ∧ okb p.2.1 ∧ okc p.2.2.1 ∧ okd p.2.2.2) := by
  refine ⟨hc, fun enc w base held fuel cs x h => ?_⟩
  obtain ⟨xs, n, _, _, hl, hxl, hg⟩ := DataW.trod_struct ht h
  have g0 := hg 0 f0 rfl
  have g1 := hg 1 f1 rfl
  have g2 := hg 2 f2 rfl
  have g3 := hg 3 f3 rfl
  rw [o0, h0.1, List.drop_zero] at g0
  rw [o1, h1.1] at g1
  rw [o2, h2.1] at g2
  rw [o3, h3.1] at g3
  rw [List.getElem?_eq_getElem (by rw [hxl]; simp)] at g0 g1 g2 g3
  obtain ⟨p, hp, hop⟩ := h0.2 enc w base held n _ _ g0
  obtain ⟨q, hq, hoq⟩ := h1.2 enc w base held n _ _ g1
  obtain ⟨r, hr, hor⟩ := h2.2 enc w base held n _ _ g2
  obtain ⟨s, hs, hos⟩ := h3.2 enc w base held n _ _ g3
  refine ⟨(p, q, r, s), ⟨cs.take a.sz, cs.drop a.sz, by rw [List.take_append_drop], hp, (cs.drop a.sz).take b.sz, cs.drop (a.sz + b.sz), by rw [← List.drop_drop, List.take_append_drop], hq, (cs.drop (a.sz + b.sz)).take c.sz, (cs.drop (a.sz + b.sz + c.sz)).take d.sz, ?_, hr, hs⟩, hop, hoq, hor, hos⟩
  rw [List.take_of_length_le (l := cs.drop (a.sz + b.sz + c.sz)) (by rw [List.length_drop, hl, hc]; omega)]
  exact (List.take_append_drop c.sz (cs.drop (a.sz + b.sz))).symm.trans (by rw [List.drop_drop])
/-- A slice argument. -/
theorem opn_arg {α : Type} {P : Program} {t e : TypeId} {d : Kd α} {ok : List α → Prop} (h : Opn P t (Kd.slice e d) ok) {H : Type} {enc : TypeId × Value → H} {w : World} {base : Nat} {held : Bool} {a : Option Addr} {len cap : Nat} {x : DataW H} {p : List MemPlace} (hr : DataW.Trod enc P w base (fun _ => true) held t (.slice a len cap) x p) :
    ∃ l : List α, len = l.length ∧ l.length ≤ cap ∧ d.C w a l.length l ∧ ok l := by
  obtain ⟨fuel, hf⟩ := hr
  obtain ⟨l, ⟨A, c, he, hc, hC⟩, ho⟩ := h.2 enc w base held fuel _ _ hf
  simp [Value.cells] at he
  obtain ⟨rfl, rfl, rfl⟩ := he
  exact ⟨l, rfl, hc, hC, ho⟩

end Go.Proofs.Ytkmganbgnjphfaa.Pure
