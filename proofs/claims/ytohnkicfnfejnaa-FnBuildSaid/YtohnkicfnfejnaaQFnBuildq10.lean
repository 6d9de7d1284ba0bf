/- Lemmas on the printed functions for the law FnBuild. -/
import Derived.Test.YtohnkicfnfejnaaGFnBuildg25
import Derived.Test.YtohnkicfnfejnaaGFnBuildg10
import Derived.Test.YtohnkicfnfejnaaGFnBuildg22
import Derived.Test.YtohnkicfnfejnaaGFnBuildg20
import Derived.Test.YtohnkicfnfejnaaQFnBuildq0
import Derived.Test.YtohnkicfnfejnaaQFnBuildq1
import Derived.Test.YtohnkicfnfejnaaQFnBuildq2
import Derived.Test.YtohnkicfnfejnaaQFnBuildq3
import Derived.Test.YtohnkicfnfejnaaQFnBuildq4
import Derived.Test.YtohnkicfnfejnaaQFnBuildq5
import Derived.Test.YtohnkicfnfejnaaQFnBuildq9
import Derived.Deep.RegionHeld3
import Derived.BigRegion
import Derived.Deep.Slices
import Derived.Laws.CopyOwn
namespace Go.Proofs.Ytohnkicfnfejnaa.Pure
set_option linter.unusedVariables false
set_option linter.unusedSimpArgs false
open Go Go.RowKit Go.Proofs.Ytohnkicfnfejnaa.PFnBuild Go.Proofs.YtohnkicfnfejnaaW.PrintWords Go.Proofs.YtohnkicfnfejnaaW.PrintLast Go.Proofs.YtohnkicfnfejnaaW.PrintMore

/-! the weight of a reading -/
def goW (l : List S40) : Int → List Int → Int
  | acc, [] => acc
  | acc, i :: is => if i < 0 ∨ (l.length : Int) ≤ i then -1 else goW l (acc + (rd_T40 l i).f1) is
def fweight (l : List S40) (r : List Int) : Int := if fsOk l = true then goW l 0 r else -1
theorem impl_FormulasWeight_ev (l : List S40) (r : List Int) (hl : ∀ x ∈ l, x.f0.length ≤ 1000000000000) (hr : r.length ≤ 1000000000000) : Ev (fun k => impl_FormulasWeight.f k l r) (fweight l r) := by
  unfold impl_FormulasWeight.f fweight
  refine Ev.bind (impl_FormulasValid_ev l hl) ?_
  cases hok : fsOk l
  · exact Ev.neg (by simp) (Ev.eqr (Ev.now _) (by simp))
  refine Ev.pos rfl ?_
  rw [if_pos rfl]
  have h8 := fsOk_len hok
  have := Ev.over (0 : Int) r (fun k (s : Int) i => impl_FormulasWeight.l0 k l s r r.length i) (fun s rest => goW l s rest) (fun i s => 0 ≤ s ∧ s ≤ 9 * i) (by
    intro s _
    refine Ev.succ ?_
    simp only [impl_FormulasWeight.l0, goW]
    exact Ev.neg (by omega) (Ev.now _)) (by
    intro s i rest hs hi _ ih
    refine Ev.succ ?_
    simp only [impl_FormulasWeight.l0, goW]
    refine Ev.pos (by omega) (Ev.pos (by omega) (Ev.pos (by omega) ?_))
    have hrd : rd r (i : Int) = r.getD i 0 := rfl
    rw [hrd]
    generalize r.getD i 0 = n
    by_cases h1 : n < 0
    · rw [if_pos (Or.inl h1)]
      exact Ev.pos h1 (Ev.now _)
    · refine Ev.neg h1 ?_
      by_cases h2 : n ≥ (l.length : Int)
      · rw [if_pos (Or.inr h2)]
        exact Ev.pos h2 (Ev.now _)
      · rw [if_neg (by omega)]
        refine Ev.neg h2 (Ev.pos (by omega) (Ev.pos (by omega) ?_))
        have hw := fOk_weight (fsOk_all hok _ (rd_mem (k := n) (by omega) (by omega)))
        rw [w64 (x := s + _) (by omega) (by omega), w64 (by omega) (by omega)]
        exact ih _ (by omega)) 0 0 (Nat.zero_le _) (by omega)
  simpa using this

theorem spec_l6fOne_ev (x : S40) (hl : x.f0.length ≤ 1000000000000) : Ev (fun k => spec_l6fOne.f k x.f0 x.f1) (fOk x) := by
  unfold spec_l6fOne.f
  have := Ev.over (0 : Int) x.f0 (fun k (_ : Unit) i => spec_l6fOne.l0 k i x.f0 x.f1) (fun _ rest => rest.all (inR (-7) 7) && (decide (1 ≤ (x.f0.length : Int) ∧ (x.f0.length : Int) ≤ 5) && decide (1 ≤ x.f1 ∧ x.f1 ≤ 9))) (fun _ _ => True) (by
    intro s _
    refine Ev.succ ?_
    simp only [spec_l6fOne.l0, List.all_nil, Bool.true_and]
    refine Ev.neg (by omega) (Ev.conb (spec_l6In_eq _ _ _) ?_)
    by_cases h : 1 ≤ (x.f0.length : Int) ∧ (x.f0.length : Int) ≤ 5
    · rw [decide_eq_true h]
      exact Ev.pos rfl (Ev.conb (spec_l6In_eq _ _ _) (Ev.now _))
    · rw [decide_eq_false h]
      exact Ev.neg (by simp) (Ev.now _)) (by
    intro s i rest _ hi _ ih
    refine Ev.succ ?_
    simp only [spec_l6fOne.l0, List.all_cons]
    rw [w64 (by omega) (by omega)]
    refine Ev.pos (by omega) (Ev.pos (by omega) (Ev.conb (spec_l6In_eq _ _ _) ?_))
    have hrd : rd x.f0 (i : Int) = x.f0.getD i 0 := rfl
    rw [hrd]
    show Ev _ ((decide (-7 ≤ x.f0.getD i 0 ∧ x.f0.getD i 0 ≤ 7) && _) && _)
    by_cases h : -7 ≤ x.f0.getD i 0 ∧ x.f0.getD i 0 ≤ 7
    · rw [decide_eq_true h]
      exact Ev.pos rfl (ih () trivial)
    · rw [decide_eq_false h]
      exact Ev.neg (by simp) (Ev.now _)) 0 () (Nat.zero_le _) trivial
  refine Ev.eqr (by simpa using this) ?_
  unfold fOk
  cases x.f0.all (inR (-7) 7) <;> simp
theorem spec_FormulasValid_ev (l : List S40) (hll : l.length ≤ 1000000000000) (hl : ∀ x ∈ l, x.f0.length ≤ 1000000000000) : Ev (fun k => spec_FormulasValid.f k l) (fsOk l) := by
  unfold spec_FormulasValid.f
  have := Ev.over z40 l (fun k (_ : Unit) i => spec_FormulasValid.l0 k l i) (fun _ rest => goF (l.take (l.length - rest.length)) rest && decide ((l.length : Int) ≤ 8)) (fun _ _ => True) (by
    intro s _
    refine Ev.succ ?_
    simp only [spec_FormulasValid.l0, goF, Bool.true_and]
    exact Ev.neg (by omega) (Ev.now _)) (by
    intro s i rest _ hi hdr ih
    have hrl : rest.length + 1 + i = l.length := by
      have := congrArg List.length hdr
      simp at this; omega
    have hm : l.getD i z40 ∈ l := by
      rw [List.getD_eq_getElem?_getD, List.getElem?_eq_getElem hi]; exact List.getElem_mem hi
    have hx := hl _ hm
    refine Ev.succ ?_
    simp only [spec_FormulasValid.l0]
    refine Ev.pos (by omega) (Ev.pos (by omega) ?_)
    have hrd : rd_T40 l (i : Int) = l.getD i z40 := rfl
    have e2 : l.length - (l.getD i z40 :: rest).length = i := by simp; omega
    have e1 : l.length - rest.length = i + 1 := by omega
    have ih := ih () trivial
    rw [e1, take_rd l i hi] at ih
    rw [e2]
    rw [← hrd] at hx ih ⊢
    simp only [goF]
    refine Ev.bind (spec_l6fOne_ev _ hx) ?_
    cases hf : fOk (rd_T40 l (i : Int))
    · exact Ev.neg (by simp) (Ev.now _)
    refine Ev.pos rfl ?_
    simp only [Bool.true_and]
    have htl : (l.take i).length = i := by simp; omega
    have inner := Ev.over z40 (l.take i) (fun k (_ : Unit) j => spec_FormulasValid.l1 k l i j) (fun _ rest' => (!(rest'.any (fun y => y.f0 == (rd_T40 l (i : Int)).f0)) && goF (l.take i ++ [rd_T40 l (i : Int)]) rest) && decide ((l.length : Int) ≤ 8)) (fun _ _ => True) (by
      intro s _
      refine Ev.succ ?_
      simp only [spec_FormulasValid.l1]
      refine Ev.neg (by omega) ?_
      rw [w64 (by omega) (by omega)]
      simpa using ih) (by
      intro s j rest' _ hj _ ih'
      have hjm : (l.take i).getD j z40 ∈ l := by
        rw [List.getD_eq_getElem?_getD, List.getElem?_eq_getElem hj]; exact List.mem_of_mem_take (List.getElem_mem hj)
      have hxj := hl _ hjm
      refine Ev.succ ?_
      simp only [spec_FormulasValid.l1]
      refine Ev.pos (by omega) (Ev.pos (by omega) (Ev.pos (by omega) (Ev.pos (by omega) (Ev.pos (by omega) ?_))))
      have hrd' : rd_T40 l (j : Int) = (l.take i).getD j z40 := by
        rw [List.getD_eq_getElem?_getD, List.getElem?_take, if_pos (by omega)]
        simp [rd_T40]
      rw [hrd']
      generalize (l.take i).getD j z40 = y at hxj
      refine Ev.bind (spec_l2Same_ev _ _ hx) ?_
      simp only [List.any_cons]
      have hcm : (y.f0 == (rd_T40 l (i : Int)).f0) = ((rd_T40 l (i : Int)).f0 == y.f0) := by rw [Bool.eq_iff_iff, beq_iff_eq, beq_iff_eq]; exact eq_comm
      rw [hcm]
      cases (rd_T40 l (i : Int)).f0 == y.f0
      · refine Ev.neg (by simp) ?_
        rw [w64 (by omega) (by omega)]
        simpa using ih' () trivial
      · exact Ev.pos rfl (Ev.now _)) 0 () (Nat.zero_le _) trivial
    simpa using inner) 0 () (Nat.zero_le _) trivial
  refine Ev.eqr (by simpa using this) ?_
  unfold fsOk
  rw [Bool.and_comm]

/-! how much a reader finds at most -/
theorem goF_pw : ∀ {l acc : List S40}, goF acc l = true → (∀ a ∈ acc, ∀ b ∈ l, a.f0 ≠ b.f0) ∧ l.Pairwise (fun a b => a.f0 ≠ b.f0)
  | [], acc, _ => ⟨by simp, List.Pairwise.nil⟩
  | x :: xs, acc, h => by
    simp only [goF, Bool.and_eq_true, Bool.not_eq_true', List.any_eq_false, beq_iff_eq] at h
    obtain ⟨_, h1, h2⟩ := h
    obtain ⟨h3, h4⟩ := goF_pw h2
    refine ⟨fun a ha b hb => ?_, List.pairwise_cons.2 ⟨fun b hb => h3 x (by simp) b hb, h4⟩⟩
    rcases List.mem_cons.1 hb with rfl | hb
    · exact h1 a ha
    · exact h3 a (List.mem_append_left _ ha) b hb
def sumB (s : List Int) : List S40 → Nat
  | [] => 0
  | f :: fs => (if isPre f.f0 s = true then 2 ^ (s.length - f.f0.length) else 0) + sumB s fs
theorem sum_pow : ∀ (n : Nat) (ks : List Nat), ks.Nodup → (∀ k ∈ ks, 1 ≤ k ∧ k ≤ n) → (ks.map (fun k => 2 ^ (n - k))).sum + 1 ≤ 2 ^ n
  | 0, ks, _, h => by
    cases ks with
    | nil => simp
    | cons k ks => have := h k (by simp); omega
  | n + 1, ks, hn, h => by
    have key : ∀ l : List Nat, (∀ k ∈ l, k ≤ n) → (l.map (fun k => 2 ^ (n + 1 - k))).sum = 2 * (l.map (fun k => 2 ^ (n - k))).sum := by
      intro l
      induction l with
      | nil => intro _; rfl
      | cons k l ih =>
        intro hl
        have h1 := hl k (by simp)
        have e : n + 1 - k = (n - k) + 1 := by omega
        simp only [List.map_cons, List.sum_cons]
        rw [ih (fun k hk => hl k (by simp [hk])), e, Nat.pow_succ]; omega
    by_cases hm : n + 1 ∈ ks
    · have hp := List.perm_cons_erase hm
      have h1 := sum_pow n (ks.erase (n + 1)) (hn.erase _) (fun k hk => by
        have h2 := h k (List.mem_of_mem_erase hk)
        have : k ≠ n + 1 := fun e => by subst e; exact (List.Nodup.not_mem_erase hn) hk
        omega)
      have h2 := (hp.map (fun k => 2 ^ (n + 1 - k))).sum_nat
      rw [h2, List.map_cons, List.sum_cons, key _ (fun k hk => by
        have h2 := h k (List.mem_of_mem_erase hk)
        have : k ≠ n + 1 := fun e => by subst e; exact (List.Nodup.not_mem_erase hn) hk
        omega), Nat.sub_self, Nat.pow_succ]
      omega
    · rw [key _ (fun k hk => by have := h k hk; have : k ≠ n + 1 := fun e => hm (e ▸ hk); omega)]
      have h1 := sum_pow n ks hn (fun k hk => by have := h k hk; have : k ≠ n + 1 := fun e => hm (e ▸ hk); omega)
      rw [Nat.pow_succ]; omega
theorem isPre_take {p s : List Int} (h : isPre p s = true) : s.take p.length = p := by
  unfold isPre at h; simp at h; exact h.2
theorem sumB_eq (s : List Int) : ∀ L : List S40, sumB s L = (((L.filter (fun f => isPre f.f0 s)).map (fun f => f.f0.length)).map (fun k => 2 ^ (s.length - k))).sum
  | [] => rfl
  | f :: fs => by
    simp only [sumB]
    rw [sumB_eq s fs, List.filter_cons]
    cases isPre f.f0 s <;> simp
theorem sumB_le {s : List Int} {L : List S40} (hL : ∀ f ∈ L, 1 ≤ f.f0.length) (hp : L.Pairwise (fun a b => a.f0 ≠ b.f0)) : sumB s L ≤ 2 ^ s.length := by
  rw [sumB_eq]
  have h1 : ((L.filter (fun f => isPre f.f0 s)).map (fun f => f.f0.length)).Nodup := by
    rw [List.nodup_iff_pairwise_ne, List.pairwise_map]
    have h2 := hp.filter (fun f => isPre f.f0 s)
    refine List.Pairwise.imp_of_mem (fun {a b} ha hb h => ?_) h2
    intro e
    have h3 := isPre_take (List.mem_filter.1 ha).2
    have h4 := isPre_take (List.mem_filter.1 hb).2
    rw [e] at h3
    exact h (h3.symm.trans h4)
  have := sum_pow s.length _ h1 (fun k hk => by
    obtain ⟨f, hf, rfl⟩ := List.mem_map.1 hk
    obtain ⟨hf1, hf2⟩ := List.mem_filter.1 hf
    exact ⟨hL f hf1, isPre_len hf2⟩)
  omega
/-- A least sum, -1 for none. -/
def lA (c : S40 → Int) (g : List Int → Int) (s : List Int) : List S40 → Int → Int
  | [], a => a
  | f :: fs, a => if isPre f.f0 s = true then (if g (s.drop f.f0.length) < 0 then lA c g s fs a else lA c g s fs (if a < 0 ∨ g (s.drop f.f0.length) + c f < a then g (s.drop f.f0.length) + c f else a)) else lA c g s fs a
def oW (o : OutC) : Int := if o.f0 = 0 then -1 else o.f1
def oF (o : OutC) : Int := if o.f0 = 0 then -1 else o.f2
structure OBd (n : Nat) (o : OutC) : Prop where
  lo : 0 ≤ o.f0
  hi : o.f0 ≤ ((2 ^ n : Nat) : Int)
  w0 : o.f0 ≠ 0 → 0 ≤ o.f1
  w1 : o.f0 ≠ 0 → o.f1 ≤ 9 * (n : Int)
  f0 : o.f0 ≠ 0 → 0 ≤ o.f2
  f1 : o.f0 ≠ 0 → o.f2 ≤ (n : Int)
theorem OBd.oW {n : Nat} {o : OutC} (h : OBd n o) : -1 ≤ Pure.oW o ∧ Pure.oW o ≤ 9 * (n : Int) := by
  unfold Pure.oW
  by_cases hz : o.f0 = 0
  · rw [if_pos hz]; omega
  · rw [if_neg hz]; have := h.w0 hz; have := h.w1 hz; omega
theorem OBd.oF {n : Nat} {o : OutC} (h : OBd n o) : -1 ≤ Pure.oF o ∧ Pure.oF o ≤ (n : Int) := by
  unfold Pure.oF
  by_cases hz : o.f0 = 0
  · rw [if_pos hz]; omega
  · rw [if_neg hz]; have := h.f0 hz; have := h.f1 hz; omega
theorem outW_plain {n m : Nat} {o r : OutC} {f : S40} (hn : n ≤ 23) (hm : m + f.f0.length ≤ n) (hf : 1 ≤ f.f0.length) (hw : 1 ≤ f.f1 ∧ f.f1 ≤ 9) (h1 : OBd n o) (h2 : OBd m r) (hr : r.f0 ≠ 0) (hs : o.f0 + r.f0 ≤ ((2 ^ n : Nat) : Int)) :
    OBd n (outW o f r) ∧ (outW o f r).f0 = o.f0 + r.f0 ∧ oW (outW o f r) = (if oW o < 0 ∨ oW r + f.f1 < oW o then oW r + f.f1 else oW o) ∧ oF (outW o f r) = (if oF o < 0 ∨ oF r + 1 < oF o then oF r + 1 else oF o) := by
  have hp : (2 : Nat) ^ n ≤ 2 ^ 23 := Nat.pow_le_pow_right (by omega) hn
  have hp' : (2 : Nat) ^ 23 = 8388608 := rfl
  obtain ⟨a1, a2, a3, a4, a5, a6⟩ := h1
  obtain ⟨b1, b2, b3, b4, b5, b6⟩ := h2
  have b3 := b3 hr; have b4 := b4 hr; have b5 := b5 hr; have b6 := b6 hr
  have hne : o.f0 + r.f0 ≠ 0 := by omega
  unfold outW
  by_cases h : o.f0 > 0
  · have hz : o.f0 ≠ 0 := by omega
    have a3 := a3 hz; have a4 := a4 hz; have a5 := a5 hz; have a6 := a6 hz
    rw [if_pos h, w64 (x := o.f0 + r.f0) (by omega) (by omega), w64 (x := f.f1 + r.f1) (by omega) (by omega), w64 (x := 1 + r.f2) (by omega) (by omega)]
    have m1 := mn_le (f.f1 + r.f1) o.f1
    have m2 := mn_le (1 + r.f2) o.f2
    refine ⟨⟨by simp only []; omega, hs, fun _ => by simp only []; omega, fun _ => by simp only []; omega, fun _ => by simp only []; omega, fun _ => by simp only []; omega⟩, rfl, ?_, ?_⟩
    · unfold oW
      simp only []
      rw [if_neg hne, if_neg hz, if_neg hr]
      by_cases hc : r.f1 + f.f1 < o.f1
      · rw [if_pos (.inr hc)]; omega
      · rw [if_neg (by omega)]; omega
    · unfold oF
      simp only []
      rw [if_neg hne, if_neg hz, if_neg hr]
      by_cases hc : r.f2 + 1 < o.f2
      · rw [if_pos (.inr hc)]; omega
      · rw [if_neg (by omega)]; omega
  · have hz : o.f0 = 0 := by omega
    rw [if_neg h, w64 (x := o.f0 + r.f0) (by omega) (by omega), w64 (x := f.f1 + r.f1) (by omega) (by omega), w64 (x := 1 + r.f2) (by omega) (by omega)]
    refine ⟨⟨by simp only []; omega, hs, fun _ => by simp only []; omega, fun _ => by simp only []; omega, fun _ => by simp only []; omega, fun _ => by simp only []; omega⟩, rfl, ?_, ?_⟩
    · unfold oW
      simp only []
      rw [if_neg hne, if_pos hz, if_neg hr, if_pos (.inl (by omega))]; omega
    · unfold oF
      simp only []
      rw [if_neg hne, if_pos hz, if_neg hr, if_pos (.inl (by omega))]; omega
theorem rdA_plain {rec : List Int → OutC} {s : List Int} (hs : s.length ≤ 23) (hrec : ∀ k, 1 ≤ k → k ≤ s.length → OBd (s.length - k) (rec (s.drop k))) :
    ∀ (L : List S40) (acc : OutC), (∀ f ∈ L, 1 ≤ f.f0.length ∧ 1 ≤ f.f1 ∧ f.f1 ≤ 9) → OBd s.length acc → acc.f0 + (sumB s L : Int) ≤ ((2 ^ s.length : Nat) : Int) →
      OBd s.length (rdA rec s L acc) ∧ oW (rdA rec s L acc) = lA (fun f => f.f1) (fun t => oW (rec t)) s L (oW acc) ∧ oF (rdA rec s L acc) = lA (fun _ => 1) (fun t => oF (rec t)) s L (oF acc)
  | [], acc, _, h, _ => ⟨h, rfl, rfl⟩
  | f :: fs, acc, hL, h, hb => by
    have hf := hL f (by simp)
    have hL' := fun g hg => hL g (List.mem_cons_of_mem _ hg)
    simp only [rdA, lA, sumB] at hb ⊢
    by_cases hp : isPre f.f0 s = true
    · rw [if_pos hp] at hb
      rw [if_pos hp, if_pos hp, if_pos hp]
      have hl := isPre_len hp
      have hr := hrec f.f0.length hf.1 hl
      generalize rec (s.drop f.f0.length) = r at hr ⊢
      rw [Int.natCast_add] at hb
      have hbr := hr.hi
      by_cases hz : r.f0 = 0
      · have e1 : oW r = -1 := if_pos hz
        have e2 : oF r = -1 := if_pos hz
        rw [if_pos hz, if_pos (by rw [e1]; omega), if_pos (by rw [e2]; omega)]
        have := hr.lo
        exact rdA_plain hs hrec fs acc hL' h (by omega)
      · have e1 : ¬ oW r < 0 := by unfold oW; rw [if_neg hz]; have := hr.w0 hz; omega
        have e2 : ¬ oF r < 0 := by unfold oF; rw [if_neg hz]; have := hr.f0 hz; omega
        rw [if_neg hz, if_neg e1, if_neg e2]
        obtain ⟨o1, o2, o3, o4⟩ := outW_plain (n := s.length) (m := s.length - f.f0.length) (o := acc) (r := r) (f := f) hs (by omega) hf.1 hf.2 h hr hz (by omega)
        rw [← o3, ← o4]
        exact rdA_plain hs hrec fs (outW acc f r) hL' o1 (by rw [o2]; omega)
    · rw [if_neg hp] at hb
      rw [if_neg hp, if_neg hp, if_neg hp]
      exact rdA_plain hs hrec fs acc hL' h (by omega)
/-- What valid formulas are good for. -/
structure FsV (L : List S40) : Prop where
  len : L.length ≤ 8
  one : ∀ f ∈ L, 1 ≤ f.f0.length ∧ f.f0.length ≤ 5
  wt : ∀ f ∈ L, 1 ≤ f.f1 ∧ f.f1 ≤ 9
  pw : L.Pairwise (fun a b => a.f0 ≠ b.f0)
theorem FsV.of {L : List S40} (h : fsOk L = true) : FsV L :=
  ⟨fsOk_len h, fun f hf => fOk_len (fsOk_all h f hf), fun f hf => fOk_weight (fsOk_all h f hf), (goF_pw (acc := []) (by unfold fsOk at h; simp at h; exact h.2)).2⟩
theorem rdO_bd {L : List S40} (hv : FsV L) : ∀ (n : Nat) (s : List Int), s.length = n → n ≤ 23 → OBd n (rdO L s) := by
  intro n
  induction n using Nat.strongRecOn with
  | ind n ih =>
    intro s hs hn
    by_cases hne : s = []
    · subst hne
      simp at hs
      subst hs
      rw [rdO_nil]
      exact ⟨by simp, by simp, by simp, by simp, by simp, by simp⟩
    · rw [rdO_step (fun f hf => (hv.one f hf).1) hne]
      subst hs
      refine (rdA_plain hn (fun k hk hk' => ih (s.length - k) (by omega) _ (by rw [List.length_drop]) (by omega)) L ⟨0, 0, 0⟩ (fun f hf => ⟨(hv.one f hf).1, hv.wt f hf⟩) ⟨by simp, Int.natCast_nonneg _, by simp, by simp, by simp, by simp⟩ ?_).1
      have := sumB_le (s := s) (fun f hf => (hv.one f hf).1) hv.pw
      simp only [Int.zero_add]
      exact_mod_cast this
theorem rdO_least {L : List S40} (hv : FsV L) {s : List Int} (hs : s.length ≤ 23) (hne : s ≠ []) :
    oW (rdO L s) = lA (fun f => f.f1) (fun t => oW (rdO L t)) s L (-1) ∧ oF (rdO L s) = lA (fun _ => 1) (fun t => oF (rdO L t)) s L (-1) := by
  have h := rdA_plain (rec := rdO L) (s := s) hs (fun k hk hk' => rdO_bd hv (s.length - k) _ (by rw [List.length_drop]) (by omega)) L ⟨0, 0, 0⟩ (fun f hf => ⟨(hv.one f hf).1, hv.wt f hf⟩) ⟨by simp, Int.natCast_nonneg _, by simp, by simp, by simp, by simp⟩ (by
    have := sumB_le (s := s) (fun f hf => (hv.one f hf).1) hv.pw
    simp only [Int.zero_add]
    exact_mod_cast this)
  rw [rdO_step (fun f hf => (hv.one f hf).1) hne]
  exact ⟨h.2.1, h.2.2⟩

/-! what a reading builds -/
def goB (l : List S40) : List Int → List Int → List Int × Bool
  | acc, [] => (acc, true)
  | acc, i :: is => if i < 0 ∨ (l.length : Int) ≤ i ∨ acc.length + (rd_T40 l i).f0.length > 23 then ([], false) else goB l (acc ++ (rd_T40 l i).f0) is
def fbuild (l : List S40) (r : List Int) : List Int × Bool := if fsOk l = true then goB l [] r else ([], false)
theorem goB_len (l : List S40) : ∀ r acc, acc.length ≤ 23 → (goB l acc r).1.length ≤ 23
  | [], acc, h => h
  | i :: is, acc, h => by
    simp only [goB]
    split
    · simp
    · exact goB_len l is _ (by rw [List.length_append]; omega)
theorem fbuild_len (l : List S40) (r : List Int) : (fbuild l r).1.length ≤ 23 := by
  unfold fbuild
  split
  · exact goB_len l r [] (by simp)
  · simp
theorem impl_FormulasBuild_ev (l : List S40) (r : List Int) (hl : ∀ x ∈ l, x.f0.length ≤ 1000000000000) (hr : r.length ≤ 1000000000000) : Ev (fun k => impl_FormulasBuild.f k l r) (fbuild l r) := by
  unfold impl_FormulasBuild.f fbuild
  refine Ev.bind (impl_FormulasValid_ev l hl) ?_
  cases hok : fsOk l
  · exact Ev.neg (by simp) (Ev.eqr (Ev.now _) (by simp))
  refine Ev.pos rfl ?_
  rw [if_pos rfl]
  have h8 := fsOk_len hok
  have := Ev.over (0 : Int) r (fun k (s : List Int) i => impl_FormulasBuild.l0 k l s r r.length i) (fun s rest => goB l s rest) (fun i s => s.length ≤ 23) (by
    intro s _
    refine Ev.succ ?_
    simp only [impl_FormulasBuild.l0, goB]
    exact Ev.neg (by omega) (Ev.now _)) (by
    intro s i rest hs hi _ ih
    refine Ev.succ ?_
    simp only [impl_FormulasBuild.l0, goB]
    refine Ev.pos (by omega) (Ev.pos (by omega) (Ev.pos (by omega) ?_))
    have hrd : rd r (i : Int) = r.getD i 0 := rfl
    rw [hrd]
    generalize r.getD i 0 = n
    by_cases h1 : n < 0
    · rw [if_pos (Or.inl h1)]
      exact Ev.pos h1 (Ev.now _)
    · refine Ev.neg h1 ?_
      by_cases h2 : n ≥ (l.length : Int)
      · rw [if_pos (Or.inr (Or.inl h2))]
        exact Ev.pos h2 (Ev.now _)
      · refine Ev.neg h2 (Ev.pos (by omega) (Ev.pos (by omega) ?_))
        have hw := fOk_len (fsOk_all hok _ (rd_mem (k := n) (by omega) (by omega)))
        rw [w64 (by omega) (by omega)]
        by_cases h3 : (s.length : Int) + ((rd_T40 l n).f0.length : Int) > 23
        · rw [if_pos (Or.inr (Or.inr (by omega)))]
          exact Ev.pos h3 (Ev.now _)
        · rw [if_neg (by omega)]
          refine Ev.neg h3 (Ev.pos (by omega) ?_)
          rw [w64 (by omega) (by omega)]
          exact ih _ (by rw [List.length_append]; omega)) 0 [] (Nat.zero_le _) (by simp)
  simpa using this
theorem spec_FormulasBuild_ev (l : List S40) (r : List Int) (hll : l.length ≤ 1000000000000) (hl : ∀ x ∈ l, x.f0.length ≤ 1000000000000) (hr : r.length ≤ 1000000000000) : Ev (fun k => spec_FormulasBuild.f k l r) (fbuild l r) := by
  unfold spec_FormulasBuild.f fbuild
  refine Ev.someb (Ev.bind (spec_FormulasValid_ev l hll hl) ?_)
  cases hok : fsOk l
  · exact Ev.neg (by simp) (Ev.eqr (Ev.now _) (by simp))
  refine Ev.pos rfl ?_
  rw [if_pos rfl]
  have h8 := fsOk_len hok
  have := Ev.over (0 : Int) r (fun k (s : List Int) i => spec_FormulasBuild.l0 k l r s i) (fun s rest => goB l s rest) (fun i s => s.length ≤ 23) (by
    intro s _
    refine Ev.succ ?_
    simp only [spec_FormulasBuild.l0, goB]
    exact Ev.neg (by omega) (Ev.now _)) (by
    intro s i rest hs hi _ ih
    refine Ev.succ ?_
    simp only [spec_FormulasBuild.l0, goB]
    rw [w64 (x := (l.length : Int) - 1) (by omega) (by omega)]
    refine Ev.pos (by omega) (Ev.pos (by omega) (Ev.conb (spec_l6In_eq _ _ _) ?_))
    have hrd : rd r (i : Int) = r.getD i 0 := rfl
    rw [hrd]
    generalize r.getD i 0 = n
    by_cases h1 : 0 ≤ n ∧ n ≤ (l.length : Int) - 1
    · rw [decide_eq_true h1]
      have hw := fOk_len (fsOk_all hok _ (rd_mem (k := n) (by omega) (by omega)))
      refine Ev.pos rfl (Ev.pos h1.1 (Ev.pos (by omega) (Ev.pos (by omega) (Ev.someb ?_))))
      by_cases h3 : ((s ++ (rd_T40 l n).f0).length : Int) ≥ 24
      · rw [if_pos (by rw [List.length_append] at h3; omega)]
        exact Ev.pos h3 (Ev.now _)
      · have h3' := h3
        rw [List.length_append] at h3'
        rw [if_neg (by omega), w64 (by omega) (by omega)]
        exact Ev.neg h3 (ih _ (by rw [List.length_append]; omega))
    · rw [decide_eq_false h1, if_pos (by omega)]
      exact Ev.neg (by simp) (Ev.now _)) 0 [] (Nat.zero_le _) (by simp)
  simpa using this

/-! readings, plain -/
def okIx (L : List S40) (r : List Int) : Prop := ∀ i ∈ r, 0 ≤ i ∧ i < (L.length : Int)
def flatR (L : List S40) : List Int → List Int
  | [] => []
  | i :: r => (rd_T40 L i).f0 ++ flatR L r
def sumW (L : List S40) : List Int → Int
  | [] => 0
  | i :: r => (rd_T40 L i).f1 + sumW L r
theorem flatR_app (L : List S40) : ∀ a b, flatR L (a ++ b) = flatR L a ++ flatR L b
  | [], b => rfl
  | i :: a, b => by simp only [List.cons_append, flatR]; rw [flatR_app L a b, List.append_assoc]
theorem goB_of {L : List S40} : ∀ (r acc : List Int), okIx L r → (acc ++ flatR L r).length ≤ 23 → goB L acc r = (acc ++ flatR L r, true)
  | [], acc, _, _ => by simp [goB, flatR]
  | i :: r, acc, h, hl => by
    have hi := h i List.mem_cons_self
    simp only [flatR] at hl ⊢
    simp only [goB]
    rw [if_neg (by rw [List.length_append, List.length_append] at hl; omega), goB_of r _ (fun j hj => h j (List.mem_cons_of_mem _ hj)) (by rw [List.append_assoc]; exact hl), List.append_assoc]
theorem goB_inv {L : List S40} : ∀ (r acc : List Int), acc.length ≤ 23 → (goB L acc r).2 = true → okIx L r ∧ (acc ++ flatR L r).length ≤ 23
  | [], acc, hl, _ => ⟨fun i hi => by simp at hi, by simpa [flatR] using hl⟩
  | i :: r, acc, hl, h => by
    simp only [goB] at h
    by_cases hc : i < 0 ∨ (L.length : Int) ≤ i ∨ acc.length + (rd_T40 L i).f0.length > 23
    · rw [if_pos hc] at h; cases h
    · rw [if_neg hc] at h
      obtain ⟨h1, h2⟩ := goB_inv r _ (by rw [List.length_append]; omega) h
      refine ⟨fun j hj => ?_, by simp only [flatR]; rw [← List.append_assoc]; exact h2⟩
      rcases List.mem_cons.1 hj with rfl | hj
      · omega
      · exact h1 j hj
theorem fbuild_of {L : List S40} {r : List Int} (hv : fsOk L = true) (h : okIx L r) (hl : (flatR L r).length ≤ 23) : fbuild L r = (flatR L r, true) := by
  unfold fbuild
  rw [if_pos hv, goB_of r [] h (by simpa using hl)]; simp
theorem fbuild_inv {L : List S40} {r : List Int} (h : (fbuild L r).2 = true) : fsOk L = true ∧ okIx L r ∧ (flatR L r).length ≤ 23 ∧ (fbuild L r).1 = flatR L r := by
  have hv : fsOk L = true := by
    unfold fbuild at h
    by_cases hv : fsOk L = true
    · exact hv
    · rw [if_neg hv] at h; cases h
  have h' : (goB L [] r).2 = true := by unfold fbuild at h; rw [if_pos hv] at h; exact h
  obtain ⟨h1, h2⟩ := goB_inv r [] (by simp) h'
  have h2 : (flatR L r).length ≤ 23 := by simpa using h2
  exact ⟨hv, h1, h2, by rw [fbuild_of hv h1 h2]⟩
theorem goW_of {L : List S40} : ∀ (r : List Int) (acc : Int), okIx L r → goW L acc r = acc + sumW L r
  | [], acc, _ => by simp [goW, sumW]
  | i :: r, acc, h => by
    have hi := h i List.mem_cons_self
    simp only [goW, sumW]
    rw [if_neg (by omega), goW_of r _ (fun j hj => h j (List.mem_cons_of_mem _ hj))]; omega
theorem fweight_of {L : List S40} {r : List Int} (hv : fsOk L = true) (h : okIx L r) : fweight L r = sumW L r := by
  unfold fweight
  rw [if_pos hv, goW_of r 0 h]; omega
/-! the least sum is least -/
theorem lA_le {c : S40 → Int} {g : List Int → Int} {s : List Int} : ∀ (l : List S40) (a : Int), (∀ f ∈ l, 0 ≤ c f) → -1 ≤ a → (0 ≤ a → 0 ≤ lA c g s l a ∧ lA c g s l a ≤ a) ∧ (∀ f ∈ l, isPre f.f0 s = true → 0 ≤ g (s.drop f.f0.length) → 0 ≤ lA c g s l a ∧ lA c g s l a ≤ g (s.drop f.f0.length) + c f)
  | [], a, _, _ => ⟨fun h => ⟨h, Int.le_refl _⟩, fun f hf => by simp at hf⟩
  | x :: l, a, hc, ha => by
    have hc' := fun f hf => hc f (List.mem_cons_of_mem _ hf)
    have hx := hc x List.mem_cons_self
    simp only [lA]
    by_cases hp : isPre x.f0 s = true
    · rw [if_pos hp]
      by_cases hg : g (s.drop x.f0.length) < 0
      · rw [if_pos hg]
        obtain ⟨h1, h2⟩ := lA_le (g := g) (s := s) l a hc' ha
        refine ⟨h1, fun f hf hpf hgf => ?_⟩
        rcases List.mem_cons.1 hf with rfl | hf
        · omega
        · exact h2 f hf hpf hgf
      · rw [if_neg hg]
        generalize hv : g (s.drop x.f0.length) + c x = v
        have hv0 : 0 ≤ v := by omega
        by_cases hlt : a < 0 ∨ v < a
        · rw [if_pos hlt]
          obtain ⟨h1, h2⟩ := lA_le (g := g) (s := s) l v hc' (by omega)
          have h1 := h1 hv0
          refine ⟨fun ha' => by omega, fun f hf hpf hgf => ?_⟩
          rcases List.mem_cons.1 hf with rfl | hf
          · omega
          · exact h2 f hf hpf hgf
        · rw [if_neg hlt]
          obtain ⟨h1, h2⟩ := lA_le (g := g) (s := s) l a hc' ha
          have h1 := h1 (by omega)
          refine ⟨fun _ => h1, fun f hf hpf hgf => ?_⟩
          rcases List.mem_cons.1 hf with rfl | hf
          · omega
          · exact h2 f hf hpf hgf
    · rw [if_neg hp]
      obtain ⟨h1, h2⟩ := lA_le (g := g) (s := s) l a hc' ha
      refine ⟨h1, fun f hf hpf hgf => ?_⟩
      rcases List.mem_cons.1 hf with rfl | hf
      · exact absurd hpf hp
      · exact h2 f hf hpf hgf
theorem isPre_app (p s : List Int) : isPre p (p ++ s) = true := by unfold isPre; simp
theorem reads_least {L : List S40} (hv : FsV L) : ∀ (r : List Int), okIx L r → (flatR L r).length ≤ 23 → (0 ≤ oW (rdO L (flatR L r)) ∧ oW (rdO L (flatR L r)) ≤ sumW L r) ∧ (0 ≤ oF (rdO L (flatR L r)) ∧ oF (rdO L (flatR L r)) ≤ (r.length : Int))
  | [], _, _ => by simp only [flatR]; rw [rdO_nil]; simp [oW, oF, sumW]
  | i :: r, h, hl => by
    have hi := h i List.mem_cons_self
    have hm := rd_mem hi.1 hi.2
    simp only [flatR] at hl ⊢
    have h1 := hv.one _ hm
    obtain ⟨a, b⟩ := reads_least hv r (fun j hj => h j (List.mem_cons_of_mem _ hj)) (by rw [List.length_append] at hl; omega)
    have hne : (rd_T40 L i).f0 ++ flatR L r ≠ [] := by
      intro e
      have := congrArg List.length e
      rw [List.length_append, List.length_nil] at this; omega
    obtain ⟨e1, e2⟩ := rdO_least hv hl hne
    have ed : ((rd_T40 L i).f0 ++ flatR L r).drop (rd_T40 L i).f0.length = flatR L r := by simp
    rw [e1, e2]
    have l1 := (lA_le (c := fun f => f.f1) (g := fun t => oW (rdO L t)) (s := (rd_T40 L i).f0 ++ flatR L r) L (-1) (fun f hf => by have := hv.wt f hf; show 0 ≤ f.f1; omega) (by omega)).2 _ hm (isPre_app _ _) (by rw [ed]; exact a.1)
    have l2 := (lA_le (c := fun _ => 1) (g := fun t => oF (rdO L t)) (s := (rd_T40 L i).f0 ++ flatR L r) L (-1) (fun f hf => by show (0 : Int) ≤ 1; omega) (by omega)).2 _ hm (isPre_app _ _) (by rw [ed]; exact b.1)
    rw [ed] at l1 l2
    refine ⟨⟨l1.1, ?_⟩, l2.1, ?_⟩
    · have := l1.2; simp only [sumW]; omega
    · have := l2.2; rw [List.length_cons]; omega
theorem oW_nn {o : OutC} : 0 ≤ oW o → o.f0 ≠ 0 := by
  intro h hz
  unfold oW at h
  rw [if_pos hz] at h; omega
theorem reads_many {L : List S40} (hv : FsV L) {r : List Int} (h : okIx L r) (hl : (flatR L r).length ≤ 23) : 1 ≤ (rdO L (flatR L r)).f0 := by
  have h1 := oW_nn (reads_least hv r h hl).1.1
  have h2 := (rdO_bd hv _ (flatR L r) rfl hl).lo
  omega
/-! the best reading is a reading, and its weight the least -/
def selA (x : Int × Int) : Int := if x.1 < 0 then -1 else x.2
def BInv (L : List S40) (s : List Int) (x : Int × Int) : Prop := x.1 < 0 ∨ (0 ≤ x.2 ∧ 0 ≤ x.1 ∧ x.1 < (L.length : Int) ∧ isPre (rd_T40 L x.1).f0 s = true ∧ (rdO L (s.drop (rd_T40 L x.1).f0.length)).f0 ≠ 0 ∧ x.2 = (rd_T40 L x.1).f1 + oW (rdO L (s.drop (rd_T40 L x.1).f0.length)))
theorem bestF_lA {L : List S40} (hv : FsV L) {s : List Int} (hs : s.length ≤ 23) : ∀ (l : List S40) (q : Nat), l = L.drop q → ∀ (b a : Int), BInv L s (b, a) →
    BInv L s (bestF L (rdC (rdO L) s (q : Int) l) (b, a)) ∧ lA (fun f => f.f1) (fun t => oW (rdO L t)) s l (selA (b, a)) = selA (bestF L (rdC (rdO L) s (q : Int) l) (b, a))
  | [], q, _, b, a, h => ⟨h, rfl⟩
  | f :: fs, q, hq, b, a, h => by
    have hlt : q < L.length := by
      rcases Nat.lt_or_ge q L.length with h | h
      · exact h
      · rw [List.drop_eq_nil_of_le h] at hq; cases hq
    have hf : f = rd_T40 L (q : Int) ∧ fs = L.drop (q + 1) := by
      rw [List.drop_eq_getElem_cons hlt] at hq
      refine ⟨?_, (List.cons.inj hq).2⟩
      unfold rd_T40
      rw [Int.toNat_natCast, List.getD_eq_getElem?_getD, List.getElem?_eq_getElem hlt]
      exact (List.cons.inj hq).1
    have e2 : ((q : Int) + 1) = ((q + 1 : Nat) : Int) := by omega
    have hm : rd_T40 L (q : Int) ∈ L := rd_mem (by omega) (by omega)
    have h1 := hv.one _ hm
    have hw := hv.wt _ hm
    simp only [rdC, lA]
    rw [e2]
    by_cases hp : isPre f.f0 s = true
    · have hl := isPre_len hp
      have hbd := rdO_bd hv (s.length - f.f0.length) (s.drop f.f0.length) (by rw [List.length_drop]) (by omega)
      rw [if_pos hp, if_pos hp]
      by_cases hz : (rdO L (s.drop f.f0.length)).f0 = 0
      · have e1 : oW (rdO L (s.drop f.f0.length)) = -1 := if_pos hz
        rw [if_pos hz, if_pos (by rw [e1]; omega)]
        exact bestF_lA hv hs fs (q + 1) hf.2 b a h
      · have e1 : oW (rdO L (s.drop f.f0.length)) = (rdO L (s.drop f.f0.length)).f1 := if_neg hz
        have w0 := hbd.w0 hz
        have w1 := hbd.w1 hz
        rw [if_neg hz, if_neg (by rw [e1]; omega)]
        simp only [bestF]
        rw [hf.1] at hp hz e1 w0 w1 hl ⊢
        have ew : wrap64 ((rd_T40 L (q : Int)).f1 + (rdO L (s.drop (rd_T40 L (q : Int)).f0.length)).f1) = (rd_T40 L (q : Int)).f1 + oW (rdO L (s.drop (rd_T40 L (q : Int)).f0.length)) := by rw [w64 (by omega) (by omega), e1]
        rw [ew]
        have ec : oW (rdO L (s.drop (rd_T40 L (q : Int)).f0.length)) + (rd_T40 L (q : Int)).f1 = (rd_T40 L (q : Int)).f1 + oW (rdO L (s.drop (rd_T40 L (q : Int)).f0.length)) := by omega
        rw [ec]
        generalize hV : (rd_T40 L (q : Int)).f1 + oW (rdO L (s.drop (rd_T40 L (q : Int)).f0.length)) = V
        have hV0 : 0 ≤ V := by omega
        have sq : selA ((q : Int), V) = V := if_neg (by show ¬ (q : Int) < 0; omega)
        have nxt := bestF_lA hv hs fs (q + 1) hf.2 (q : Int) V (.inr ⟨hV0, by show 0 ≤ (q : Int); omega, by show (q : Int) < _; omega, hp, hz, hV.symm⟩)
        rw [sq] at nxt
        by_cases hb : b < 0
        · have sb : selA (b, a) = -1 := if_pos hb
          rw [sb, if_pos (show (-1 : Int) < 0 ∨ V < -1 from .inl (by omega)), if_pos (show b < 0 ∨ V < a from .inl hb)]
          exact nxt
        · have ha : 0 ≤ a := by rcases h with h | h; exact absurd h hb; exact h.1
          have sb : selA (b, a) = a := if_neg hb
          rw [sb]
          by_cases hc : V < a
          · rw [if_pos (show a < 0 ∨ V < a from .inr hc), if_pos (show b < 0 ∨ V < a from .inr hc)]
            exact nxt
          · rw [if_neg (show ¬ (a < 0 ∨ V < a) by omega), if_neg (show ¬ (b < 0 ∨ V < a) by omega)]
            have := bestF_lA hv hs fs (q + 1) hf.2 b a h
            rw [sb] at this
            exact this
    · rw [if_neg hp, if_neg hp]
      exact bestF_lA hv hs fs (q + 1) hf.2 b a h
theorem best_least {L : List S40} (hv : FsV L) {s : List Int} (hs : s.length ≤ 23) (hne : s ≠ []) (hm : (rdO L s).f0 ≠ 0) :
    ∃ b, (bestF L (rdCalls L s) (-1, 0)).1 = b ∧ 0 ≤ b ∧ b < (L.length : Int) ∧ isPre (rd_T40 L b).f0 s = true ∧ (rdO L (s.drop (rd_T40 L b).f0.length)).f0 ≠ 0 ∧ oW (rdO L s) = (rd_T40 L b).f1 + oW (rdO L (s.drop (rd_T40 L b).f0.length)) := by
  have hcl : rdCalls L s = rdC (rdO L) s ((0 : Nat) : Int) L := if_neg hne
  obtain ⟨h1, h2⟩ := bestF_lA hv hs L 0 rfl (-1) 0 (.inl (by show (-1 : Int) < 0; omega))
  rw [← hcl] at h1 h2
  have s0 : selA (-1, 0) = -1 := rfl
  rw [s0, ← (rdO_least hv hs hne).1] at h2
  have h0 : 0 ≤ oW (rdO L s) := by
    have := rdO_bd hv s.length s rfl hs
    unfold oW
    rw [if_neg hm]; exact this.w0 hm
  rcases h1 with h1 | ⟨a1, a2, a3, a4, a5, a6⟩
  · have : selA (bestF L (rdCalls L s) (-1, 0)) = -1 := if_pos h1
    omega
  · have : selA (bestF L (rdCalls L s) (-1, 0)) = (bestF L (rdCalls L s) (-1, 0)).2 := if_neg (by omega)
    rw [this] at h2
    exact ⟨_, rfl, a2, a3, a4, a5, by rw [h2]; exact a6⟩
theorem bestGo_reads {L : List S40} (hv : FsV L) : ∀ (n : Nat) (s : List Int), s.length ≤ n → s.length ≤ 23 → (rdO L s).f0 ≠ 0 → okIx L (bestGo L n s) ∧ flatR L (bestGo L n s) = s ∧ sumW L (bestGo L n s) = oW (rdO L s)
  | 0, s, h, _, _ => by
    obtain rfl : s = [] := List.eq_nil_of_length_eq_zero (by omega)
    simp only [bestGo, flatR, sumW]
    rw [rdO_nil]
    exact ⟨fun i hi => by simp at hi, trivial, by simp [oW]⟩
  | n + 1, s, h, hs, hm => by
    by_cases hne : s = []
    · subst hne
      simp only [bestGo, if_true, flatR, sumW]
      rw [rdO_nil]
      exact ⟨fun i hi => by simp at hi, trivial, by simp [oW]⟩
    · obtain ⟨b, h1, h2, h3, h4, h5, h6⟩ := best_least hv hs hne hm
      have hl := isPre_len h4
      have ho := hv.one _ (rd_mem h2 h3)
      simp only [bestGo]
      rw [if_neg hne, h1]
      obtain ⟨a1, a2, a3⟩ := bestGo_reads hv n (s.drop (rd_T40 L b).f0.length) (by rw [List.length_drop]; omega) (by rw [List.length_drop]; omega) h5
      simp only [flatR, sumW]
      refine ⟨fun i hi => ?_, ?_, ?_⟩
      · rcases List.mem_cons.1 hi with rfl | hi
        · exact ⟨h2, h3⟩
        · exact a1 i hi
      · rw [a2]
        have := isPre_take h4
        conv => rhs; rw [← List.take_append_drop (rd_T40 L b).f0.length s, this]
      · rw [a3, h6]
theorem flat_in {L : List S40} (hv : fsOk L = true) : ∀ (r : List Int), okIx L r → (flatR L r).all (inR (-20) 20) = true
  | [], _ => rfl
  | i :: r, h => by
    have hi := h i List.mem_cons_self
    have hf := fsOk_all hv _ (rd_mem hi.1 hi.2)
    simp only [flatR, List.all_append, Bool.and_eq_true]
    refine ⟨?_, flat_in hv r (fun j hj => h j (List.mem_cons_of_mem _ hj))⟩
    unfold fOk at hf
    simp only [Bool.and_eq_true] at hf
    rw [List.all_eq_true]
    intro x hx
    have := List.all_eq_true.1 hf.2.1 x hx
    unfold inR at this ⊢
    simp at this ⊢
    omega
theorem okR_flat {L : List S40} {r : List Int} (hv : fsOk L = true) (h : okIx L r) (hl : (flatR L r).length ≤ 23) : okR L (flatR L r) = true := by
  unfold okR
  rw [hv, flat_in hv r h, decide_eq_true hl]; rfl
theorem bestGo_len (L : List S40) : ∀ (n : Nat) (s : List Int), (bestGo L n s).length ≤ n
  | 0, s => Nat.le_refl _
  | n + 1, s => by
    simp only [bestGo]
    split
    · simp
    · rw [List.length_cons]
      have := bestGo_len L n (s.drop (rd_T40 L (bestF L (rdCalls L s) (-1, 0)).1).f0.length)
      omega

end Go.Proofs.Ytohnkicfnfejnaa.Pure
