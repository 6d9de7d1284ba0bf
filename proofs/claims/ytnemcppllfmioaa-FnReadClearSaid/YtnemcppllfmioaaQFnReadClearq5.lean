/- Lemmas on the printed functions for the law FnReadClear. -/
import Derived.Test.YtnemcppllfmioaaGFnReadClearg14
import Derived.Test.YtnemcppllfmioaaGFnReadClearg15
import Derived.Test.YtnemcppllfmioaaQFnReadClearq0
import Derived.Test.YtnemcppllfmioaaQFnReadClearq1
import Derived.Test.YtnemcppllfmioaaQFnReadClearq2
import Derived.Deep.RegionHeld3
import Derived.BigRegion
import Derived.Deep.Slices
import Derived.Laws.CopyOwn
namespace Go.Proofs.Ytnemcppllfmioaa.Pure
set_option linter.unusedVariables false
set_option linter.unusedSimpArgs false
open Go Go.RowKit Go.Proofs.Ytnemcppllfmioaa.PFnReadClear Go.Proofs.YtnemcppllfmioaaW.PrintWords Go.Proofs.YtnemcppllfmioaaW.PrintLast Go.Proofs.YtnemcppllfmioaaW.PrintMore

/-! how much a reader finds at most -/
theorem goF_pw : ∀ {l acc : List S55}, goF acc l = true → (∀ a ∈ acc, ∀ b ∈ l, a.f0 ≠ b.f0) ∧ l.Pairwise (fun a b => a.f0 ≠ b.f0)
  | [], acc, _ => ⟨by simp, List.Pairwise.nil⟩
  | x :: xs, acc, h => by
    simp only [goF, Bool.and_eq_true, Bool.not_eq_true', List.any_eq_false, beq_iff_eq] at h
    obtain ⟨_, h1, h2⟩ := h
    obtain ⟨h3, h4⟩ := goF_pw h2
    refine ⟨fun a ha b hb => ?_, List.pairwise_cons.2 ⟨fun b hb => h3 x (by simp) b hb, h4⟩⟩
    rcases List.mem_cons.1 hb with rfl | hb
    · exact h1 a ha
    · exact h3 a (List.mem_append_left _ ha) b hb
def sumB (s : List Int) : List S55 → Nat
  | [] => 0
  | f :: fs => (if isPre f.f0 s = true then 2 ^ (s.length - f.f0.length) else 0) + sumB s fs
theorem sum_pow : ∀ (n : Nat) (ks : List Nat), ks.Nodup → (∀ k ∈ ks, 1 ≤ k ∧ k ≤ n) → (ks.map (fun k => 2 ^ (n - k))).sum + 1 ≤ 2 ^ n
  | 0, ks, _, h => by
    cases ks with
    | nil => simp
    | cons k ks => have := h k (by simp); omega
  | n + 1, ks, hn, h => by
    have key : ∀ l : List Nat, (∀ k ∈ l, k ≤ n) → (l.map (fun k => 2 ^ (n + 1 - k))).sum = 2 * (l.map (fun k => 2 ^ (n - k))).sum := by
      intro l
      induction l with
      | nil => intro _; rfl
      | cons k l ih =>
        intro hl
        have h1 := hl k (by simp)
        have e : n + 1 - k = (n - k) + 1 := by omega
        simp only [List.map_cons, List.sum_cons]
        rw [ih (fun k hk => hl k (by simp [hk])), e, Nat.pow_succ]; omega
    by_cases hm : n + 1 ∈ ks
    · have hp := List.perm_cons_erase hm
      have h1 := sum_pow n (ks.erase (n + 1)) (hn.erase _) (fun k hk => by
        have h2 := h k (List.mem_of_mem_erase hk)
        have : k ≠ n + 1 := fun e => by subst e; exact (List.Nodup.not_mem_erase hn) hk
        omega)
      have h2 := (hp.map (fun k => 2 ^ (n + 1 - k))).sum_nat
      rw [h2, List.map_cons, List.sum_cons, key _ (fun k hk => by
        have h2 := h k (List.mem_of_mem_erase hk)
        have : k ≠ n + 1 := fun e => by subst e; exact (List.Nodup.not_mem_erase hn) hk
        omega), Nat.sub_self, Nat.pow_succ]
      omega
    · rw [key _ (fun k hk => by have := h k hk; have : k ≠ n + 1 := fun e => hm (e ▸ hk); omega)]
      have h1 := sum_pow n ks hn (fun k hk => by have := h k hk; have : k ≠ n + 1 := fun e => hm (e ▸ hk); omega)
      rw [Nat.pow_succ]; omega
theorem isPre_take {p s : List Int} (h : isPre p s = true) : s.take p.length = p := by
  unfold isPre at h; simp at h; exact h.2
theorem sumB_eq (s : List Int) : ∀ L : List S55, sumB s L = (((L.filter (fun f => isPre f.f0 s)).map (fun f => f.f0.length)).map (fun k => 2 ^ (s.length - k))).sum
  | [] => rfl
  | f :: fs => by
    simp only [sumB]
    rw [sumB_eq s fs, List.filter_cons]
    cases isPre f.f0 s <;> simp
theorem sumB_le {s : List Int} {L : List S55} (hL : ∀ f ∈ L, 1 ≤ f.f0.length) (hp : L.Pairwise (fun a b => a.f0 ≠ b.f0)) : sumB s L ≤ 2 ^ s.length := by
  rw [sumB_eq]
  have h1 : ((L.filter (fun f => isPre f.f0 s)).map (fun f => f.f0.length)).Nodup := by
    rw [List.nodup_iff_pairwise_ne, List.pairwise_map]
    have h2 := hp.filter (fun f => isPre f.f0 s)
    refine List.Pairwise.imp_of_mem (fun {a b} ha hb h => ?_) h2
    intro e
    have h3 := isPre_take (List.mem_filter.1 ha).2
    have h4 := isPre_take (List.mem_filter.1 hb).2
    rw [e] at h3
    exact h (h3.symm.trans h4)
  have := sum_pow s.length _ h1 (fun k hk => by
    obtain ⟨f, hf, rfl⟩ := List.mem_map.1 hk
    obtain ⟨hf1, hf2⟩ := List.mem_filter.1 hf
    exact ⟨hL f hf1, isPre_len hf2⟩)
  omega
/-- A least sum, -1 for none. -/
def lA (c : S55 → Int) (g : List Int → Int) (s : List Int) : List S55 → Int → Int
  | [], a => a
  | f :: fs, a => if isPre f.f0 s = true then (if g (s.drop f.f0.length) < 0 then lA c g s fs a else lA c g s fs (if a < 0 ∨ g (s.drop f.f0.length) + c f < a then g (s.drop f.f0.length) + c f else a)) else lA c g s fs a
def oW (o : OutC) : Int := if o.f0 = 0 then -1 else o.f1
def oF (o : OutC) : Int := if o.f0 = 0 then -1 else o.f2
structure OBd (n : Nat) (o : OutC) : Prop where
  lo : 0 ≤ o.f0
  hi : o.f0 ≤ ((2 ^ n : Nat) : Int)
  w0 : o.f0 ≠ 0 → 0 ≤ o.f1
  w1 : o.f0 ≠ 0 → o.f1 ≤ 9 * (n : Int)
  f0 : o.f0 ≠ 0 → 0 ≤ o.f2
  f1 : o.f0 ≠ 0 → o.f2 ≤ (n : Int)
theorem OBd.oW {n : Nat} {o : OutC} (h : OBd n o) : -1 ≤ Pure.oW o ∧ Pure.oW o ≤ 9 * (n : Int) := by
  unfold Pure.oW
  by_cases hz : o.f0 = 0
  · rw [if_pos hz]; omega
  · rw [if_neg hz]; have := h.w0 hz; have := h.w1 hz; omega
theorem OBd.oF {n : Nat} {o : OutC} (h : OBd n o) : -1 ≤ Pure.oF o ∧ Pure.oF o ≤ (n : Int) := by
  unfold Pure.oF
  by_cases hz : o.f0 = 0
  · rw [if_pos hz]; omega
  · rw [if_neg hz]; have := h.f0 hz; have := h.f1 hz; omega
theorem outW_plain {n m : Nat} {o r : OutC} {f : S55} (hn : n ≤ 23) (hm : m + f.f0.length ≤ n) (hf : 1 ≤ f.f0.length) (hw : 1 ≤ f.f1 ∧ f.f1 ≤ 9) (h1 : OBd n o) (h2 : OBd m r) (hr : r.f0 ≠ 0) (hs : o.f0 + r.f0 ≤ ((2 ^ n : Nat) : Int)) :
    OBd n (outW o f r) ∧ (outW o f r).f0 = o.f0 + r.f0 ∧ oW (outW o f r) = (if oW o < 0 ∨ oW r + f.f1 < oW o then oW r + f.f1 else oW o) ∧ oF (outW o f r) = (if oF o < 0 ∨ oF r + 1 < oF o then oF r + 1 else oF o) := by
  have hp : (2 : Nat) ^ n ≤ 2 ^ 23 := Nat.pow_le_pow_right (by omega) hn
  have hp' : (2 : Nat) ^ 23 = 8388608 := rfl
  obtain ⟨a1, a2, a3, a4, a5, a6⟩ := h1
  obtain ⟨b1, b2, b3, b4, b5, b6⟩ := h2
  have b3 := b3 hr; have b4 := b4 hr; have b5 := b5 hr; have b6 := b6 hr
  have hne : o.f0 + r.f0 ≠ 0 := by omega
  unfold outW
  by_cases h : o.f0 > 0
  · have hz : o.f0 ≠ 0 := by omega
    have a3 := a3 hz; have a4 := a4 hz; have a5 := a5 hz; have a6 := a6 hz
    rw [if_pos h, w64 (x := o.f0 + r.f0) (by omega) (by omega), w64 (x := f.f1 + r.f1) (by omega) (by omega), w64 (x := 1 + r.f2) (by omega) (by omega)]
    have m1 := mn_le (f.f1 + r.f1) o.f1
    have m2 := mn_le (1 + r.f2) o.f2
    refine ⟨⟨by simp only []; omega, hs, fun _ => by simp only []; omega, fun _ => by simp only []; omega, fun _ => by simp only []; omega, fun _ => by simp only []; omega⟩, rfl, ?_, ?_⟩
    · unfold oW
      simp only []
      rw [if_neg hne, if_neg hz, if_neg hr]
      by_cases hc : r.f1 + f.f1 < o.f1
      · rw [if_pos (.inr hc)]; omega
      · rw [if_neg (by omega)]; omega
    · unfold oF
      simp only []
      rw [if_neg hne, if_neg hz, if_neg hr]
      by_cases hc : r.f2 + 1 < o.f2
      · rw [if_pos (.inr hc)]; omega
      · rw [if_neg (by omega)]; omega
  · have hz : o.f0 = 0 := by omega
    rw [if_neg h, w64 (x := o.f0 + r.f0) (by omega) (by omega), w64 (x := f.f1 + r.f1) (by omega) (by omega), w64 (x := 1 + r.f2) (by omega) (by omega)]
    refine ⟨⟨by simp only []; omega, hs, fun _ => by simp only []; omega, fun _ => by simp only []; omega, fun _ => by simp only []; omega, fun _ => by simp only []; omega⟩, rfl, ?_, ?_⟩
    · unfold oW
      simp only []
      rw [if_neg hne, if_pos hz, if_neg hr, if_pos (.inl (by omega))]; omega
    · unfold oF
      simp only []
      rw [if_neg hne, if_pos hz, if_neg hr, if_pos (.inl (by omega))]; omega
theorem rdA_plain {rec : List Int → OutC} {s : List Int} (hs : s.length ≤ 23) (hrec : ∀ k, 1 ≤ k → k ≤ s.length → OBd (s.length - k) (rec (s.drop k))) :
    ∀ (L : List S55) (acc : OutC), (∀ f ∈ L, 1 ≤ f.f0.length ∧ 1 ≤ f.f1 ∧ f.f1 ≤ 9) → OBd s.length acc → acc.f0 + (sumB s L : Int) ≤ ((2 ^ s.length : Nat) : Int) →
      OBd s.length (rdA rec s L acc) ∧ oW (rdA rec s L acc) = lA (fun f => f.f1) (fun t => oW (rec t)) s L (oW acc) ∧ oF (rdA rec s L acc) = lA (fun _ => 1) (fun t => oF (rec t)) s L (oF acc)
  | [], acc, _, h, _ => ⟨h, rfl, rfl⟩
  | f :: fs, acc, hL, h, hb => by
    have hf := hL f (by simp)
    have hL' := fun g hg => hL g (List.mem_cons_of_mem _ hg)
    simp only [rdA, lA, sumB] at hb ⊢
    by_cases hp : isPre f.f0 s = true
    · rw [if_pos hp] at hb
      rw [if_pos hp, if_pos hp, if_pos hp]
      have hl := isPre_len hp
      have hr := hrec f.f0.length hf.1 hl
      generalize rec (s.drop f.f0.length) = r at hr ⊢
      rw [Int.natCast_add] at hb
      have hbr := hr.hi
      by_cases hz : r.f0 = 0
      · have e1 : oW r = -1 := if_pos hz
        have e2 : oF r = -1 := if_pos hz
        rw [if_pos hz, if_pos (by rw [e1]; omega), if_pos (by rw [e2]; omega)]
        have := hr.lo
        exact rdA_plain hs hrec fs acc hL' h (by omega)
      · have e1 : ¬ oW r < 0 := by unfold oW; rw [if_neg hz]; have := hr.w0 hz; omega
        have e2 : ¬ oF r < 0 := by unfold oF; rw [if_neg hz]; have := hr.f0 hz; omega
        rw [if_neg hz, if_neg e1, if_neg e2]
        obtain ⟨o1, o2, o3, o4⟩ := outW_plain (n := s.length) (m := s.length - f.f0.length) (o := acc) (r := r) (f := f) hs (by omega) hf.1 hf.2 h hr hz (by omega)
        rw [← o3, ← o4]
        exact rdA_plain hs hrec fs (outW acc f r) hL' o1 (by rw [o2]; omega)
    · rw [if_neg hp] at hb
      rw [if_neg hp, if_neg hp, if_neg hp]
      exact rdA_plain hs hrec fs acc hL' h (by omega)
/-- What valid formulas are good for. -/
structure FsV (L : List S55) : Prop where
  len : L.length ≤ 8
  one : ∀ f ∈ L, 1 ≤ f.f0.length ∧ f.f0.length ≤ 5
  wt : ∀ f ∈ L, 1 ≤ f.f1 ∧ f.f1 ≤ 9
  pw : L.Pairwise (fun a b => a.f0 ≠ b.f0)
theorem FsV.of {L : List S55} (h : fsOk L = true) : FsV L :=
  ⟨fsOk_len h, fun f hf => fOk_len (fsOk_all h f hf), fun f hf => fOk_weight (fsOk_all h f hf), (goF_pw (acc := []) (by unfold fsOk at h; simp at h; exact h.2)).2⟩
theorem rdO_bd {L : List S55} (hv : FsV L) : ∀ (n : Nat) (s : List Int), s.length = n → n ≤ 23 → OBd n (rdO L s) := by
  intro n
  induction n using Nat.strongRecOn with
  | ind n ih =>
    intro s hs hn
    by_cases hne : s = []
    · subst hne
      simp at hs
      subst hs
      rw [rdO_nil]
      exact ⟨by simp, by simp, by simp, by simp, by simp, by simp⟩
    · rw [rdO_step (fun f hf => (hv.one f hf).1) hne]
      subst hs
      refine (rdA_plain hn (fun k hk hk' => ih (s.length - k) (by omega) _ (by rw [List.length_drop]) (by omega)) L ⟨0, 0, 0⟩ (fun f hf => ⟨(hv.one f hf).1, hv.wt f hf⟩) ⟨by simp, Int.natCast_nonneg _, by simp, by simp, by simp, by simp⟩ ?_).1
      have := sumB_le (s := s) (fun f hf => (hv.one f hf).1) hv.pw
      simp only [Int.zero_add]
      exact_mod_cast this
theorem rdO_least {L : List S55} (hv : FsV L) {s : List Int} (hs : s.length ≤ 23) (hne : s ≠ []) :
    oW (rdO L s) = lA (fun f => f.f1) (fun t => oW (rdO L t)) s L (-1) ∧ oF (rdO L s) = lA (fun _ => 1) (fun t => oF (rdO L t)) s L (-1) := by
  have h := rdA_plain (rec := rdO L) (s := s) hs (fun k hk hk' => rdO_bd hv (s.length - k) _ (by rw [List.length_drop]) (by omega)) L ⟨0, 0, 0⟩ (fun f hf => ⟨(hv.one f hf).1, hv.wt f hf⟩) ⟨by simp, Int.natCast_nonneg _, by simp, by simp, by simp, by simp⟩ (by
    have := sumB_le (s := s) (fun f hf => (hv.one f hf).1) hv.pw
    simp only [Int.zero_add]
    exact_mod_cast this)
  rw [rdO_step (fun f hf => (hv.one f hf).1) hne]
  exact ⟨h.2.1, h.2.2⟩

/-! what a reading builds -/
def goB (l : List S55) : List Int → List Int → List Int × Bool
  | acc, [] => (acc, true)
  | acc, i :: is => if i < 0 ∨ (l.length : Int) ≤ i ∨ acc.length + (rd_T55 l i).f0.length > 23 then ([], false) else goB l (acc ++ (rd_T55 l i).f0) is
def fbuild (l : List S55) (r : List Int) : List Int × Bool := if fsOk l = true then goB l [] r else ([], false)
theorem goB_len (l : List S55) : ∀ r acc, acc.length ≤ 23 → (goB l acc r).1.length ≤ 23
  | [], acc, h => h
  | i :: is, acc, h => by
    simp only [goB]
    split
    · simp
    · exact goB_len l is _ (by rw [List.length_append]; omega)
theorem fbuild_len (l : List S55) (r : List Int) : (fbuild l r).1.length ≤ 23 := by
  unfold fbuild
  split
  · exact goB_len l r [] (by simp)
  · simp
theorem impl_FormulasBuild_ev (l : List S55) (r : List Int) (hl : ∀ x ∈ l, x.f0.length ≤ 1000000000000) (hr : r.length ≤ 1000000000000) : Ev (fun k => impl_FormulasBuild.f k l r) (fbuild l r) := by
  unfold impl_FormulasBuild.f fbuild
  refine Ev.bind (impl_FormulasValid_ev l hl) ?_
  cases hok : fsOk l
  · exact Ev.neg (by simp) (Ev.eqr (Ev.now _) (by simp))
  refine Ev.pos rfl ?_
  rw [if_pos rfl]
  have h8 := fsOk_len hok
  have := Ev.over (0 : Int) r (fun k (s : List Int) i => impl_FormulasBuild.l0 k l s r r.length i) (fun s rest => goB l s rest) (fun i s => s.length ≤ 23) (by
    intro s _
    refine Ev.succ ?_
    simp only [impl_FormulasBuild.l0, goB]
    exact Ev.neg (by omega) (Ev.now _)) (by
    intro s i rest hs hi _ ih
    refine Ev.succ ?_
    simp only [impl_FormulasBuild.l0, goB]
    refine Ev.pos (by omega) (Ev.pos (by omega) (Ev.pos (by omega) ?_))
    have hrd : rd r (i : Int) = r.getD i 0 := rfl
    rw [hrd]
    generalize r.getD i 0 = n
    by_cases h1 : n < 0
    · rw [if_pos (Or.inl h1)]
      exact Ev.pos h1 (Ev.now _)
    · refine Ev.neg h1 ?_
      by_cases h2 : n ≥ (l.length : Int)
      · rw [if_pos (Or.inr (Or.inl h2))]
        exact Ev.pos h2 (Ev.now _)
      · refine Ev.neg h2 (Ev.pos (by omega) (Ev.pos (by omega) ?_))
        have hw := fOk_len (fsOk_all hok _ (rd_mem (k := n) (by omega) (by omega)))
        rw [w64 (by omega) (by omega)]
        by_cases h3 : (s.length : Int) + ((rd_T55 l n).f0.length : Int) > 23
        · rw [if_pos (Or.inr (Or.inr (by omega)))]
          exact Ev.pos h3 (Ev.now _)
        · rw [if_neg (by omega)]
          refine Ev.neg h3 (Ev.pos (by omega) ?_)
          rw [w64 (by omega) (by omega)]
          exact ih _ (by rw [List.length_append]; omega)) 0 [] (Nat.zero_le _) (by simp)
  simpa using this

/-! clear formulas: how two readings meet, and what the program finds -/
def meetsF (rec : List Int → Int → Bool) (most : Int) (a : List Int) (len : Int) (f : S55) : Bool :=
  (f.f0 == a) || (if isPre f.f0 a = true then rec (a.drop f.f0.length) len else (isPre a f.f0 && (decide (len + (f.f0.length : Int) - (a.length : Int) ≤ most) && rec (f.f0.drop a.length) (len + (f.f0.length : Int) - (a.length : Int)))))
def meetsP (L : List S55) (most : Int) : Nat → List Int → Int → Bool
  | 0, _, _ => false
  | n + 1, a, len => L.any (meetsF (meetsP L most n) most a len)
theorem isPre_lt {p s : List Int} (h : isPre p s = true) (hne : p ≠ s) : p.length < s.length := by
  have h1 := isPre_len h
  rcases Nat.lt_or_eq_of_le h1 with h2 | h2
  · exact h2
  · have := isPre_take h
    rw [h2, List.take_length] at this
    exact absurd this.symm hne
theorem impl_meets_ev {L : List S55} (hv : FsV L) (most : Int) (hmost : most ≤ 5) : ∀ (n : Nat) (a : List Int) (len : Int), 1 ≤ a.length → a.length ≤ 5 → 0 ≤ len → len ≤ most → (most - len) * 6 + (a.length : Int) < n → Ev (fun k => impl_meets.f k L a len most) (meetsP L most n a len)
  | 0, a, len, h1, h2, h3, h4, h5 => absurd h5 (by omega)
  | n + 1, a, len, h1, h2, h3, h4, h5 => by
    have hll := hv.len
    refine Ev.succ ?_
    simp only [impl_meets.f, meetsP]
    have := Ev.over z55 L (fun k (_ : Unit) q => impl_meets.l0 k L a len most L (L.length : Int) q) (fun _ rest => rest.any (meetsF (meetsP L most n) most a len)) (fun _ _ => True) (by
      intro _ _
      refine Ev.succ ?_
      simp only [impl_meets.l0]
      exact Ev.neg (by omega) (Ev.now _)) (by
      intro _ q rest _ hq hdr ih
      have ih := ih () trivial
      have hm : rd_T55 L (q : Int) ∈ L := rd_mem (by omega) (by omega)
      have hf := hv.one _ hm
      have hrd : L.getD q z55 = rd_T55 L (q : Int) := rfl
      rw [hrd, List.any_cons]
      refine Ev.succ ?_
      simp only [impl_meets.l0]
      rw [w64 (x := (q : Int) + 1) (by omega) (by omega)]
      generalize rd_T55 L (q : Int) = f at hf hm
      refine Ev.pos (by omega) (Ev.pos (by omega) (Ev.pos (by omega) (Ev.bind (impl_equalNumbers_ev _ _ (by omega)) ?_)))
      cases he : (f.f0 == a)
      · have hne : f.f0 ≠ a := by simpa using he
        refine Ev.neg (by simp) (Ev.bind (impl_begins_ev _ _ (by omega)) ?_)
        cases hp : isPre f.f0 a
        · refine Ev.neg (by simp) (Ev.bind (impl_begins_ev _ _ (by omega)) ?_)
          have j1f : isPre a f.f0 = false ∨ ¬ len + (f.f0.length : Int) - (a.length : Int) ≤ most → Ev (fun k => impl_meets.j1 k L a len most (f.f0.length : Int) L (L.length : Int) (q : Int) false f.f0 f.f1) (meetsF (meetsP L most n) most a len f || rest.any (meetsF (meetsP L most n) most a len)) := by
            intro hor
            refine Ev.succ ?_
            simp only [impl_meets.j1]
            rw [w64 (x := (q : Int) + 1) (by omega) (by omega)]
            refine Ev.neg (by simp) (Ev.eqr ih ?_)
            unfold meetsF
            rw [he, hp]
            rcases hor with h | h
            · rw [h]; simp
            · rw [decide_eq_false h]; simp
          cases hq' : isPre a f.f0
          · exact Ev.neg (by simp) (j1f (.inl hq'))
          · refine Ev.pos rfl ?_
            rw [w64 (x := len + (f.f0.length : Int)) (by omega) (by omega), w64 (x := len + (f.f0.length : Int) - (a.length : Int)) (by omega) (by omega)]
            by_cases hc : len + (f.f0.length : Int) - (a.length : Int) ≤ most
            · rw [decide_eq_true hc]
              have hlt := isPre_lt hq' (fun h => hne h.symm)
              refine Ev.succ ?_
              simp only [impl_meets.j1]
              rw [w64 (x := (q : Int) + 1) (by omega) (by omega), w64 (x := len + (f.f0.length : Int)) (by omega) (by omega), w64 (x := len + (f.f0.length : Int) - (a.length : Int)) (by omega) (by omega)]
              refine Ev.pos trivial (Ev.pos (by omega) (Ev.pos (by omega) ?_))
              rw [Int.toNat_natCast]
              refine Ev.bind (impl_meets_ev hv most hmost n (f.f0.drop a.length) (len + (f.f0.length : Int) - (a.length : Int)) (by rw [List.length_drop]; omega) (by rw [List.length_drop]; omega) (by omega) hc (by rw [List.length_drop]; omega)) ?_
              cases hr : meetsP L most n (f.f0.drop a.length) (len + (f.f0.length : Int) - (a.length : Int))
              · refine Ev.neg (by simp) (Ev.eqr ih ?_)
                unfold meetsF
                rw [he, hp, hq', hr]; simp
              · refine Ev.pos rfl (Ev.eqr (Ev.now _) ?_)
                unfold meetsF
                rw [he, hp, hq', hr, decide_eq_true hc]; simp
            · rw [decide_eq_false hc]
              exact j1f (.inr hc)
        · have hlt := isPre_lt hp hne
          refine Ev.pos rfl (Ev.pos (by omega) (Ev.pos (by omega) ?_))
          rw [Int.toNat_natCast]
          refine Ev.bind (impl_meets_ev hv most hmost n (a.drop f.f0.length) len (by rw [List.length_drop]; omega) (by rw [List.length_drop]; omega) h3 h4 (by rw [List.length_drop]; omega)) ?_
          cases hr : meetsP L most n (a.drop f.f0.length) len
          · refine Ev.neg (by simp) (Ev.eqr ih ?_)
            unfold meetsF
            rw [he, hp, hr]; simp
          · refine Ev.pos rfl (Ev.eqr (Ev.now _) ?_)
            unfold meetsF
            rw [he, hp, hr]; simp
      · refine Ev.pos rfl (Ev.eqr (Ev.now _) ?_)
        unfold meetsF
        rw [he]; simp) 0 () (Nat.zero_le _) trivial
    simpa using this

def hitOne (L : List S55) (n : Int) (i : Nat) (f : S55) (k : Nat) (g : S55) : Bool := !(decide (i = k)) && (decide ((g.f0.length : Int) ≤ n) && (isPre f.f0 g.f0 && meetsP L n 40 (g.f0.drop f.f0.length) (g.f0.length : Int)))
def hitRow (L : List S55) (n : Int) (i : Nat) (f : S55) : Nat → List S55 → Bool
  | _, [] => false
  | k, g :: gs => hitOne L n i f k g || hitRow L n i f (k + 1) gs
def hitAll (L : List S55) (n : Int) : Nat → List S55 → Bool
  | _, [] => false
  | i, f :: fs => hitRow L n i f 0 L || hitAll L n (i + 1) fs
def clearI (L : List S55) (n : Int) : Bool := fsOk L && (decide (0 ≤ n ∧ n ≤ 5) && !(hitAll L n 0 L))
theorem pw_ne {L : List S55} (hv : FsV L) {i q : Nat} (hi : i < L.length) (hq : q < L.length) (h : i ≠ q) : (rd_T55 L (i : Int)).f0 ≠ (rd_T55 L (q : Int)).f0 := by
  have e : ∀ j (hj : j < L.length), rd_T55 L (j : Int) = L[j] := by
    intro j hj
    unfold rd_T55
    rw [Int.toNat_natCast, List.getD_eq_getElem?_getD, List.getElem?_eq_getElem hj]; rfl
  rw [e i hi, e q hq]
  have hp := List.pairwise_iff_getElem.1 hv.pw
  rcases Nat.lt_or_gt_of_ne h with h | h
  · exact hp i q hi hq h
  · exact fun e => hp q i hq hi h e.symm
theorem drop_rd (L : List S55) {q : Nat} (hq : q < L.length) : L.drop q = rd_T55 L (q : Int) :: L.drop (q + 1) := by
  rw [List.drop_eq_getElem_cons hq]
  unfold rd_T55
  rw [Int.toNat_natCast, List.getD_eq_getElem?_getD, List.getElem?_eq_getElem hq]; rfl
theorem clear_row {L : List S55} (hv : FsV L) {n : Int} (hn0 : 0 ≤ n) (hn : n ≤ 5) {i : Nat} (hi : i < L.length) {R : Bool}
    (nxt : Ev (fun k => impl_FormulasClear.l0 k L n L (L.length : Int) ((i : Int) + 1)) R) :
    ∀ (d q : Nat), q + d = L.length → Ev (fun k => impl_FormulasClear.l1 k L n (i : Int) L (L.length : Int) (i : Int) L (L.length : Int) (q : Int) (rd_T55 L (i : Int)).f0 (rd_T55 L (i : Int)).f1) (!(hitRow L n i (rd_T55 L (i : Int)) q (L.drop q)) && R)
  | 0, q, e => by
    have hll := hv.len
    refine Ev.succ ?_
    simp only [impl_FormulasClear.l1]
    rw [List.drop_eq_nil_of_le (by omega), w64 (x := (i : Int) + 1) (by omega) (by omega)]
    exact Ev.neg (by omega) (Ev.eqr nxt (by simp [hitRow]))
  | d + 1, q, e => by
    have hll := hv.len
    have hq : q < L.length := by omega
    have ih := clear_row hv hn0 hn hi nxt d (q + 1) (by omega)
    have e4 : ((q + 1 : Nat) : Int) = (q : Int) + 1 := by omega
    rw [e4] at ih
    rw [drop_rd L hq]
    simp only [hitRow]
    have hf := hv.one _ (rd_mem (l := L) (k := (i : Int)) (by omega) (by omega))
    have hg := hv.one _ (rd_mem (l := L) (k := (q : Int)) (by omega) (by omega))
    have hne := pw_ne hv hi hq
    refine Ev.succ ?_
    simp only [impl_FormulasClear.l1]
    generalize rd_T55 L (i : Int) = f at hf hne ih ⊢
    generalize rd_T55 L (q : Int) = g at hg hne ⊢
    refine Ev.pos (by omega) (Ev.pos (by omega) (Ev.pos (by omega) ?_))
    have skip : hitOne L n i f q g = false → Ev (fun k => impl_FormulasClear.j3 k L n (i : Int) L (L.length : Int) (i : Int) L (L.length : Int) (q : Int) true f.f0 f.f1 g.f0 g.f1) (!(hitOne L n i f q g || hitRow L n i f (q + 1) (L.drop (q + 1))) && R) := by
      intro h
      rw [h, Bool.false_or]
      refine Ev.succ ?_
      simp only [impl_FormulasClear.j3]
      rw [w64 (x := (q : Int) + 1) (by omega) (by omega)]
      exact Ev.pos trivial ih
    by_cases hiq : i = q
    · exact Ev.pos (by omega) (skip (by unfold hitOne; rw [decide_eq_true hiq]; simp))
    refine Ev.neg (by omega) ?_
    by_cases hgn : (g.f0.length : Int) > n
    · exact Ev.pos hgn (skip (by unfold hitOne; rw [decide_eq_false (show ¬ (g.f0.length : Int) ≤ n by omega)]; simp))
    refine Ev.neg hgn (Ev.bind (impl_begins_ev _ _ (by omega)) ?_)
    cases hp : isPre f.f0 g.f0
    · exact skip (by unfold hitOne; rw [hp]; simp)
    have hlt := isPre_lt hp (hne hiq)
    refine Ev.succ ?_
    simp only [impl_FormulasClear.j3]
    refine Ev.neg (by simp) (Ev.pos (by omega) (Ev.pos (by omega) ?_))
    rw [Int.toNat_natCast, w64 (x := (q : Int) + 1) (by omega) (by omega)]
    refine Ev.bind (impl_meets_ev hv n hn 40 (g.f0.drop f.f0.length) (g.f0.length : Int) (by rw [List.length_drop]; omega) (by rw [List.length_drop]; omega) (by omega) (by omega) (by rw [List.length_drop]; omega)) ?_
    have hone : hitOne L n i f q g = meetsP L n 40 (g.f0.drop f.f0.length) (g.f0.length : Int) := by
      unfold hitOne
      rw [decide_eq_false hiq, decide_eq_true (show (g.f0.length : Int) ≤ n by omega), hp]; simp
    rw [hone]
    cases hr : meetsP L n 40 (g.f0.drop f.f0.length) (g.f0.length : Int)
    · rw [Bool.false_or]
      exact Ev.neg (by simp) ih
    · exact Ev.pos rfl (Ev.eqr (Ev.now _) (by simp))
theorem clear_all {L : List S55} (hv : FsV L) {n : Int} (hn0 : 0 ≤ n) (hn : n ≤ 5) :
    ∀ (d i : Nat), i + d = L.length → Ev (fun k => impl_FormulasClear.l0 k L n L (L.length : Int) (i : Int)) (!(hitAll L n i (L.drop i)))
  | 0, i, e => by
    refine Ev.succ ?_
    simp only [impl_FormulasClear.l0]
    rw [List.drop_eq_nil_of_le (by omega)]
    exact Ev.neg (by omega) (Ev.eqr (Ev.now _) (by simp [hitAll]))
  | d + 1, i, e => by
    have hi : i < L.length := by omega
    have ih := clear_all hv hn0 hn d (i + 1) (by omega)
    have e4 : ((i + 1 : Nat) : Int) = (i : Int) + 1 := by omega
    rw [e4] at ih
    rw [drop_rd L hi]
    simp only [hitAll]
    refine Ev.succ ?_
    simp only [impl_FormulasClear.l0]
    refine Ev.pos (by omega) (Ev.pos (by omega) (Ev.pos (by omega) ?_))
    have := clear_row hv hn0 hn hi ih L.length 0 (by omega)
    rw [List.drop_zero] at this
    refine Ev.eqr this ?_
    cases hitRow L n i (rd_T55 L (i : Int)) 0 L <;> simp
theorem impl_FormulasClear_ev (L : List S55) (n : Int) (hl : ∀ x ∈ L, x.f0.length ≤ 1000000000000) : Ev (fun k => impl_FormulasClear.f k L n) (clearI L n) := by
  unfold impl_FormulasClear.f clearI
  refine Ev.bind (impl_FormulasValid_ev L hl) ?_
  have no : Ev (fun k => impl_FormulasClear.j0 k L n true) false := by
    refine Ev.succ ?_
    simp only [impl_FormulasClear.j0]
    exact Ev.pos trivial (Ev.now _)
  cases hok : fsOk L
  · exact Ev.neg (by simp) (Ev.eqr no (by simp))
  refine Ev.pos rfl ?_
  by_cases h0 : n < 0
  · refine Ev.pos h0 (Ev.eqr no ?_)
    rw [decide_eq_false (by omega)]; simp
  refine Ev.neg h0 ?_
  by_cases h1 : n > 5
  · rw [decide_eq_true h1]
    refine Ev.eqr no ?_
    rw [decide_eq_false (by omega)]; simp
  rw [decide_eq_false h1]
  refine Ev.succ ?_
  simp only [impl_FormulasClear.j0]
  have := clear_all (n := n) (FsV.of hok) (by omega) (by omega) L.length 0 (by omega)
  rw [List.drop_zero] at this
  refine Ev.neg (by simp) (Ev.eqr this ?_)
  rw [decide_eq_true (by omega)]; simp

end Go.Proofs.Ytnemcppllfmioaa.Pure
