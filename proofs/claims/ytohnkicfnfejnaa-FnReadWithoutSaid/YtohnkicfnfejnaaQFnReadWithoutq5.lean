/- Lemmas on the printed functions for the law FnReadWithout. -/
import Derived.Test.YtohnkicfnfejnaaQFnReadWithoutq0
import Derived.Test.YtohnkicfnfejnaaQFnReadWithoutq1
import Derived.Test.YtohnkicfnfejnaaQFnReadWithoutq2
import Derived.Deep.RegionHeld3
import Derived.BigRegion
import Derived.Deep.Slices
import Derived.Laws.CopyOwn
namespace Go.Proofs.Ytohnkicfnfejnaa.Pure
set_option linter.unusedVariables false
set_option linter.unusedSimpArgs false
open Go Go.RowKit Go.Proofs.Ytohnkicfnfejnaa.PFnReadWithout Go.Proofs.YtohnkicfnfejnaaW.PrintWords Go.Proofs.YtohnkicfnfejnaaW.PrintLast Go.Proofs.YtohnkicfnfejnaaW.PrintMore

/-! how much a reader finds at most -/
theorem goF_pw : ∀ {l acc : List S40}, goF acc l = true → (∀ a ∈ acc, ∀ b ∈ l, a.f0 ≠ b.f0) ∧ l.Pairwise (fun a b => a.f0 ≠ b.f0)
  | [], acc, _ => ⟨by simp, List.Pairwise.nil⟩
  | x :: xs, acc, h => by
    simp only [goF, Bool.and_eq_true, Bool.not_eq_true', List.any_eq_false, beq_iff_eq] at h
    obtain ⟨_, h1, h2⟩ := h
    obtain ⟨h3, h4⟩ := goF_pw h2
    refine ⟨fun a ha b hb => ?_, List.pairwise_cons.2 ⟨fun b hb => h3 x (by simp) b hb, h4⟩⟩
    rcases List.mem_cons.1 hb with rfl | hb
    · exact h1 a ha
    · exact h3 a (List.mem_append_left _ ha) b hb
def sumB (s : List Int) : List S40 → Nat
  | [] => 0
  | f :: fs => (if isPre f.f0 s = true then 2 ^ (s.length - f.f0.length) else 0) + sumB s fs
theorem sum_pow : ∀ (n : Nat) (ks : List Nat), ks.Nodup → (∀ k ∈ ks, 1 ≤ k ∧ k ≤ n) → (ks.map (fun k => 2 ^ (n - k))).sum + 1 ≤ 2 ^ n
  | 0, ks, _, h => by
    cases ks with
    | nil => simp
    | cons k ks => have := h k (by simp); omega
  | n + 1, ks, hn, h => by
    have key : ∀ l : List Nat, (∀ k ∈ l, k ≤ n) → (l.map (fun k => 2 ^ (n + 1 - k))).sum = 2 * (l.map (fun k => 2 ^ (n - k))).sum := by
      intro l
      induction l with
      | nil => intro _; rfl
      | cons k l ih =>
        intro hl
        have h1 := hl k (by simp)
        have e : n + 1 - k = (n - k) + 1 := by omega
        simp only [List.map_cons, List.sum_cons]
        rw [ih (fun k hk => hl k (by simp [hk])), e, Nat.pow_succ]; omega
    by_cases hm : n + 1 ∈ ks
    · have hp := List.perm_cons_erase hm
      have h1 := sum_pow n (ks.erase (n + 1)) (hn.erase _) (fun k hk => by
        have h2 := h k (List.mem_of_mem_erase hk)
        have : k ≠ n + 1 := fun e => by subst e; exact (List.Nodup.not_mem_erase hn) hk
        omega)
      have h2 := (hp.map (fun k => 2 ^ (n + 1 - k))).sum_nat
      rw [h2, List.map_cons, List.sum_cons, key _ (fun k hk => by
        have h2 := h k (List.mem_of_mem_erase hk)
        have : k ≠ n + 1 := fun e => by subst e; exact (List.Nodup.not_mem_erase hn) hk
        omega), Nat.sub_self, Nat.pow_succ]
      omega
    · rw [key _ (fun k hk => by have := h k hk; have : k ≠ n + 1 := fun e => hm (e ▸ hk); omega)]
      have h1 := sum_pow n ks hn (fun k hk => by have := h k hk; have : k ≠ n + 1 := fun e => hm (e ▸ hk); omega)
      rw [Nat.pow_succ]; omega
theorem isPre_take {p s : List Int} (h : isPre p s = true) : s.take p.length = p := by
  unfold isPre at h; simp at h; exact h.2
theorem sumB_eq (s : List Int) : ∀ L : List S40, sumB s L = (((L.filter (fun f => isPre f.f0 s)).map (fun f => f.f0.length)).map (fun k => 2 ^ (s.length - k))).sum
  | [] => rfl
  | f :: fs => by
    simp only [sumB]
    rw [sumB_eq s fs, List.filter_cons]
    cases isPre f.f0 s <;> simp
theorem sumB_le {s : List Int} {L : List S40} (hL : ∀ f ∈ L, 1 ≤ f.f0.length) (hp : L.Pairwise (fun a b => a.f0 ≠ b.f0)) : sumB s L ≤ 2 ^ s.length := by
  rw [sumB_eq]
  have h1 : ((L.filter (fun f => isPre f.f0 s)).map (fun f => f.f0.length)).Nodup := by
    rw [List.nodup_iff_pairwise_ne, List.pairwise_map]
    have h2 := hp.filter (fun f => isPre f.f0 s)
    refine List.Pairwise.imp_of_mem (fun {a b} ha hb h => ?_) h2
    intro e
    have h3 := isPre_take (List.mem_filter.1 ha).2
    have h4 := isPre_take (List.mem_filter.1 hb).2
    rw [e] at h3
    exact h (h3.symm.trans h4)
  have := sum_pow s.length _ h1 (fun k hk => by
    obtain ⟨f, hf, rfl⟩ := List.mem_map.1 hk
    obtain ⟨hf1, hf2⟩ := List.mem_filter.1 hf
    exact ⟨hL f hf1, isPre_len hf2⟩)
  omega
/-- A least sum, -1 for none. -/
def lA (c : S40 → Int) (g : List Int → Int) (s : List Int) : List S40 → Int → Int
  | [], a => a
  | f :: fs, a => if isPre f.f0 s = true then (if g (s.drop f.f0.length) < 0 then lA c g s fs a else lA c g s fs (if a < 0 ∨ g (s.drop f.f0.length) + c f < a then g (s.drop f.f0.length) + c f else a)) else lA c g s fs a
def oW (o : OutC) : Int := if o.f0 = 0 then -1 else o.f1
def oF (o : OutC) : Int := if o.f0 = 0 then -1 else o.f2
structure OBd (n : Nat) (o : OutC) : Prop where
  lo : 0 ≤ o.f0
  hi : o.f0 ≤ ((2 ^ n : Nat) : Int)
  w0 : o.f0 ≠ 0 → 0 ≤ o.f1
  w1 : o.f0 ≠ 0 → o.f1 ≤ 9 * (n : Int)
  f0 : o.f0 ≠ 0 → 0 ≤ o.f2
  f1 : o.f0 ≠ 0 → o.f2 ≤ (n : Int)
theorem OBd.oW {n : Nat} {o : OutC} (h : OBd n o) : -1 ≤ Pure.oW o ∧ Pure.oW o ≤ 9 * (n : Int) := by
  unfold Pure.oW
  by_cases hz : o.f0 = 0
  · rw [if_pos hz]; omega
  · rw [if_neg hz]; have := h.w0 hz; have := h.w1 hz; omega
theorem OBd.oF {n : Nat} {o : OutC} (h : OBd n o) : -1 ≤ Pure.oF o ∧ Pure.oF o ≤ (n : Int) := by
  unfold Pure.oF
  by_cases hz : o.f0 = 0
  · rw [if_pos hz]; omega
  · rw [if_neg hz]; have := h.f0 hz; have := h.f1 hz; omega
theorem outW_plain {n m : Nat} {o r : OutC} {f : S40} (hn : n ≤ 23) (hm : m + f.f0.length ≤ n) (hf : 1 ≤ f.f0.length) (hw : 1 ≤ f.f1 ∧ f.f1 ≤ 9) (h1 : OBd n o) (h2 : OBd m r) (hr : r.f0 ≠ 0) (hs : o.f0 + r.f0 ≤ ((2 ^ n : Nat) : Int)) :
    OBd n (outW o f r) ∧ (outW o f r).f0 = o.f0 + r.f0 ∧ oW (outW o f r) = (if oW o < 0 ∨ oW r + f.f1 < oW o then oW r + f.f1 else oW o) ∧ oF (outW o f r) = (if oF o < 0 ∨ oF r + 1 < oF o then oF r + 1 else oF o) := by
  have hp : (2 : Nat) ^ n ≤ 2 ^ 23 := Nat.pow_le_pow_right (by omega) hn
  have hp' : (2 : Nat) ^ 23 = 8388608 := rfl
  obtain ⟨a1, a2, a3, a4, a5, a6⟩ := h1
  obtain ⟨b1, b2, b3, b4, b5, b6⟩ := h2
  have b3 := b3 hr; have b4 := b4 hr; have b5 := b5 hr; have b6 := b6 hr
  have hne : o.f0 + r.f0 ≠ 0 := by omega
  unfold outW
  by_cases h : o.f0 > 0
  · have hz : o.f0 ≠ 0 := by omega
    have a3 := a3 hz; have a4 := a4 hz; have a5 := a5 hz; have a6 := a6 hz
    rw [if_pos h, w64 (x := o.f0 + r.f0) (by omega) (by omega), w64 (x := f.f1 + r.f1) (by omega) (by omega), w64 (x := 1 + r.f2) (by omega) (by omega)]
    have m1 := mn_le (f.f1 + r.f1) o.f1
    have m2 := mn_le (1 + r.f2) o.f2
    refine ⟨⟨by simp only []; omega, hs, fun _ => by simp only []; omega, fun _ => by simp only []; omega, fun _ => by simp only []; omega, fun _ => by simp only []; omega⟩, rfl, ?_, ?_⟩
    · unfold oW
      simp only []
      rw [if_neg hne, if_neg hz, if_neg hr]
      by_cases hc : r.f1 + f.f1 < o.f1
      · rw [if_pos (.inr hc)]; omega
      · rw [if_neg (by omega)]; omega
    · unfold oF
      simp only []
      rw [if_neg hne, if_neg hz, if_neg hr]
      by_cases hc : r.f2 + 1 < o.f2
      · rw [if_pos (.inr hc)]; omega
      · rw [if_neg (by omega)]; omega
  · have hz : o.f0 = 0 := by omega
    rw [if_neg h, w64 (x := o.f0 + r.f0) (by omega) (by omega), w64 (x := f.f1 + r.f1) (by omega) (by omega), w64 (x := 1 + r.f2) (by omega) (by omega)]
    refine ⟨⟨by simp only []; omega, hs, fun _ => by simp only []; omega, fun _ => by simp only []; omega, fun _ => by simp only []; omega, fun _ => by simp only []; omega⟩, rfl, ?_, ?_⟩
    · unfold oW
      simp only []
      rw [if_neg hne, if_pos hz, if_neg hr, if_pos (.inl (by omega))]; omega
    · unfold oF
      simp only []
      rw [if_neg hne, if_pos hz, if_neg hr, if_pos (.inl (by omega))]; omega
theorem rdA_plain {rec : List Int → OutC} {s : List Int} (hs : s.length ≤ 23) (hrec : ∀ k, 1 ≤ k → k ≤ s.length → OBd (s.length - k) (rec (s.drop k))) :
    ∀ (L : List S40) (acc : OutC), (∀ f ∈ L, 1 ≤ f.f0.length ∧ 1 ≤ f.f1 ∧ f.f1 ≤ 9) → OBd s.length acc → acc.f0 + (sumB s L : Int) ≤ ((2 ^ s.length : Nat) : Int) →
      OBd s.length (rdA rec s L acc) ∧ oW (rdA rec s L acc) = lA (fun f => f.f1) (fun t => oW (rec t)) s L (oW acc) ∧ oF (rdA rec s L acc) = lA (fun _ => 1) (fun t => oF (rec t)) s L (oF acc)
  | [], acc, _, h, _ => ⟨h, rfl, rfl⟩
  | f :: fs, acc, hL, h, hb => by
    have hf := hL f (by simp)
    have hL' := fun g hg => hL g (List.mem_cons_of_mem _ hg)
    simp only [rdA, lA, sumB] at hb ⊢
    by_cases hp : isPre f.f0 s = true
    · rw [if_pos hp] at hb
      rw [if_pos hp, if_pos hp, if_pos hp]
      have hl := isPre_len hp
      have hr := hrec f.f0.length hf.1 hl
      generalize rec (s.drop f.f0.length) = r at hr ⊢
      rw [Int.natCast_add] at hb
      have hbr := hr.hi
      by_cases hz : r.f0 = 0
      · have e1 : oW r = -1 := if_pos hz
        have e2 : oF r = -1 := if_pos hz
        rw [if_pos hz, if_pos (by rw [e1]; omega), if_pos (by rw [e2]; omega)]
        have := hr.lo
        exact rdA_plain hs hrec fs acc hL' h (by omega)
      · have e1 : ¬ oW r < 0 := by unfold oW; rw [if_neg hz]; have := hr.w0 hz; omega
        have e2 : ¬ oF r < 0 := by unfold oF; rw [if_neg hz]; have := hr.f0 hz; omega
        rw [if_neg hz, if_neg e1, if_neg e2]
        obtain ⟨o1, o2, o3, o4⟩ := outW_plain (n := s.length) (m := s.length - f.f0.length) (o := acc) (r := r) (f := f) hs (by omega) hf.1 hf.2 h hr hz (by omega)
        rw [← o3, ← o4]
        exact rdA_plain hs hrec fs (outW acc f r) hL' o1 (by rw [o2]; omega)
    · rw [if_neg hp] at hb
      rw [if_neg hp, if_neg hp, if_neg hp]
      exact rdA_plain hs hrec fs acc hL' h (by omega)
/-- What valid formulas are good for. -/
structure FsV (L : List S40) : Prop where
  len : L.length ≤ 8
  one : ∀ f ∈ L, 1 ≤ f.f0.length ∧ f.f0.length ≤ 5
  wt : ∀ f ∈ L, 1 ≤ f.f1 ∧ f.f1 ≤ 9
  pw : L.Pairwise (fun a b => a.f0 ≠ b.f0)
theorem FsV.of {L : List S40} (h : fsOk L = true) : FsV L :=
  ⟨fsOk_len h, fun f hf => fOk_len (fsOk_all h f hf), fun f hf => fOk_weight (fsOk_all h f hf), (goF_pw (acc := []) (by unfold fsOk at h; simp at h; exact h.2)).2⟩
theorem rdO_bd {L : List S40} (hv : FsV L) : ∀ (n : Nat) (s : List Int), s.length = n → n ≤ 23 → OBd n (rdO L s) := by
  intro n
  induction n using Nat.strongRecOn with
  | ind n ih =>
    intro s hs hn
    by_cases hne : s = []
    · subst hne
      simp at hs
      subst hs
      rw [rdO_nil]
      exact ⟨by simp, by simp, by simp, by simp, by simp, by simp⟩
    · rw [rdO_step (fun f hf => (hv.one f hf).1) hne]
      subst hs
      refine (rdA_plain hn (fun k hk hk' => ih (s.length - k) (by omega) _ (by rw [List.length_drop]) (by omega)) L ⟨0, 0, 0⟩ (fun f hf => ⟨(hv.one f hf).1, hv.wt f hf⟩) ⟨by simp, Int.natCast_nonneg _, by simp, by simp, by simp, by simp⟩ ?_).1
      have := sumB_le (s := s) (fun f hf => (hv.one f hf).1) hv.pw
      simp only [Int.zero_add]
      exact_mod_cast this
theorem rdO_least {L : List S40} (hv : FsV L) {s : List Int} (hs : s.length ≤ 23) (hne : s ≠ []) :
    oW (rdO L s) = lA (fun f => f.f1) (fun t => oW (rdO L t)) s L (-1) ∧ oF (rdO L s) = lA (fun _ => 1) (fun t => oF (rdO L t)) s L (-1) := by
  have h := rdA_plain (rec := rdO L) (s := s) hs (fun k hk hk' => rdO_bd hv (s.length - k) _ (by rw [List.length_drop]) (by omega)) L ⟨0, 0, 0⟩ (fun f hf => ⟨(hv.one f hf).1, hv.wt f hf⟩) ⟨by simp, Int.natCast_nonneg _, by simp, by simp, by simp, by simp⟩ (by
    have := sumB_le (s := s) (fun f hf => (hv.one f hf).1) hv.pw
    simp only [Int.zero_add]
    exact_mod_cast this)
  rw [rdO_step (fun f hf => (hv.one f hf).1) hne]
  exact ⟨h.2.1, h.2.2⟩

/-! what a reading builds -/
def goB (l : List S40) : List Int → List Int → List Int × Bool
  | acc, [] => (acc, true)
  | acc, i :: is => if i < 0 ∨ (l.length : Int) ≤ i ∨ acc.length + (rd_T40 l i).f0.length > 23 then ([], false) else goB l (acc ++ (rd_T40 l i).f0) is
def fbuild (l : List S40) (r : List Int) : List Int × Bool := if fsOk l = true then goB l [] r else ([], false)
theorem goB_len (l : List S40) : ∀ r acc, acc.length ≤ 23 → (goB l acc r).1.length ≤ 23
  | [], acc, h => h
  | i :: is, acc, h => by
    simp only [goB]
    split
    · simp
    · exact goB_len l is _ (by rw [List.length_append]; omega)
theorem fbuild_len (l : List S40) (r : List Int) : (fbuild l r).1.length ≤ 23 := by
  unfold fbuild
  split
  · exact goB_len l r [] (by simp)
  · simp
theorem impl_FormulasBuild_ev (l : List S40) (r : List Int) (hl : ∀ x ∈ l, x.f0.length ≤ 1000000000000) (hr : r.length ≤ 1000000000000) : Ev (fun k => impl_FormulasBuild.f k l r) (fbuild l r) := by
  unfold impl_FormulasBuild.f fbuild
  refine Ev.bind (impl_FormulasValid_ev l hl) ?_
  cases hok : fsOk l
  · exact Ev.neg (by simp) (Ev.eqr (Ev.now _) (by simp))
  refine Ev.pos rfl ?_
  rw [if_pos rfl]
  have h8 := fsOk_len hok
  have := Ev.over (0 : Int) r (fun k (s : List Int) i => impl_FormulasBuild.l0 k l s r r.length i) (fun s rest => goB l s rest) (fun i s => s.length ≤ 23) (by
    intro s _
    refine Ev.succ ?_
    simp only [impl_FormulasBuild.l0, goB]
    exact Ev.neg (by omega) (Ev.now _)) (by
    intro s i rest hs hi _ ih
    refine Ev.succ ?_
    simp only [impl_FormulasBuild.l0, goB]
    refine Ev.pos (by omega) (Ev.pos (by omega) (Ev.pos (by omega) ?_))
    have hrd : rd r (i : Int) = r.getD i 0 := rfl
    rw [hrd]
    generalize r.getD i 0 = n
    by_cases h1 : n < 0
    · rw [if_pos (Or.inl h1)]
      exact Ev.pos h1 (Ev.now _)
    · refine Ev.neg h1 ?_
      by_cases h2 : n ≥ (l.length : Int)
      · rw [if_pos (Or.inr (Or.inl h2))]
        exact Ev.pos h2 (Ev.now _)
      · refine Ev.neg h2 (Ev.pos (by omega) (Ev.pos (by omega) ?_))
        have hw := fOk_len (fsOk_all hok _ (rd_mem (k := n) (by omega) (by omega)))
        rw [w64 (by omega) (by omega)]
        by_cases h3 : (s.length : Int) + ((rd_T40 l n).f0.length : Int) > 23
        · rw [if_pos (Or.inr (Or.inr (by omega)))]
          exact Ev.pos h3 (Ev.now _)
        · rw [if_neg (by omega)]
          refine Ev.neg h3 (Ev.pos (by omega) ?_)
          rw [w64 (by omega) (by omega)]
          exact ih _ (by rw [List.length_append]; omega)) 0 [] (Nat.zero_le _) (by simp)
  simpa using this

def mA (g : List Int → Int) (s : List Int) : List S40 → Int → Int
  | [], a => a
  | f :: fs, a => if isPre f.f0 s = true then mA g s fs (wrap64 (a + g (s.drop f.f0.length))) else mA g s fs a
theorem wrap_range (x : Int) : -9223372036854775808 ≤ wrap64 x ∧ wrap64 x ≤ 9223372036854775807 := by unfold wrap64; omega
theorem outW_f0 (o : OutC) (f : S40) (r : OutC) : (outW o f r).f0 = wrap64 (o.f0 + r.f0) := by unfold outW; split <;> rfl
theorem rdA_many (rec : List Int → OutC) (s : List Int) : ∀ (L : List S40) (acc : OutC), -9223372036854775808 ≤ acc.f0 → acc.f0 ≤ 9223372036854775807 → (rdA rec s L acc).f0 = mA (fun t => (rec t).f0) s L acc.f0
  | [], acc, _, _ => rfl
  | f :: fs, acc, h, h' => by
    simp only [rdA, mA]
    by_cases hp : isPre f.f0 s = true
    · rw [if_pos hp, if_pos hp]
      by_cases hz : (rec (s.drop f.f0.length)).f0 = 0
      · rw [if_pos hz, rdA_many rec s fs acc h h', hz, Int.add_zero, w64 h h']
      · rw [if_neg hz]
        have := wrap_range (acc.f0 + (rec (s.drop f.f0.length)).f0)
        rw [rdA_many rec s fs _ (by rw [outW_f0]; exact this.1) (by rw [outW_f0]; exact this.2), outW_f0]
    · rw [if_neg hp, if_neg hp, rdA_many rec s fs acc h h']

/-! readings, plain -/
def okIx (L : List S40) (r : List Int) : Prop := ∀ i ∈ r, 0 ≤ i ∧ i < (L.length : Int)
def flatR (L : List S40) : List Int → List Int
  | [] => []
  | i :: r => (rd_T40 L i).f0 ++ flatR L r
def sumW (L : List S40) : List Int → Int
  | [] => 0
  | i :: r => (rd_T40 L i).f1 + sumW L r
theorem flatR_app (L : List S40) : ∀ a b, flatR L (a ++ b) = flatR L a ++ flatR L b
  | [], b => rfl
  | i :: a, b => by simp only [List.cons_append, flatR]; rw [flatR_app L a b, List.append_assoc]
theorem goB_of {L : List S40} : ∀ (r acc : List Int), okIx L r → (acc ++ flatR L r).length ≤ 23 → goB L acc r = (acc ++ flatR L r, true)
  | [], acc, _, _ => by simp [goB, flatR]
  | i :: r, acc, h, hl => by
    have hi := h i List.mem_cons_self
    simp only [flatR] at hl ⊢
    simp only [goB]
    rw [if_neg (by rw [List.length_append, List.length_append] at hl; omega), goB_of r _ (fun j hj => h j (List.mem_cons_of_mem _ hj)) (by rw [List.append_assoc]; exact hl), List.append_assoc]
theorem goB_inv {L : List S40} : ∀ (r acc : List Int), acc.length ≤ 23 → (goB L acc r).2 = true → okIx L r ∧ (acc ++ flatR L r).length ≤ 23
  | [], acc, hl, _ => ⟨fun i hi => by simp at hi, by simpa [flatR] using hl⟩
  | i :: r, acc, hl, h => by
    simp only [goB] at h
    by_cases hc : i < 0 ∨ (L.length : Int) ≤ i ∨ acc.length + (rd_T40 L i).f0.length > 23
    · rw [if_pos hc] at h; cases h
    · rw [if_neg hc] at h
      obtain ⟨h1, h2⟩ := goB_inv r _ (by rw [List.length_append]; omega) h
      refine ⟨fun j hj => ?_, by simp only [flatR]; rw [← List.append_assoc]; exact h2⟩
      rcases List.mem_cons.1 hj with rfl | hj
      · omega
      · exact h1 j hj
theorem fbuild_of {L : List S40} {r : List Int} (hv : fsOk L = true) (h : okIx L r) (hl : (flatR L r).length ≤ 23) : fbuild L r = (flatR L r, true) := by
  unfold fbuild
  rw [if_pos hv, goB_of r [] h (by simpa using hl)]; simp
theorem fbuild_inv {L : List S40} {r : List Int} (h : (fbuild L r).2 = true) : fsOk L = true ∧ okIx L r ∧ (flatR L r).length ≤ 23 ∧ (fbuild L r).1 = flatR L r := by
  have hv : fsOk L = true := by
    unfold fbuild at h
    by_cases hv : fsOk L = true
    · exact hv
    · rw [if_neg hv] at h; cases h
  have h' : (goB L [] r).2 = true := by unfold fbuild at h; rw [if_pos hv] at h; exact h
  obtain ⟨h1, h2⟩ := goB_inv r [] (by simp) h'
  have h2 : (flatR L r).length ≤ 23 := by simpa using h2
  exact ⟨hv, h1, h2, by rw [fbuild_of hv h1 h2]⟩
theorem lA_le {c : S40 → Int} {g : List Int → Int} {s : List Int} : ∀ (l : List S40) (a : Int), (∀ f ∈ l, 0 ≤ c f) → -1 ≤ a → (0 ≤ a → 0 ≤ lA c g s l a ∧ lA c g s l a ≤ a) ∧ (∀ f ∈ l, isPre f.f0 s = true → 0 ≤ g (s.drop f.f0.length) → 0 ≤ lA c g s l a ∧ lA c g s l a ≤ g (s.drop f.f0.length) + c f)
  | [], a, _, _ => ⟨fun h => ⟨h, Int.le_refl _⟩, fun f hf => by simp at hf⟩
  | x :: l, a, hc, ha => by
    have hc' := fun f hf => hc f (List.mem_cons_of_mem _ hf)
    have hx := hc x List.mem_cons_self
    simp only [lA]
    by_cases hp : isPre x.f0 s = true
    · rw [if_pos hp]
      by_cases hg : g (s.drop x.f0.length) < 0
      · rw [if_pos hg]
        obtain ⟨h1, h2⟩ := lA_le (g := g) (s := s) l a hc' ha
        refine ⟨h1, fun f hf hpf hgf => ?_⟩
        rcases List.mem_cons.1 hf with rfl | hf
        · omega
        · exact h2 f hf hpf hgf
      · rw [if_neg hg]
        generalize hv : g (s.drop x.f0.length) + c x = v
        have hv0 : 0 ≤ v := by omega
        by_cases hlt : a < 0 ∨ v < a
        · rw [if_pos hlt]
          obtain ⟨h1, h2⟩ := lA_le (g := g) (s := s) l v hc' (by omega)
          have h1 := h1 hv0
          refine ⟨fun ha' => by omega, fun f hf hpf hgf => ?_⟩
          rcases List.mem_cons.1 hf with rfl | hf
          · omega
          · exact h2 f hf hpf hgf
        · rw [if_neg hlt]
          obtain ⟨h1, h2⟩ := lA_le (g := g) (s := s) l a hc' ha
          have h1 := h1 (by omega)
          refine ⟨fun _ => h1, fun f hf hpf hgf => ?_⟩
          rcases List.mem_cons.1 hf with rfl | hf
          · omega
          · exact h2 f hf hpf hgf
    · rw [if_neg hp]
      obtain ⟨h1, h2⟩ := lA_le (g := g) (s := s) l a hc' ha
      refine ⟨h1, fun f hf hpf hgf => ?_⟩
      rcases List.mem_cons.1 hf with rfl | hf
      · exact absurd hpf hp
      · exact h2 f hf hpf hgf
theorem isPre_app (p s : List Int) : isPre p (p ++ s) = true := by unfold isPre; simp
theorem reads_least {L : List S40} (hv : FsV L) : ∀ (r : List Int), okIx L r → (flatR L r).length ≤ 23 → (0 ≤ oW (rdO L (flatR L r)) ∧ oW (rdO L (flatR L r)) ≤ sumW L r) ∧ (0 ≤ oF (rdO L (flatR L r)) ∧ oF (rdO L (flatR L r)) ≤ (r.length : Int))
  | [], _, _ => by simp only [flatR]; rw [rdO_nil]; simp [oW, oF, sumW]
  | i :: r, h, hl => by
    have hi := h i List.mem_cons_self
    have hm := rd_mem hi.1 hi.2
    simp only [flatR] at hl ⊢
    have h1 := hv.one _ hm
    obtain ⟨a, b⟩ := reads_least hv r (fun j hj => h j (List.mem_cons_of_mem _ hj)) (by rw [List.length_append] at hl; omega)
    have hne : (rd_T40 L i).f0 ++ flatR L r ≠ [] := by
      intro e
      have := congrArg List.length e
      rw [List.length_append, List.length_nil] at this; omega
    obtain ⟨e1, e2⟩ := rdO_least hv hl hne
    have ed : ((rd_T40 L i).f0 ++ flatR L r).drop (rd_T40 L i).f0.length = flatR L r := by simp
    rw [e1, e2]
    have l1 := (lA_le (c := fun f => f.f1) (g := fun t => oW (rdO L t)) (s := (rd_T40 L i).f0 ++ flatR L r) L (-1) (fun f hf => by have := hv.wt f hf; show 0 ≤ f.f1; omega) (by omega)).2 _ hm (isPre_app _ _) (by rw [ed]; exact a.1)
    have l2 := (lA_le (c := fun _ => 1) (g := fun t => oF (rdO L t)) (s := (rd_T40 L i).f0 ++ flatR L r) L (-1) (fun f hf => by show (0 : Int) ≤ 1; omega) (by omega)).2 _ hm (isPre_app _ _) (by rw [ed]; exact b.1)
    rw [ed] at l1 l2
    refine ⟨⟨l1.1, ?_⟩, l2.1, ?_⟩
    · have := l1.2; simp only [sumW]; omega
    · have := l2.2; rw [List.length_cons]; omega
theorem oW_nn {o : OutC} : 0 ≤ oW o → o.f0 ≠ 0 := by
  intro h hz
  unfold oW at h
  rw [if_pos hz] at h; omega
theorem reads_many {L : List S40} (hv : FsV L) {r : List Int} (h : okIx L r) (hl : (flatR L r).length ≤ 23) : 1 ≤ (rdO L (flatR L r)).f0 := by
  have h1 := oW_nn (reads_least hv r h hl).1.1
  have h2 := (rdO_bd hv _ (flatR L r) rfl hl).lo
  omega
theorem flat_in {L : List S40} (hv : fsOk L = true) : ∀ (r : List Int), okIx L r → (flatR L r).all (inR (-20) 20) = true
  | [], _ => rfl
  | i :: r, h => by
    have hi := h i List.mem_cons_self
    have hf := fsOk_all hv _ (rd_mem hi.1 hi.2)
    simp only [flatR, List.all_append, Bool.and_eq_true]
    refine ⟨?_, flat_in hv r (fun j hj => h j (List.mem_cons_of_mem _ hj))⟩
    unfold fOk at hf
    simp only [Bool.and_eq_true] at hf
    rw [List.all_eq_true]
    intro x hx
    have := List.all_eq_true.1 hf.2.1 x hx
    unfold inR at this ⊢
    simp at this ⊢
    omega
theorem okR_flat {L : List S40} {r : List Int} (hv : fsOk L = true) (h : okIx L r) (hl : (flatR L r).length ≤ 23) : okR L (flatR L r) = true := by
  unfold okR
  rw [hv, flat_in hv r h, decide_eq_true hl]; rfl

/-! fewer formulas have no more readings -/
def cnt (g : List Int → Int) (s : List Int) : List S40 → Int
  | [] => 0
  | f :: fs => (if isPre f.f0 s = true then g (s.drop f.f0.length) else 0) + cnt g s fs
theorem cnt_nn {g : List Int → Int} {s : List Int} : ∀ l : List S40, (∀ f ∈ l, isPre f.f0 s = true → 0 ≤ g (s.drop f.f0.length)) → 0 ≤ cnt g s l
  | [], _ => Int.le_refl _
  | f :: fs, h => by
    simp only [cnt]
    have h1 := cnt_nn fs (fun x hx => h x (List.mem_cons_of_mem _ hx))
    by_cases hp : isPre f.f0 s = true
    · rw [if_pos hp]; have := h f List.mem_cons_self hp; omega
    · rw [if_neg hp]; omega
theorem mA_cnt {g : List Int → Int} {s : List Int} : ∀ (l : List S40) (a : Int), (∀ f ∈ l, isPre f.f0 s = true → 0 ≤ g (s.drop f.f0.length)) → 0 ≤ a → a + cnt g s l ≤ 4611686018427387904 → mA g s l a = a + cnt g s l
  | [], a, _, _, _ => by simp [mA, cnt]
  | f :: fs, a, h, h0, hb => by
    simp only [mA, cnt] at hb ⊢
    have h' := fun x hx => h x (List.mem_cons_of_mem _ hx)
    have hn := cnt_nn fs h'
    by_cases hp : isPre f.f0 s = true
    · rw [if_pos hp] at hb ⊢
      rw [if_pos hp]
      have := h f List.mem_cons_self hp
      rw [w64 (by omega) (by omega), mA_cnt fs _ h' (by omega) (by omega)]
      omega
    · rw [if_neg hp] at hb ⊢
      rw [if_neg hp, mA_cnt fs _ h' h0 (by omega)]
      omega
theorem cnt_sum {g : List Int → Int} {s : List Int} : ∀ l : List S40, (∀ f ∈ l, isPre f.f0 s = true → g (s.drop f.f0.length) ≤ ((2 ^ (s.length - f.f0.length) : Nat) : Int)) → cnt g s l ≤ (sumB s l : Int)
  | [], _ => by simp [cnt, sumB]
  | f :: fs, h => by
    simp only [cnt, sumB]
    have h1 := cnt_sum fs (fun x hx => h x (List.mem_cons_of_mem _ hx))
    rw [Int.natCast_add]
    by_cases hp : isPre f.f0 s = true
    · rw [if_pos hp, if_pos hp]; have := h f List.mem_cons_self hp; omega
    · rw [if_neg hp, if_neg hp]; omega
theorem cnt_sub {g g' : List Int → Int} {s : List Int} {l' l : List S40} (hs : l'.Sublist l) (h : ∀ f ∈ l, isPre f.f0 s = true → 0 ≤ g (s.drop f.f0.length)) (h' : ∀ f ∈ l, isPre f.f0 s = true → g' (s.drop f.f0.length) ≤ g (s.drop f.f0.length)) : cnt g' s l' ≤ cnt g s l := by
  induction hs with
  | slnil => exact Int.le_refl _
  | @cons l1 l2 a hs ih =>
    have := ih (fun x hx => h x (List.mem_cons_of_mem _ hx)) (fun x hx => h' x (List.mem_cons_of_mem _ hx))
    simp only [cnt]
    by_cases hp : isPre a.f0 s = true
    · rw [if_pos hp]; have := h a List.mem_cons_self hp; omega
    · rw [if_neg hp]; omega
  | @cons_cons l1 l2 a hs ih =>
    have := ih (fun x hx => h x (List.mem_cons_of_mem _ hx)) (fun x hx => h' x (List.mem_cons_of_mem _ hx))
    simp only [cnt]
    by_cases hp : isPre a.f0 s = true
    · rw [if_pos hp, if_pos hp]; have := h' a List.mem_cons_self hp; omega
    · rw [if_neg hp, if_neg hp]; omega
theorem rdO_cnt {L : List S40} (hv : FsV L) {s : List Int} (hl : s.length ≤ 23) (hs : s ≠ []) : (rdO L s).f0 = cnt (fun t => (rdO L t).f0) s L := by
  have hb : ∀ f ∈ L, isPre f.f0 s = true → OBd (s.length - f.f0.length) (rdO L (s.drop f.f0.length)) := fun f _ hp => rdO_bd hv _ _ (by rw [List.length_drop]) (by have := isPre_len hp; omega)
  have e : (rdO L s).f0 = mA (fun t => (rdO L t).f0) s L 0 := by
    rw [rdO_step (fun f hf => (hv.one f hf).1) hs]
    exact rdA_many _ _ _ _ (by decide) (by decide)
  have h1 := cnt_sum (g := fun t => (rdO L t).f0) (s := s) L (fun f hf hp => (hb f hf hp).hi)
  have h2 := sumB_le (s := s) (fun f hf => (hv.one f hf).1) hv.pw
  have h3 : 2 ^ s.length ≤ 2 ^ 23 := Nat.pow_le_pow_right (by decide) hl
  have h4 : (2 : Nat) ^ 23 = 8388608 := by decide
  rw [e, mA_cnt L 0 (fun f hf hp => (hb f hf hp).lo) (by omega) (by omega)]
  omega
theorem many_mono {L L' : List S40} (hv : FsV L) (hv' : FsV L') (hsub : L'.Sublist L) : ∀ (n : Nat) (s : List Int), s.length ≤ n → s.length ≤ 23 → (rdO L' s).f0 ≤ (rdO L s).f0
  | 0, s, h, _ => by
    obtain rfl : s = [] := List.eq_nil_of_length_eq_zero (by omega)
    rw [rdO_nil, rdO_nil]; exact Int.le_refl _
  | n + 1, s, h, h' => by
    by_cases hs : s = []
    · subst hs; rw [rdO_nil, rdO_nil]; exact Int.le_refl _
    rw [rdO_cnt hv h' hs, rdO_cnt hv' h' hs]
    refine cnt_sub hsub (fun f hf hp => ?_) (fun f hf hp => ?_)
    · exact (rdO_bd hv _ (s.drop f.f0.length) rfl (by rw [List.length_drop]; omega)).lo
    · have := (hv.one f hf).1
      have := isPre_len hp
      exact many_mono hv hv' hsub n _ (by rw [List.length_drop]; omega) (by rw [List.length_drop]; omega)
theorem FsV.sub {L L' : List S40} (hv : FsV L) (hsub : L'.Sublist L) : FsV L' :=
  ⟨Nat.le_trans hsub.length_le hv.len, fun f hf => hv.one f (hsub.subset hf), fun f hf => hv.wt f (hsub.subset hf), hv.pw.sublist hsub⟩
theorem goF_of : ∀ (l acc : List S40), (∀ x ∈ l, fOk x = true) → (∀ a ∈ acc, ∀ b ∈ l, a.f0 ≠ b.f0) → l.Pairwise (fun a b => a.f0 ≠ b.f0) → goF acc l = true
  | [], _, _, _, _ => rfl
  | x :: xs, acc, h1, h2, h3 => by
    obtain ⟨p1, p2⟩ := List.pairwise_cons.1 h3
    simp only [goF, Bool.and_eq_true, Bool.not_eq_true', List.any_eq_false, beq_iff_eq]
    refine ⟨h1 x List.mem_cons_self, fun a ha => h2 a ha x List.mem_cons_self, goF_of xs (acc ++ [x]) (fun y hy => h1 y (List.mem_cons_of_mem _ hy)) (fun a ha b hb => ?_) p2⟩
    rcases List.mem_append.1 ha with ha | ha
    · exact h2 a ha b (List.mem_cons_of_mem _ hb)
    · rw [List.mem_singleton.1 ha]; exact p1 b hb
theorem fsOk_sub {L L' : List S40} (h : fsOk L = true) (hsub : L'.Sublist L) : fsOk L' = true := by
  have hv := FsV.of h
  have h8 := hsub.length_le
  have h9 := hv.len
  unfold fsOk
  rw [decide_eq_true (by omega), Bool.true_and]
  exact goF_of L' [] (fun x hx => fsOk_all h x (hsub.subset hx)) (by simp) (hv.pw.sublist hsub)

/-! l91Groups, l91At -/
theorem drawAt_ev {s : List Int} (hc : Code s) (p n : Int) (hp : 0 ≤ p) (hp' : p ≤ 1000000) (hn : 0 ≤ n) :
    Evx (fun k => spec_l91At.f k s p n) (fun r => -1 ≤ r.1 ∧ r.1 ≤ n ∧ p ≤ r.2 ∧ r.2 ≤ p + 2) := by
  have tt : ∀ q, 0 ≤ q → q ≤ 2000000 → Evx (fun k => spec_l91At.j0 k n true s q) (fun r => -1 ≤ r.1 ∧ r.1 ≤ n ∧ r.2 = q + 1) := by
    intro q hq hq'
    refine Evx.succ ?_
    simp only [spec_l91At.j0, if_true]
    refine Evx.someb (Evx.bind (pick_ev hc q 2 hq (by omega)) ?_)
    rintro ⟨r, q'⟩ ⟨hr0, hr1, rfl⟩
    have hr0 : 0 ≤ r := hr0
    have hr1 : r < 2 ∨ r = 0 := hr1
    refine Evx.pos hr0 (Evx.pos (by (try simp only [List.length_set, List.length_drop, List.length_take, List.length_append, List.length_cons, List.length_nil, Int.natCast_add, Int.natCast_one, Int.natCast_zero] at *); omega) (Evx.now ?_))
    have : r = 0 ∨ r = 1 := by omega
    rcases this with rfl | rfl
    · exact ⟨by simp [rd], by simp [rd]; omega, rfl⟩
    · exact ⟨by simp [rd]; omega, by simp [rd], rfl⟩
  unfold spec_l91At.f
  refine Evx.ite (fun _ => (tt p hp (by omega)).mono (by rintro ⟨a, q⟩ ⟨h1, h2, h3⟩; exact ⟨h1, h2, (by (try simp only [List.length_set, List.length_drop, List.length_take, List.length_append, List.length_cons, List.length_nil, Int.natCast_add, Int.natCast_one, Int.natCast_zero] at *); omega), (by (try simp only [List.length_set, List.length_drop, List.length_take, List.length_append, List.length_cons, List.length_nil, Int.natCast_add, Int.natCast_one, Int.natCast_zero] at *); omega)⟩)) (fun h0 => ?_)
  refine Evx.bind (pick_ev hc p 20 hp (by omega)) ?_
  rintro ⟨r, q'⟩ ⟨hr0, hr1, rfl⟩
  by_cases e : r = 0
  · subst e
    exact (tt (p + 1) (by omega) (by omega)).mono (by rintro ⟨a, q⟩ ⟨h1, h2, h3⟩; exact ⟨h1, h2, (by (try simp only [List.length_set, List.length_drop, List.length_take, List.length_append, List.length_cons, List.length_nil, Int.natCast_add, Int.natCast_one, Int.natCast_zero] at *); omega), (by (try simp only [List.length_set, List.length_drop, List.length_take, List.length_append, List.length_cons, List.length_nil, Int.natCast_add, Int.natCast_one, Int.natCast_zero] at *); omega)⟩)
  · have e' : (r == 0) = false := by rw [beq_eq_false_iff_ne]; exact e
    simp only [e']
    refine Evx.succ ?_
    simp only [spec_l91At.j0]
    refine Evx.neg (by simp) (Evx.bind (pick_ev hc (p + 1) n (by omega) (by omega)) ?_)
    rintro ⟨u, q'⟩ ⟨hu0, hu1, rfl⟩
    exact Evx.now ⟨(by (try simp only [List.length_set, List.length_drop, List.length_take, List.length_append, List.length_cons, List.length_nil, Int.natCast_add, Int.natCast_one, Int.natCast_zero] at *); omega), (by (try simp only [List.length_set, List.length_drop, List.length_take, List.length_append, List.length_cons, List.length_nil, Int.natCast_add, Int.natCast_one, Int.natCast_zero] at *); omega), (by (try simp only [List.length_set, List.length_drop, List.length_take, List.length_append, List.length_cons, List.length_nil, Int.natCast_add, Int.natCast_one, Int.natCast_zero] at *); omega), (by (try simp only [List.length_set, List.length_drop, List.length_take, List.length_append, List.length_cons, List.length_nil, Int.natCast_add, Int.natCast_one, Int.natCast_zero] at *); omega)⟩

theorem drawWithout_ev (l0 : List Int) (hw : ∀ x ∈ l0, (Lit.int .u8 x).wf = true) : Evx (fun k => spec_DrawFormulasWithout.f k l0) (fun r => DrF r.1) := by
  obtain ⟨s, h1, hc⟩ := open_ev l0 hw
  unfold spec_DrawFormulasWithout.f
  refine Evx.conb h1 (Evx.bind (drawFormulas_ev hc 0 (by omega) (by omega)) ?_)
  rintro ⟨L, q⟩ ⟨hD, hq, hq'⟩
  have hD : DrF L := hD
  have hq : 0 ≤ q := hq
  have hq' : q ≤ 0 + 53 := hq'
  refine Evx.bind (drawAt_ev hc q L.length hq (by omega) (by omega)) ?_
  rintro ⟨r, q'⟩ _
  exact Evx.now hD

end Go.Proofs.Ytohnkicfnfejnaa.Pure
