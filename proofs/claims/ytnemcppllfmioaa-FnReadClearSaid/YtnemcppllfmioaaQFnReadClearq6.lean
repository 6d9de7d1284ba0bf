/- Lemmas on the printed functions for the law FnReadClear. -/
import Derived.Test.YtnemcppllfmioaaGFnReadClearg5
import Derived.Test.YtnemcppllfmioaaGFnReadClearg6
import Derived.Test.YtnemcppllfmioaaGFnReadClearg7
import Derived.Test.YtnemcppllfmioaaGFnReadClearg8
import Derived.Test.YtnemcppllfmioaaGFnReadClearg19
import Derived.Test.YtnemcppllfmioaaQFnReadClearq0
import Derived.Test.YtnemcppllfmioaaQFnReadClearq1
import Derived.Test.YtnemcppllfmioaaQFnReadClearq2
import Derived.Test.YtnemcppllfmioaaQFnReadClearq5
import Derived.Deep.RegionHeld3
import Derived.BigRegion
import Derived.Deep.Slices
import Derived.Laws.CopyOwn
namespace Go.Proofs.Ytnemcppllfmioaa.Pure
set_option linter.unusedVariables false
set_option linter.unusedSimpArgs false
open Go Go.RowKit Go.Proofs.Ytnemcppllfmioaa.PFnReadClear Go.Proofs.YtnemcppllfmioaaW.PrintWords Go.Proofs.YtnemcppllfmioaaW.PrintLast Go.Proofs.YtnemcppllfmioaaW.PrintMore

/-! the reference's counting of readings -/
theorem spec_l6fAt_ev (f : S55) (S : List Int) (i : Nat) (hi : i ≤ S.length) (hS : S.length ≤ 1000000) (hf : f.f0.length ≤ 1000000) : Ev (fun k => spec_l6fAt.f k f.f0 f.f1 S (i : Int)) (isPre f.f0 (S.drop i)) := by
  unfold spec_l6fAt.f isPre
  rw [w64 (by omega) (by omega)]
  by_cases h : (i : Int) + (f.f0.length : Int) ≤ (S.length : Int)
  · rw [decide_eq_true (by rw [List.length_drop]; omega : f.f0.length ≤ (S.drop i).length), Bool.true_and]
    refine Ev.pos h (Ev.pos (by omega) (Ev.pos (by omega) ?_))
    have e : ((S.take ((i : Int) + (f.f0.length : Int)).toNat).drop (i : Int).toNat) = (S.drop i).take f.f0.length := by
      have e1 : ((i : Int) + (f.f0.length : Int)).toNat = i + f.f0.length := by omega
      rw [e1, Int.toNat_natCast, List.drop_take]
      congr 1; omega
    rw [e]
    exact Ev.bind (spec_l2Same_ev _ _ (by rw [List.length_take, List.length_drop]; omega)) (Ev.now _)
  · rw [decide_eq_false (by rw [List.length_drop]; omega : ¬ f.f0.length ≤ (S.drop i).length)]
    exact Ev.neg h (Ev.now _)

theorem getD_set_self {y : List Int} {i : Nat} (v : Int) (h : i < y.length) : (y.set i v).getD i 0 = v := by
  rw [List.getD_eq_getElem?_getD, List.getElem?_set_self h]; rfl
theorem getD_set_other {y : List Int} {i j : Nat} (v : Int) (h : i ≠ j) : (y.set i v).getD j 0 = y.getD j 0 := by
  rw [List.getD_eq_getElem?_getD, List.getElem?_set_ne h, ← List.getD_eq_getElem?_getD]
theorem ext_getD {a b : List Int} (h : a.length = b.length) (h' : ∀ j, j < a.length → a.getD j 0 = b.getD j 0) : a = b := by
  apply List.ext_getElem h
  intro j h1 h2
  have := h' j h1
  rw [List.getD_eq_getElem?_getD, List.getD_eq_getElem?_getD, List.getElem?_eq_getElem h1, List.getElem?_eq_getElem h2] at this
  exact this

def mA (g : List Int → Int) (s : List Int) : List S55 → Int → Int
  | [], a => a
  | f :: fs, a => if isPre f.f0 s = true then mA g s fs (wrap64 (a + g (s.drop f.f0.length))) else mA g s fs a
theorem wrap_range (x : Int) : -9223372036854775808 ≤ wrap64 x ∧ wrap64 x ≤ 9223372036854775807 := by unfold wrap64; omega
theorem outW_f0 (o : OutC) (f : S55) (r : OutC) : (outW o f r).f0 = wrap64 (o.f0 + r.f0) := by unfold outW; split <;> rfl
theorem rdA_many (rec : List Int → OutC) (s : List Int) : ∀ (L : List S55) (acc : OutC), -9223372036854775808 ≤ acc.f0 → acc.f0 ≤ 9223372036854775807 → (rdA rec s L acc).f0 = mA (fun t => (rec t).f0) s L acc.f0
  | [], acc, _, _ => rfl
  | f :: fs, acc, h, h' => by
    simp only [rdA, mA]
    by_cases hp : isPre f.f0 s = true
    · rw [if_pos hp, if_pos hp]
      by_cases hz : (rec (s.drop f.f0.length)).f0 = 0
      · rw [if_pos hz, rdA_many rec s fs acc h h', hz, Int.add_zero, w64 h h']
      · rw [if_neg hz]
        have := wrap_range (acc.f0 + (rec (s.drop f.f0.length)).f0)
        rw [rdA_many rec s fs _ (by rw [outW_f0]; exact this.1) (by rw [outW_f0]; exact this.2), outW_f0]
    · rw [if_neg hp, if_neg hp, rdA_many rec s fs acc h h']
theorem spec_l6fWays_inner {L : List S55} {S : List Int} (hL : ∀ f ∈ L, 1 ≤ f.f0.length ∧ f.f0.length ≤ 5) (hll : L.length ≤ 8) (hS : S.length ≤ 23) (i : Nat) (hi : i < S.length) (R : List Int)
    (W : Nat → Int) (hW : ∀ j, W j = (rdO L (S.drop j)).f0)
    (hnext : ∀ y : List Int, y.length = S.length + 1 → (∀ j, i ≤ j → j ≤ S.length → y.getD j 0 = W j) → (∀ j, j < i → y.getD j 0 = 0) → Ev (fun k => spec_l6fWays.l0 k L S y ((i : Int) - 1)) R)
    (y : List Int) (hy : y.length = S.length + 1) (hy1 : ∀ j, i < j → j ≤ S.length → y.getD j 0 = W j) (hy2 : ∀ j, j ≤ i → y.getD j 0 = 0) :
    Ev (fun k => spec_l6fWays.l1 k L S y (i : Int) 0) R := by
  have hWi : W i = mA (fun t => (rdO L t).f0) (S.drop i) L 0 := by
    rw [hW, rdO_step (fun f hf => (hL f hf).1) (by intro h; have := congrArg List.length h; rw [List.length_drop, List.length_nil] at this; omega)]
    exact rdA_many _ _ L _ (by simp) (by simp)
  have := Ev.over z55 L (fun k (y : List Int) q => spec_l6fWays.l1 k L S y (i : Int) q) (fun _ _ => R) (fun q y => y.length = S.length + 1 ∧ (∀ j, i < j → j ≤ S.length → y.getD j 0 = W j) ∧ (∀ j, j < i → y.getD j 0 = 0) ∧ mA (fun t => (rdO L t).f0) (S.drop i) (L.drop q) (y.getD i 0) = W i) (by
    intro y ⟨h1, h2, h3, h4⟩
    rw [List.drop_length] at h4
    simp only [mA] at h4
    refine Ev.succ ?_
    simp only [spec_l6fWays.l1]
    refine Ev.neg (by omega) ?_
    rw [w64 (by omega) (by omega)]
    exact hnext y h1 (fun j hj hj' => by rcases Nat.lt_or_eq_of_le hj with h | h; exact h2 j h hj'; rw [← h]; exact h4) h3) (by
    intro y q rest ⟨h1, h2, h3, h4⟩ hq hdr ih
    have hm : L.getD q z55 ∈ L := by
      rw [List.getD_eq_getElem?_getD, List.getElem?_eq_getElem hq]; exact List.getElem_mem hq
    have hf := hL _ hm
    have hrest : rest = L.drop (q + 1) := by
      rw [List.drop_eq_getElem_cons hq] at hdr
      exact ((List.cons.inj hdr).2).symm
    rw [hdr] at h4
    simp only [mA] at h4
    refine Ev.succ ?_
    simp only [spec_l6fWays.l1]
    have hrd : rd_T55 L (q : Int) = L.getD q z55 := rfl
    rw [hrd]
    rw [w64 (x := (q : Int) + 1) (by omega) (by omega)]
    generalize L.getD q z55 = f at hf h4
    refine Ev.pos (by omega) (Ev.pos (by omega) (Ev.bind (spec_l6fAt_ev f S i (by omega) (by omega) (by omega)) ?_))
    cases hp : isPre f.f0 (S.drop i)
    · rw [if_neg (by rw [hp]; simp)] at h4
      refine Ev.neg (by simp) (ih y ⟨h1, h2, h3, ?_⟩)
      rw [← hrest]; exact h4
    · rw [if_pos hp] at h4
      have hl := isPre_len hp
      rw [List.length_drop] at hl
      rw [w64 (x := (i : Int) + (f.f0.length : Int)) (by omega) (by omega)]
      refine Ev.pos rfl (Ev.pos (by omega) (Ev.pos (by omega) (Ev.pos (by omega) (Ev.pos (by omega) ?_))))
      have e1 : rd y (i : Int) = y.getD i 0 := rfl
      have e2 : rd y ((i : Int) + (f.f0.length : Int)) = W (i + f.f0.length) := by
        have : ((i : Int) + (f.f0.length : Int)).toNat = i + f.f0.length := by omega
        unfold rd
        rw [this]; exact h2 _ (by omega) (by omega)
      rw [e1, e2, Int.toNat_natCast]
      refine ih _ ⟨by rw [List.length_set]; exact h1, fun j hj hj' => by rw [getD_set_other _ (by omega)]; exact h2 j hj hj', fun j hj => by rw [getD_set_other _ (by omega)]; exact h3 j hj, ?_⟩
      rw [getD_set_self _ (by omega), ← hrest, hW (i + f.f0.length), ← List.drop_drop]
      exact h4) 0 y (Nat.zero_le _) ⟨hy, hy1, fun j hj => hy2 j (by omega), by rw [hy2 i (Nat.le_refl _), List.drop_zero]; exact hWi.symm⟩
  simpa using this
def waysL (L : List S55) (S : List Int) : List Int := (List.range (S.length + 1)).map (fun j => (rdO L (S.drop j)).f0)
theorem waysL_get {L : List S55} {S : List Int} {j : Nat} (h : j ≤ S.length) : (waysL L S).getD j 0 = (rdO L (S.drop j)).f0 := by
  unfold waysL
  rw [List.getD_eq_getElem?_getD, List.getElem?_map, List.getElem?_range (by omega)]; rfl
theorem waysL_len {L : List S55} {S : List Int} : (waysL L S).length = S.length + 1 := by unfold waysL; simp
theorem spec_l6fWays_ev {L : List S55} {S : List Int} (hL : ∀ f ∈ L, 1 ≤ f.f0.length ∧ f.f0.length ≤ 5) (hll : L.length ≤ 8) (hS : S.length ≤ 23) : Ev (fun k => spec_l6fWays.f k L S) (waysL L S) := by
  have key : ∀ m, m ≤ S.length → ∀ y : List Int, y.length = S.length + 1 → (∀ j, m ≤ j → j ≤ S.length → y.getD j 0 = (rdO L (S.drop j)).f0) → (∀ j, j < m → y.getD j 0 = 0) → Ev (fun k => spec_l6fWays.l0 k L S y ((m : Int) - 1)) (waysL L S) := by
    intro m
    induction m with
    | zero =>
      intro _ y h1 h2 _
      refine Ev.succ ?_
      simp only [spec_l6fWays.l0]
      refine Ev.neg (by omega) (Ev.eqr (Ev.now _) ?_)
      refine ext_getD (by rw [h1, waysL_len]) (fun j hj => ?_)
      rw [h2 j (Nat.zero_le _) (by omega), waysL_get (by omega)]
    | succ m ih =>
      intro hm y h1 h2 h3
      refine Ev.succ ?_
      simp only [spec_l6fWays.l0]
      have e : ((m + 1 : Nat) : Int) - 1 = (m : Int) := by omega
      rw [e]
      refine Ev.pos (by omega) ?_
      exact spec_l6fWays_inner hL hll hS m (by omega) _ (fun j => (rdO L (S.drop j)).f0) (fun _ => rfl) (fun y h1 h2 h3 => ih (by omega) y h1 h2 h3) y h1 (fun j hj hj' => h2 j (by omega) hj') (fun j hj => h3 j (by omega))
  unfold spec_l6fWays.f
  rw [w64 (x := (S.length : Int) + 1) (by omega) (by omega), w64 (x := (S.length : Int) - 1) (by omega) (by omega)]
  have e : ((S.length : Int) + 1).toNat = S.length + 1 := by omega
  rw [e]
  refine Ev.pos (by omega) (Ev.pos (by omega) (Ev.someb (Ev.pos (by omega) (Ev.pos (by rw [List.length_replicate]; omega) ?_))))
  rw [Int.toNat_natCast]
  refine key S.length (Nat.le_refl _) _ (by simp) (fun j hj hj' => ?_) (fun j hj => ?_)
  · obtain rfl : j = S.length := by omega
    rw [getD_set_self _ (by simp), List.drop_length, rdO_nil]
  · rw [getD_set_other _ (by omega), List.getD_eq_getElem?_getD, List.getElem?_replicate, if_pos (by omega)]; rfl

/-! fewer formulas have no more readings -/
def cnt (g : List Int → Int) (s : List Int) : List S55 → Int
  | [] => 0
  | f :: fs => (if isPre f.f0 s = true then g (s.drop f.f0.length) else 0) + cnt g s fs
theorem cnt_nn {g : List Int → Int} {s : List Int} : ∀ l : List S55, (∀ f ∈ l, isPre f.f0 s = true → 0 ≤ g (s.drop f.f0.length)) → 0 ≤ cnt g s l
  | [], _ => Int.le_refl _
  | f :: fs, h => by
    simp only [cnt]
    have h1 := cnt_nn fs (fun x hx => h x (List.mem_cons_of_mem _ hx))
    by_cases hp : isPre f.f0 s = true
    · rw [if_pos hp]; have := h f List.mem_cons_self hp; omega
    · rw [if_neg hp]; omega
theorem mA_cnt {g : List Int → Int} {s : List Int} : ∀ (l : List S55) (a : Int), (∀ f ∈ l, isPre f.f0 s = true → 0 ≤ g (s.drop f.f0.length)) → 0 ≤ a → a + cnt g s l ≤ 4611686018427387904 → mA g s l a = a + cnt g s l
  | [], a, _, _, _ => by simp [mA, cnt]
  | f :: fs, a, h, h0, hb => by
    simp only [mA, cnt] at hb ⊢
    have h' := fun x hx => h x (List.mem_cons_of_mem _ hx)
    have hn := cnt_nn fs h'
    by_cases hp : isPre f.f0 s = true
    · rw [if_pos hp] at hb ⊢
      rw [if_pos hp]
      have := h f List.mem_cons_self hp
      rw [w64 (by omega) (by omega), mA_cnt fs _ h' (by omega) (by omega)]
      omega
    · rw [if_neg hp] at hb ⊢
      rw [if_neg hp, mA_cnt fs _ h' h0 (by omega)]
      omega
theorem cnt_sum {g : List Int → Int} {s : List Int} : ∀ l : List S55, (∀ f ∈ l, isPre f.f0 s = true → g (s.drop f.f0.length) ≤ ((2 ^ (s.length - f.f0.length) : Nat) : Int)) → cnt g s l ≤ (sumB s l : Int)
  | [], _ => by simp [cnt, sumB]
  | f :: fs, h => by
    simp only [cnt, sumB]
    have h1 := cnt_sum fs (fun x hx => h x (List.mem_cons_of_mem _ hx))
    rw [Int.natCast_add]
    by_cases hp : isPre f.f0 s = true
    · rw [if_pos hp, if_pos hp]; have := h f List.mem_cons_self hp; omega
    · rw [if_neg hp, if_neg hp]; omega
theorem cnt_sub {g g' : List Int → Int} {s : List Int} {l' l : List S55} (hs : l'.Sublist l) (h : ∀ f ∈ l, isPre f.f0 s = true → 0 ≤ g (s.drop f.f0.length)) (h' : ∀ f ∈ l, isPre f.f0 s = true → g' (s.drop f.f0.length) ≤ g (s.drop f.f0.length)) : cnt g' s l' ≤ cnt g s l := by
  induction hs with
  | slnil => exact Int.le_refl _
  | @cons l1 l2 a hs ih =>
    have := ih (fun x hx => h x (List.mem_cons_of_mem _ hx)) (fun x hx => h' x (List.mem_cons_of_mem _ hx))
    simp only [cnt]
    by_cases hp : isPre a.f0 s = true
    · rw [if_pos hp]; have := h a List.mem_cons_self hp; omega
    · rw [if_neg hp]; omega
  | @cons_cons l1 l2 a hs ih =>
    have := ih (fun x hx => h x (List.mem_cons_of_mem _ hx)) (fun x hx => h' x (List.mem_cons_of_mem _ hx))
    simp only [cnt]
    by_cases hp : isPre a.f0 s = true
    · rw [if_pos hp, if_pos hp]; have := h' a List.mem_cons_self hp; omega
    · rw [if_neg hp, if_neg hp]; omega
theorem rdO_cnt {L : List S55} (hv : FsV L) {s : List Int} (hl : s.length ≤ 23) (hs : s ≠ []) : (rdO L s).f0 = cnt (fun t => (rdO L t).f0) s L := by
  have hb : ∀ f ∈ L, isPre f.f0 s = true → OBd (s.length - f.f0.length) (rdO L (s.drop f.f0.length)) := fun f _ hp => rdO_bd hv _ _ (by rw [List.length_drop]) (by have := isPre_len hp; omega)
  have e : (rdO L s).f0 = mA (fun t => (rdO L t).f0) s L 0 := by
    rw [rdO_step (fun f hf => (hv.one f hf).1) hs]
    exact rdA_many _ _ _ _ (by decide) (by decide)
  have h1 := cnt_sum (g := fun t => (rdO L t).f0) (s := s) L (fun f hf hp => (hb f hf hp).hi)
  have h2 := sumB_le (s := s) (fun f hf => (hv.one f hf).1) hv.pw
  have h3 : 2 ^ s.length ≤ 2 ^ 23 := Nat.pow_le_pow_right (by decide) hl
  have h4 : (2 : Nat) ^ 23 = 8388608 := by decide
  rw [e, mA_cnt L 0 (fun f hf hp => (hb f hf hp).lo) (by omega) (by omega)]
  omega
theorem many_mono {L L' : List S55} (hv : FsV L) (hv' : FsV L') (hsub : L'.Sublist L) : ∀ (n : Nat) (s : List Int), s.length ≤ n → s.length ≤ 23 → (rdO L' s).f0 ≤ (rdO L s).f0
  | 0, s, h, _ => by
    obtain rfl : s = [] := List.eq_nil_of_length_eq_zero (by omega)
    rw [rdO_nil, rdO_nil]; exact Int.le_refl _
  | n + 1, s, h, h' => by
    by_cases hs : s = []
    · subst hs; rw [rdO_nil, rdO_nil]; exact Int.le_refl _
    rw [rdO_cnt hv h' hs, rdO_cnt hv' h' hs]
    refine cnt_sub hsub (fun f hf hp => ?_) (fun f hf hp => ?_)
    · exact (rdO_bd hv _ (s.drop f.f0.length) rfl (by rw [List.length_drop]; omega)).lo
    · have := (hv.one f hf).1
      have := isPre_len hp
      exact many_mono hv hv' hsub n _ (by rw [List.length_drop]; omega) (by rw [List.length_drop]; omega)
theorem FsV.sub {L L' : List S55} (hv : FsV L) (hsub : L'.Sublist L) : FsV L' :=
  ⟨Nat.le_trans hsub.length_le hv.len, fun f hf => hv.one f (hsub.subset hf), fun f hf => hv.wt f (hsub.subset hf), hv.pw.sublist hsub⟩
theorem goF_of : ∀ (l acc : List S55), (∀ x ∈ l, fOk x = true) → (∀ a ∈ acc, ∀ b ∈ l, a.f0 ≠ b.f0) → l.Pairwise (fun a b => a.f0 ≠ b.f0) → goF acc l = true
  | [], _, _, _, _ => rfl
  | x :: xs, acc, h1, h2, h3 => by
    obtain ⟨p1, p2⟩ := List.pairwise_cons.1 h3
    simp only [goF, Bool.and_eq_true, Bool.not_eq_true', List.any_eq_false, beq_iff_eq]
    refine ⟨h1 x List.mem_cons_self, fun a ha => h2 a ha x List.mem_cons_self, goF_of xs (acc ++ [x]) (fun y hy => h1 y (List.mem_cons_of_mem _ hy)) (fun a ha b hb => ?_) p2⟩
    rcases List.mem_append.1 ha with ha | ha
    · exact h2 a ha b (List.mem_cons_of_mem _ hb)
    · rw [List.mem_singleton.1 ha]; exact p1 b hb
theorem fsOk_sub {L L' : List S55} (h : fsOk L = true) (hsub : L'.Sublist L) : fsOk L' = true := by
  have hv := FsV.of h
  have h8 := hsub.length_le
  have h9 := hv.len
  unfold fsOk
  rw [decide_eq_true (by omega), Bool.true_and]
  exact goF_of L' [] (fun x hx => fsOk_all h x (hsub.subset hx)) (by simp) (hv.pw.sublist hsub)

/-! two readings of one list: plain -/
def flatF : List S55 → List Int
  | [] => []
  | f :: r => f.f0 ++ flatF r
theorem cnt_mem {g : List Int → Int} {s : List Int} : ∀ (l : List S55) {f : S55}, (∀ f ∈ l, isPre f.f0 s = true → 0 ≤ g (s.drop f.f0.length)) → f ∈ l → isPre f.f0 s = true → g (s.drop f.f0.length) ≤ cnt g s l
  | x :: xs, f, h, hf, hp => by
    have h' := fun y hy => h y (List.mem_cons_of_mem _ hy)
    have hn := cnt_nn xs h'
    simp only [cnt]
    rcases List.mem_cons.1 hf with rfl | hf
    · rw [if_pos hp]; omega
    · have := cnt_mem xs h' hf hp
      by_cases hx : isPre x.f0 s = true
      · rw [if_pos hx]; have := h x List.mem_cons_self hx; omega
      · rw [if_neg hx]; omega
theorem cnt_two {g : List Int → Int} {s : List Int} : ∀ (l : List S55) {f f' : S55}, (∀ f ∈ l, isPre f.f0 s = true → 0 ≤ g (s.drop f.f0.length)) → f ∈ l → f' ∈ l → f.f0 ≠ f'.f0 → isPre f.f0 s = true → isPre f'.f0 s = true → g (s.drop f.f0.length) + g (s.drop f'.f0.length) ≤ cnt g s l
  | x :: xs, f, f', h, hf, hf', hne, hp, hp' => by
    have h' := fun y hy => h y (List.mem_cons_of_mem _ hy)
    simp only [cnt]
    rcases List.mem_cons.1 hf with rfl | hfx
    · rcases List.mem_cons.1 hf' with rfl | hfy
      · exact absurd rfl hne
      · have := cnt_mem xs h' hfy hp'
        rw [if_pos hp]; omega
    · rcases List.mem_cons.1 hf' with rfl | hfy
      · have := cnt_mem xs h' hfx hp
        rw [if_pos hp']; omega
      · have := cnt_two xs h' hfx hfy hne hp hp'
        by_cases hx : isPre x.f0 s = true
        · rw [if_pos hx]; have := h x List.mem_cons_self hx; omega
        · rw [if_neg hx]; omega
theorem cnt_pos {g : List Int → Int} {s : List Int} : ∀ (l : List S55), cnt g s l ≠ 0 → ∃ f ∈ l, isPre f.f0 s = true ∧ g (s.drop f.f0.length) ≠ 0
  | [], h => absurd rfl h
  | x :: xs, h => by
    simp only [cnt] at h
    by_cases hx : isPre x.f0 s = true
    · rw [if_pos hx] at h
      by_cases hz : g (s.drop x.f0.length) = 0
      · obtain ⟨f, hf, h1⟩ := cnt_pos (g := g) (s := s) xs (by omega)
        exact ⟨f, List.mem_cons_of_mem _ hf, h1⟩
      · exact ⟨x, List.mem_cons_self, hx, hz⟩
    · rw [if_neg hx] at h
      obtain ⟨f, hf, h1⟩ := cnt_pos (g := g) (s := s) xs (by omega)
      exact ⟨f, List.mem_cons_of_mem _ hf, h1⟩
theorem cnt_gt {g : List Int → Int} {s : List Int} : ∀ (l : List S55), (∀ f ∈ l, isPre f.f0 s = true → 0 ≤ g (s.drop f.f0.length)) → l.Pairwise (fun a b => a.f0 ≠ b.f0) → 1 < cnt g s l →
    (∃ f ∈ l, isPre f.f0 s = true ∧ 1 < g (s.drop f.f0.length)) ∨ (∃ f ∈ l, ∃ f' ∈ l, f.f0 ≠ f'.f0 ∧ isPre f.f0 s = true ∧ isPre f'.f0 s = true ∧ g (s.drop f.f0.length) ≠ 0 ∧ g (s.drop f'.f0.length) ≠ 0)
  | [], _, _, h => absurd h (by simp [cnt])
  | x :: xs, h0, hp, h => by
    obtain ⟨p1, p2⟩ := List.pairwise_cons.1 hp
    have h' := fun y hy => h0 y (List.mem_cons_of_mem _ hy)
    have tl : 1 < cnt g s xs → (∃ f ∈ x :: xs, isPre f.f0 s = true ∧ 1 < g (s.drop f.f0.length)) ∨ (∃ f ∈ x :: xs, ∃ f' ∈ x :: xs, f.f0 ≠ f'.f0 ∧ isPre f.f0 s = true ∧ isPre f'.f0 s = true ∧ g (s.drop f.f0.length) ≠ 0 ∧ g (s.drop f'.f0.length) ≠ 0) := by
      intro h
      rcases cnt_gt xs h' p2 h with ⟨f, hf, h1⟩ | ⟨f, hf, f', hf', h1⟩
      · exact .inl ⟨f, List.mem_cons_of_mem _ hf, h1⟩
      · exact .inr ⟨f, List.mem_cons_of_mem _ hf, f', List.mem_cons_of_mem _ hf', h1⟩
    simp only [cnt] at h
    by_cases hx : isPre x.f0 s = true
    · rw [if_pos hx] at h
      have hv := h0 x List.mem_cons_self hx
      by_cases h1 : 1 < g (s.drop x.f0.length)
      · exact .inl ⟨x, List.mem_cons_self, hx, h1⟩
      by_cases hz : g (s.drop x.f0.length) = 0
      · exact tl (by omega)
      · obtain ⟨f, hf, h2, h3⟩ := cnt_pos (g := g) (s := s) xs (by omega)
        exact .inr ⟨x, List.mem_cons_self, f, List.mem_cons_of_mem _ hf, p1 f hf, hx, h2, hz, h3⟩
    · rw [if_neg hx] at h
      exact tl (by omega)
theorem nn_of {L : List S55} (hv : FsV L) {s : List Int} (hs : s.length ≤ 23) : ∀ f ∈ L, isPre f.f0 s = true → 0 ≤ (rdO L (s.drop f.f0.length)).f0 :=
  fun f _ _ => (rdO_bd hv _ (s.drop f.f0.length) rfl (by rw [List.length_drop]; omega)).lo
theorem isPre_split {p s : List Int} (h : isPre p s = true) : p ++ s.drop p.length = s := by
  have := isPre_take h
  conv => rhs; rw [← List.take_append_drop p.length s, this]
theorem has_reading {L : List S55} (hv : FsV L) : ∀ (n : Nat) (s : List Int), s.length ≤ n → s.length ≤ 23 → (rdO L s).f0 ≠ 0 → ∃ r : List S55, (∀ f ∈ r, f ∈ L) ∧ flatF r = s
  | 0, s, h, _, _ => ⟨[], by simp, by rw [List.eq_nil_of_length_eq_zero (show s.length = 0 by omega)]; rfl⟩
  | n + 1, s, h, h', hz => by
    by_cases hs : s = []
    · exact ⟨[], by simp, by rw [hs]; rfl⟩
    rw [rdO_cnt hv h' hs] at hz
    obtain ⟨f, hf, hp, h1⟩ := cnt_pos L hz
    have := (hv.one f hf).1
    have := isPre_len hp
    obtain ⟨r, h2, h3⟩ := has_reading hv n (s.drop f.f0.length) (by rw [List.length_drop]; omega) (by rw [List.length_drop]; omega) h1
    refine ⟨f :: r, fun x hx => ?_, ?_⟩
    · rcases List.mem_cons.1 hx with rfl | hx
      · exact hf
      · exact h2 x hx
    · simp only [flatF]; rw [h3]; exact isPre_split hp
theorem isPre_app (p s : List Int) : isPre p (p ++ s) = true := by unfold isPre; simp
theorem reading_many {L : List S55} (hv : FsV L) : ∀ r : List S55, (∀ f ∈ r, f ∈ L) → (flatF r).length ≤ 23 → 1 ≤ (rdO L (flatF r)).f0
  | [], _, _ => by simp only [flatF]; rw [rdO_nil]; decide
  | f :: r, h, hl => by
    have hf := h f List.mem_cons_self
    have h1 := (hv.one f hf).1
    simp only [flatF] at hl ⊢
    have hl' := hl
    rw [List.length_append] at hl'
    have ih := reading_many hv r (fun x hx => h x (List.mem_cons_of_mem _ hx)) (by omega)
    rw [rdO_cnt hv hl (by intro e; have := congrArg List.length e; rw [List.length_append, List.length_nil] at this; omega)]
    have := cnt_mem (g := fun t => (rdO L t).f0) L (nn_of hv hl) hf (isPre_app f.f0 (flatF r))
    simp only [List.drop_left] at this
    omega
theorem diverge {L : List S55} (hv : FsV L) : ∀ (n : Nat) (s : List Int), s.length ≤ n → s.length ≤ 23 → 1 < (rdO L s).f0 → ∃ f ∈ L, ∃ f' ∈ L, f.f0 ≠ f'.f0 ∧ ∃ r r' : List S55, (∀ x ∈ r, x ∈ L) ∧ (∀ x ∈ r', x ∈ L) ∧ f.f0 ++ flatF r = f'.f0 ++ flatF r' ∧ (f.f0 ++ flatF r).length ≤ s.length
  | 0, s, h, _, hz => by
    rw [List.eq_nil_of_length_eq_zero (show s.length = 0 by omega), rdO_nil] at hz
    exact absurd hz (by decide)
  | n + 1, s, h, h', hz => by
    by_cases hs : s = []
    · rw [hs, rdO_nil] at hz
      exact absurd hz (by decide)
    rw [rdO_cnt hv h' hs] at hz
    rcases cnt_gt L (nn_of hv h') hv.pw hz with ⟨f, hf, hp, h1⟩ | ⟨f, hf, f', hf', hne, hp, hp', h1, h2⟩
    · have := (hv.one f hf).1
      have := isPre_len hp
      obtain ⟨a, ha, b, hb, hab, r, r', h3, h4, h5, h6⟩ := diverge hv n (s.drop f.f0.length) (by rw [List.length_drop]; omega) (by rw [List.length_drop]; omega) h1
      exact ⟨a, ha, b, hb, hab, r, r', h3, h4, h5, by rw [List.length_drop] at h6; omega⟩
    · obtain ⟨r, h3, h4⟩ := has_reading hv _ (s.drop f.f0.length) (Nat.le_refl _) (by rw [List.length_drop]; omega) h1
      obtain ⟨r', h5, h6⟩ := has_reading hv _ (s.drop f'.f0.length) (Nat.le_refl _) (by rw [List.length_drop]; omega) h2
      have e1 : f.f0 ++ flatF r = s := by rw [h4]; exact isPre_split hp
      have e2 : f'.f0 ++ flatF r' = s := by rw [h6]; exact isPre_split hp'
      exact ⟨f, hf, f', hf', hne, r, r', h3, h5, by rw [e1, e2], by rw [e1]; exact Nat.le_refl _⟩
theorem meets_complete {L : List S55} (hv : FsV L) (most : Int) : ∀ (N : Nat) (r1 r2 : List S55) (a : List Int) (len : Int) (n : Nat), (flatF r1).length + (flatF r2).length ≤ N → (∀ f ∈ r1, f ∈ L) → (∀ f ∈ r2, f ∈ L) → a ≠ [] → a.length ≤ 5 → flatF r2 = a ++ flatF r1 → len + ((flatF r1).length : Int) ≤ most → (most - len) * 6 + (a.length : Int) < n → meetsP L most n a len = true := by
  intro N
  induction N using Nat.strongRecOn with
  | _ N IH =>
    intro r1 r2 a len n hN h1 h2 ha ha5 he hlen hn
    have hal := List.length_pos_iff.2 ha
    cases r2 with
    | nil =>
      simp only [flatF] at he
      have := congrArg List.length he
      rw [List.length_append, List.length_nil] at this
      omega
    | cons f r2 =>
      have hf := h2 f List.mem_cons_self
      have hfl := hv.one f hf
      have h2' : ∀ x ∈ r2, x ∈ L := fun x hx => h2 x (List.mem_cons_of_mem _ hx)
      simp only [flatF, List.length_append] at he hN
      obtain ⟨n, rfl⟩ : ∃ m, n = m + 1 := ⟨n - 1, by omega⟩
      simp only [meetsP]
      rw [List.any_eq_true]
      refine ⟨f, hf, ?_⟩
      unfold meetsF
      by_cases hfa : f.f0 = a
      · simp [hfa]
      rw [beq_eq_false_iff_ne.2 hfa, Bool.false_or]
      rcases List.append_eq_append_iff.1 he with ⟨a', e1, e2⟩ | ⟨c', e1, e2⟩
      · have hp : isPre f.f0 a = true := by rw [e1]; exact isPre_app _ _
        have hd : a.drop f.f0.length = a' := by rw [e1, List.drop_left]
        have hl := congrArg List.length e1
        rw [List.length_append] at hl
        rw [if_pos hp, hd]
        exact IH ((flatF r1).length + (flatF r2).length) (by omega) r1 r2 a' len n (Nat.le_refl _) h1 h2' (fun h => hfa (by rw [e1, h, List.append_nil])) (by omega) e2 hlen (by omega)
      · have hl := congrArg List.length e1
        rw [List.length_append] at hl
        have hc : c' ≠ [] := fun h => hfa (by rw [e1, h, List.append_nil])
        have hcl := List.length_pos_iff.2 hc
        have hp : ¬ isPre f.f0 a = true := fun h => by have := isPre_len h; omega
        have hq : isPre a f.f0 = true := by rw [e1]; exact isPre_app _ _
        have hd : f.f0.drop a.length = c' := by rw [e1, List.drop_left]
        have hl2 := congrArg List.length e2
        rw [List.length_append] at hl2
        rw [if_neg hp, hq, Bool.true_and, decide_eq_true (by omega), Bool.true_and, hd]
        exact IH ((flatF r2).length + (flatF r1).length) (by omega) r2 r1 c' (len + (f.f0.length : Int) - (a.length : Int)) n (Nat.le_refl _) h2' h1 hc (by omega) e2 (by omega) (by omega)
theorem meets_sound {L : List S55} (most : Int) : ∀ (n : Nat) (a : List Int) (len : Int), meetsP L most n a len = true → len ≤ most → ∃ r1 r2 : List S55, (∀ f ∈ r1, f ∈ L) ∧ (∀ f ∈ r2, f ∈ L) ∧ flatF r2 = a ++ flatF r1 ∧ len + ((flatF r1).length : Int) ≤ most
  | 0, a, len, h, _ => by simp [meetsP] at h
  | n + 1, a, len, h, hlen => by
    simp only [meetsP] at h
    rw [List.any_eq_true] at h
    obtain ⟨f, hf, h⟩ := h
    unfold meetsF at h
    rw [Bool.or_eq_true] at h
    have cons_in : ∀ {r : List S55}, (∀ x ∈ r, x ∈ L) → ∀ x ∈ f :: r, x ∈ L := by
      intro r hr x hx
      rcases List.mem_cons.1 hx with rfl | hx
      · exact hf
      · exact hr x hx
    rcases h with h | h
    · have e : f.f0 = a := by simpa using h
      exact ⟨[], [f], by simp, cons_in (by simp), by simp [flatF, e], by simp [flatF]; exact hlen⟩
    · by_cases hp : isPre f.f0 a = true
      · rw [if_pos hp] at h
        obtain ⟨r1, r2, h1, h2, h3, h4⟩ := meets_sound most n _ _ h hlen
        refine ⟨r1, f :: r2, h1, cons_in h2, ?_, h4⟩
        simp only [flatF]
        rw [h3, ← List.append_assoc, isPre_split hp]
      · rw [if_neg hp, Bool.and_eq_true, Bool.and_eq_true, decide_eq_true_eq] at h
        obtain ⟨hq, hc, h⟩ := h
        obtain ⟨r1, r2, h1, h2, h3, h4⟩ := meets_sound most n _ _ h hc
        refine ⟨r2, f :: r1, h2, cons_in h1, ?_, ?_⟩
        · simp only [flatF]
          rw [h3, ← List.append_assoc, isPre_split hq]
        · have hl := congrArg List.length h3
          rw [List.length_append, List.length_drop] at hl
          have := isPre_len hq
          omega
theorem hitRow_iff {L : List S55} {n : Int} {i : Nat} {f : S55} : ∀ (l : List S55) (k : Nat), hitRow L n i f k l = true ↔ ∃ q, ∃ h : q < l.length, hitOne L n i f (k + q) l[q] = true
  | [], k => by simp [hitRow]
  | g :: gs, k => by
    simp only [hitRow, Bool.or_eq_true]
    rw [hitRow_iff gs (k + 1)]
    constructor
    · rintro (h | ⟨q, hq, h⟩)
      · exact ⟨0, by simp, h⟩
      · refine ⟨q + 1, by simpa using hq, ?_⟩
        rw [show k + (q + 1) = k + 1 + q by omega]
        simpa using h
    · rintro ⟨q, hq, h⟩
      cases q with
      | zero => exact .inl h
      | succ q =>
        refine .inr ⟨q, by simpa using hq, ?_⟩
        rw [show k + 1 + q = k + (q + 1) by omega]
        simpa using h
theorem hitAll_iff {L : List S55} {n : Int} : ∀ (l : List S55) (i : Nat), hitAll L n i l = true ↔ ∃ p, ∃ h : p < l.length, hitRow L n (i + p) l[p] 0 L = true
  | [], i => by simp [hitAll]
  | f :: fs, i => by
    simp only [hitAll, Bool.or_eq_true]
    rw [hitAll_iff fs (i + 1)]
    constructor
    · rintro (h | ⟨q, hq, h⟩)
      · exact ⟨0, by simp, h⟩
      · refine ⟨q + 1, by simpa using hq, ?_⟩
        rw [show i + (q + 1) = i + 1 + q by omega]
        simpa using h
    · rintro ⟨q, hq, h⟩
      cases q with
      | zero => exact .inl h
      | succ q =>
        refine .inr ⟨q, by simpa using hq, ?_⟩
        rw [show i + 1 + q = i + (q + 1) by omega]
        simpa using h
def twoP (L : List S55) (n : Int) : Nat → List Int → Bool
  | 0, _ => false
  | m + 1, s => decide (1 < (rdO L s).f0) || L.any (fun f => decide (((s ++ f.f0).length : Int) ≤ n) && twoP L n m (s ++ f.f0))
theorem twoP_iff {L : List S55} (hv : FsV L) (n : Int) : ∀ (m : Nat) (s : List Int), (s.length : Int) ≤ n → n - (s.length : Int) < m → (twoP L n m s = true ↔ ∃ r : List S55, (∀ f ∈ r, f ∈ L) ∧ ((s ++ flatF r).length : Int) ≤ n ∧ 1 < (rdO L (s ++ flatF r)).f0)
  | 0, s, h, h' => absurd h' (by omega)
  | m + 1, s, h, h' => by
    simp only [twoP]
    rw [Bool.or_eq_true, decide_eq_true_eq, List.any_eq_true]
    constructor
    · rintro (h1 | ⟨f, hf, h1⟩)
      · exact ⟨[], by simp, by simpa [flatF] using h, by simpa [flatF] using h1⟩
      · rw [Bool.and_eq_true, decide_eq_true_eq] at h1
        have hfl := (hv.one f hf).1
        obtain ⟨r, h2, h3, h4⟩ := (twoP_iff hv n m (s ++ f.f0) h1.1 (by rw [List.length_append]; omega)).1 h1.2
        refine ⟨f :: r, fun x hx => ?_, ?_, ?_⟩
        · rcases List.mem_cons.1 hx with rfl | hx
          · exact hf
          · exact h2 x hx
        · simp only [flatF]; rwa [← List.append_assoc]
        · simp only [flatF]; rwa [← List.append_assoc]
    · rintro ⟨r, h1, h2, h3⟩
      cases r with
      | nil => exact .inl (by simpa [flatF] using h3)
      | cons f r =>
        simp only [flatF] at h2 h3
        rw [← List.append_assoc] at h2 h3
        have hf := h1 f List.mem_cons_self
        have hfl := (hv.one f hf).1
        have hb : ((s ++ f.f0).length : Int) ≤ n := by have e9 := (List.length_append : ((s ++ f.f0) ++ flatF r).length = _); omega
        refine .inr ⟨f, hf, ?_⟩
        rw [Bool.and_eq_true, decide_eq_true_eq]
        exact ⟨hb, (twoP_iff hv n m (s ++ f.f0) hb (by rw [List.length_append]; omega)).2 ⟨r, fun x hx => h1 x (List.mem_cons_of_mem _ hx), h2, h3⟩⟩
theorem hit_two {L : List S55} (hv : FsV L) {n : Int} (hn0 : 0 ≤ n) (hn : n ≤ 5) : hitAll L n 0 L = twoP L n 6 [] := by
  rw [Bool.eq_iff_iff, twoP_iff hv n 6 [] (by simpa using hn0) (by simp; omega), hitAll_iff]
  have gt : ∀ j (hj : j < L.length), L[j] = rd_T55 L (j : Int) := by
    intro j hj
    unfold rd_T55
    rw [Int.toNat_natCast, List.getD_eq_getElem?_getD, List.getElem?_eq_getElem hj]; rfl
  constructor
  · rintro ⟨p, hp, h⟩
    obtain ⟨q, hq, h⟩ := (hitRow_iff L 0).1 h
    rw [Nat.zero_add, Nat.zero_add] at h
    unfold hitOne at h
    simp only [Bool.and_eq_true, Bool.not_eq_true', decide_eq_false_iff_not, decide_eq_true_eq] at h
    obtain ⟨h1, h2, h3, h4⟩ := h
    have hpi := List.getElem_mem hp
    have hqi := List.getElem_mem hq
    have hne := pw_ne hv hp hq h1
    rw [← gt p hp, ← gt q hq] at hne
    generalize L[p] = f at h2 h3 h4 hpi hne
    generalize L[q] = g at h2 h3 h4 hqi hne
    obtain ⟨r1, r2, k1, k2, k3, k4⟩ := meets_sound n 40 _ _ h4 h2
    have e : f.f0 ++ flatF r2 = g.f0 ++ flatF r1 := by rw [k3, ← List.append_assoc, isPre_split h3]
    have hl : (g.f0 ++ flatF r1).length ≤ 5 := by rw [List.length_append]; omega
    have hle := congrArg List.length e
    rw [List.length_append] at hle
    have hl' := hl
    rw [List.length_append] at hl'
    have hg1 := (hv.one g hqi).1
    refine ⟨g :: r1, fun x hx => ?_, ?_, ?_⟩
    · rcases List.mem_cons.1 hx with rfl | hx
      · exact hqi
      · exact k1 x hx
    · simp only [flatF, List.nil_append]; rw [List.length_append]; omega
    · simp only [flatF, List.nil_append]
      rw [rdO_cnt hv (by omega) (by intro e0; have := congrArg List.length e0; rw [List.length_append, List.length_nil] at this; omega)]
      have h5 := cnt_two (g := fun t => (rdO L t).f0) (s := g.f0 ++ flatF r1) L (nn_of hv (by omega)) hqi hpi (fun h => hne h.symm) (isPre_app _ _) (by rw [← e]; exact isPre_app _ _)
      have h6 : (g.f0 ++ flatF r1).drop f.f0.length = flatF r2 := by rw [← e, List.drop_left]
      rw [h6, List.drop_left] at h5
      have h7 := reading_many hv r1 k1 (by omega)
      have h8 := reading_many hv r2 k2 (by omega)
      omega
  · rintro ⟨r, h1, h2, h3⟩
    rw [List.nil_append] at h2 h3
    obtain ⟨f, hf, g, hg, hne, r1, r2, k1, k2, k3, k4⟩ := diverge hv _ (flatF r) (Nat.le_refl _) (by omega) h3
    -- the shorter one first
    have key : ∀ (f g : S55) (r1 r2 : List S55), f ∈ L → g ∈ L → f.f0 ≠ g.f0 → (∀ x ∈ r1, x ∈ L) → (∀ x ∈ r2, x ∈ L) → f.f0 ++ flatF r1 = g.f0 ++ flatF r2 → ((g.f0 ++ flatF r2).length : Int) ≤ n → (∃ c', g.f0 = f.f0 ++ c' ∧ flatF r1 = c' ++ flatF r2) → ∃ p, ∃ h : p < L.length, hitRow L n (0 + p) L[p] 0 L = true := by
      rintro f g r1 r2 hf hg hne k1 k2 k3 k4 ⟨c', e1, e2⟩
      obtain ⟨p, hp, rfl⟩ := List.getElem_of_mem hf
      obtain ⟨q, hq, rfl⟩ := List.getElem_of_mem hg
      refine ⟨p, hp, (hitRow_iff L 0).2 ⟨q, hq, ?_⟩⟩
      rw [Nat.zero_add, Nat.zero_add]
      have hc : c' ≠ [] := fun h => hne (by rw [e1, h, List.append_nil])
      have hg5 := hv.one _ hg
      have hl := congrArg List.length e1
      rw [List.length_append] at hl
      rw [List.length_append] at k4
      unfold hitOne
      simp only [Bool.and_eq_true, Bool.not_eq_true', decide_eq_false_iff_not, decide_eq_true_eq]
      refine ⟨fun h => hne (by simp only [h]), by omega, by rw [e1]; exact isPre_app _ _, ?_⟩
      have hd : L[q].f0.drop L[p].f0.length = c' := by rw [e1, List.drop_left]
      rw [hd]
      exact meets_complete hv n _ r2 r1 c' _ 40 (Nat.le_refl _) k2 k1 hc (by omega) e2 (by omega) (by omega)
    have k5 : ((f.f0 ++ flatF r1).length : Int) ≤ n := by omega
    rcases List.append_eq_append_iff.1 k3 with ⟨c', e1, e2⟩ | ⟨c', e1, e2⟩
    · exact key f g r1 r2 hf hg hne k1 k2 k3 (by rw [← k3]; exact k5) ⟨c', e1, e2⟩
    · exact key g f r2 r1 hg hf (fun h => hne h.symm) k2 k1 k3.symm k5 ⟨c', e1, e2⟩

theorem spec_l6fTwo_ev {L : List S55} (hv : FsV L) (n : Int) (hn : n ≤ 5) : ∀ (m : Nat) (s : List Int), (s.length : Int) ≤ n → n - (s.length : Int) < m → Ev (fun k => spec_l6fTwo.f k L s n) (twoP L n m s)
  | 0, s, h, h' => absurd h' (by omega)
  | m + 1, s, h, h' => by
    have hll := hv.len
    refine Ev.succ ?_
    simp only [spec_l6fTwo.f, twoP]
    refine Ev.bind (spec_l6fWays_ev hv.one hv.len (by omega)) (Ev.pos (by rw [waysL_len]; omega) ?_)
    have e0 : rd (waysL L s) 0 = (rdO L s).f0 := by
      show (waysL L s).getD 0 0 = _
      rw [waysL_get (Nat.zero_le _), List.drop_zero]
    rw [e0]
    by_cases h1 : (rdO L s).f0 > 1
    · refine Ev.pos h1 (Ev.eqr (Ev.now _) ?_)
      rw [decide_eq_true (show 1 < (rdO L s).f0 from h1)]; rfl
    refine Ev.neg h1 ?_
    rw [decide_eq_false (show ¬ 1 < (rdO L s).f0 from h1), Bool.false_or]
    have := Ev.over z55 L (fun k (_ : Unit) q => spec_l6fTwo.l0 k L s n q) (fun _ rest => rest.any (fun f => decide (((s ++ f.f0).length : Int) ≤ n) && twoP L n m (s ++ f.f0))) (fun _ _ => True) (by
      intro _ _
      refine Ev.succ ?_
      simp only [spec_l6fTwo.l0]
      exact Ev.neg (by omega) (Ev.now _)) (by
      intro _ q rest _ hq hdr ih
      have ih := ih () trivial
      have hm : rd_T55 L (q : Int) ∈ L := rd_mem (by omega) (by omega)
      have hf := hv.one _ hm
      have hrd : L.getD q z55 = rd_T55 L (q : Int) := rfl
      rw [hrd, List.any_cons]
      refine Ev.succ ?_
      simp only [spec_l6fTwo.l0]
      rw [w64 (x := (q : Int) + 1) (by omega) (by omega)]
      generalize rd_T55 L (q : Int) = f at hf hm
      refine Ev.pos (by omega) (Ev.someb (Ev.pos (by simp; omega) (Ev.someb (Ev.pos (by omega) (Ev.pos (by simp; omega) (Ev.someb ?_))))))
      rw [List.nil_append]
      by_cases hc : ((s ++ f.f0).length : Int) ≤ n
      · refine Ev.pos hc (Ev.bind (spec_l6fTwo_ev hv n hn m (s ++ f.f0) hc (by rw [List.length_append]; omega)) ?_)
        rw [decide_eq_true hc, Bool.true_and]
        cases twoP L n m (s ++ f.f0)
        · exact Ev.neg (by simp) (Ev.eqr ih (by simp))
        · exact Ev.pos rfl (Ev.eqr (Ev.now _) (by simp))
      · refine Ev.neg hc (Ev.eqr ih ?_)
        rw [decide_eq_false hc]; simp) 0 () (Nat.zero_le _) trivial
    simpa using this
theorem spec_FormulasClear_ev (L : List S55) (n : Int) (hll : L.length ≤ 1000000000000) (hl : ∀ x ∈ L, x.f0.length ≤ 1000000000000) : Ev (fun k => spec_FormulasClear.f k L n) (clearI L n) := by
  unfold spec_FormulasClear.f clearI
  refine Ev.bind (spec_FormulasValid_ev L hll hl) ?_
  cases hok : fsOk L
  · exact Ev.neg (by simp) (Ev.eqr (Ev.now _) (by simp))
  refine Ev.pos rfl (Ev.conb (spec_l6In_eq _ _ _) ?_)
  by_cases hn : 0 ≤ n ∧ n ≤ 5
  · rw [decide_eq_true hn]
    have hv := FsV.of hok
    refine Ev.pos rfl (Ev.bind (spec_l6fTwo_ev hv n hn.2 6 [] (by simpa using hn.1) (by simp; omega)) (Ev.eqr (Ev.now _) ?_))
    rw [hit_two hv hn.1 hn.2]; simp
  · rw [decide_eq_false hn]
    exact Ev.neg (by simp) (Ev.eqr (Ev.now _) (by simp))

theorem clear_iff {L : List S55} (hF : fsOk L = true) {n : Int} : clearI L n = true ↔ (0 ≤ n ∧ n ≤ 5) ∧ ∀ r : List S55, (∀ f ∈ r, f ∈ L) → ((flatF r).length : Int) ≤ n → (rdO L (flatF r)).f0 ≤ 1 := by
  have hv := FsV.of hF
  unfold clearI
  rw [hF, Bool.true_and, Bool.and_eq_true, decide_eq_true_eq, Bool.not_eq_true']
  constructor
  · rintro ⟨h, h'⟩
    refine ⟨h, fun r hr hl => ?_⟩
    rw [hit_two hv h.1 h.2] at h'
    refine Int.not_lt.1 (fun h3 => ?_)
    have := (twoP_iff hv n 6 [] (by simpa using h.1) (by simp; omega)).2 ⟨r, hr, by rw [List.nil_append]; exact hl, by rw [List.nil_append]; exact h3⟩
    rw [this] at h'; cases h'
  · rintro ⟨h, h'⟩
    refine ⟨h, ?_⟩
    rw [hit_two hv h.1 h.2]
    cases h5 : twoP L n 6 [] with
    | false => rfl
    | true =>
      obtain ⟨r, h1, h2, h3⟩ := (twoP_iff hv n 6 [] (by simpa using h.1) (by simp; omega)).1 h5
      rw [List.nil_append] at h2 h3
      have := h' r h1 h2
      omega
theorem clear_sub {L O : List S55} (hF : fsOk L = true) (hsub : O.Sublist L) {n : Int} (h : clearI L n = true) : clearI O n = true := by
  obtain ⟨hn, h1⟩ := (clear_iff hF).1 h
  have hO := fsOk_sub hF hsub
  refine (clear_iff hO).2 ⟨hn, fun r hr hl => ?_⟩
  have h2 := h1 r (fun f hf => hsub.subset (hr f hf)) hl
  have h3 := many_mono (FsV.of hF) (FsV.of hO) hsub _ (flatF r) (Nat.le_refl _) (by omega)
  omega
theorem clear_less {L : List S55} (hF : fsOk L = true) {n : Int} (h : clearI L n = true) (h0 : n ≠ 0) : clearI L (n - 1) = true := by
  obtain ⟨hn, h1⟩ := (clear_iff hF).1 h
  exact (clear_iff hF).2 ⟨by omega, fun r hr hl => h1 r hr (by omega)⟩
theorem clear_one {L : List S55} (hF : fsOk L = true) {n : Int} (h : clearI L n = true) {r : List S55} (hr : ∀ f ∈ r, f ∈ L) (hl : ((flatF r).length : Int) ≤ n) : (rdO L (flatF r)).f0 = 1 := by
  obtain ⟨hn, h1⟩ := (clear_iff hF).1 h
  have h2 := h1 r hr hl
  have h3 := reading_many (FsV.of hF) r hr (by omega)
  omega

/-! readings, plain -/
def okIx (L : List S55) (r : List Int) : Prop := ∀ i ∈ r, 0 ≤ i ∧ i < (L.length : Int)
def flatR (L : List S55) : List Int → List Int
  | [] => []
  | i :: r => (rd_T55 L i).f0 ++ flatR L r
def sumW (L : List S55) : List Int → Int
  | [] => 0
  | i :: r => (rd_T55 L i).f1 + sumW L r
theorem flatR_app (L : List S55) : ∀ a b, flatR L (a ++ b) = flatR L a ++ flatR L b
  | [], b => rfl
  | i :: a, b => by simp only [List.cons_append, flatR]; rw [flatR_app L a b, List.append_assoc]
theorem goB_of {L : List S55} : ∀ (r acc : List Int), okIx L r → (acc ++ flatR L r).length ≤ 23 → goB L acc r = (acc ++ flatR L r, true)
  | [], acc, _, _ => by simp [goB, flatR]
  | i :: r, acc, h, hl => by
    have hi := h i List.mem_cons_self
    simp only [flatR] at hl ⊢
    simp only [goB]
    rw [if_neg (by rw [List.length_append, List.length_append] at hl; omega), goB_of r _ (fun j hj => h j (List.mem_cons_of_mem _ hj)) (by rw [List.append_assoc]; exact hl), List.append_assoc]
theorem goB_inv {L : List S55} : ∀ (r acc : List Int), acc.length ≤ 23 → (goB L acc r).2 = true → okIx L r ∧ (acc ++ flatR L r).length ≤ 23
  | [], acc, hl, _ => ⟨fun i hi => by simp at hi, by simpa [flatR] using hl⟩
  | i :: r, acc, hl, h => by
    simp only [goB] at h
    by_cases hc : i < 0 ∨ (L.length : Int) ≤ i ∨ acc.length + (rd_T55 L i).f0.length > 23
    · rw [if_pos hc] at h; cases h
    · rw [if_neg hc] at h
      obtain ⟨h1, h2⟩ := goB_inv r _ (by rw [List.length_append]; omega) h
      refine ⟨fun j hj => ?_, by simp only [flatR]; rw [← List.append_assoc]; exact h2⟩
      rcases List.mem_cons.1 hj with rfl | hj
      · omega
      · exact h1 j hj
theorem fbuild_of {L : List S55} {r : List Int} (hv : fsOk L = true) (h : okIx L r) (hl : (flatR L r).length ≤ 23) : fbuild L r = (flatR L r, true) := by
  unfold fbuild
  rw [if_pos hv, goB_of r [] h (by simpa using hl)]; simp
theorem fbuild_inv {L : List S55} {r : List Int} (h : (fbuild L r).2 = true) : fsOk L = true ∧ okIx L r ∧ (flatR L r).length ≤ 23 ∧ (fbuild L r).1 = flatR L r := by
  have hv : fsOk L = true := by
    unfold fbuild at h
    by_cases hv : fsOk L = true
    · exact hv
    · rw [if_neg hv] at h; cases h
  have h' : (goB L [] r).2 = true := by unfold fbuild at h; rw [if_pos hv] at h; exact h
  obtain ⟨h1, h2⟩ := goB_inv r [] (by simp) h'
  have h2 : (flatR L r).length ≤ 23 := by simpa using h2
  exact ⟨hv, h1, h2, by rw [fbuild_of hv h1 h2]⟩
theorem flat_in {L : List S55} (hv : fsOk L = true) : ∀ (r : List Int), okIx L r → (flatR L r).all (inR (-20) 20) = true
  | [], _ => rfl
  | i :: r, h => by
    have hi := h i List.mem_cons_self
    have hf := fsOk_all hv _ (rd_mem hi.1 hi.2)
    simp only [flatR, List.all_append, Bool.and_eq_true]
    refine ⟨?_, flat_in hv r (fun j hj => h j (List.mem_cons_of_mem _ hj))⟩
    unfold fOk at hf
    simp only [Bool.and_eq_true] at hf
    rw [List.all_eq_true]
    intro x hx
    have := List.all_eq_true.1 hf.2.1 x hx
    unfold inR at this ⊢
    simp at this ⊢
    omega
theorem okR_flat {L : List S55} {r : List Int} (hv : fsOk L = true) (h : okIx L r) (hl : (flatR L r).length ≤ 23) : okR L (flatR L r) = true := by
  unfold okR
  rw [hv, flat_in hv r h, decide_eq_true hl]; rfl

theorem isz_bd : ∀ l : List S55, (∀ x ∈ l, x.f0.length ≤ 3) → isz l ≤ 3 * (l.length : Int)
  | [], _ => by simp [isz]
  | x :: xs, h => by
    have h1 := isz_bd xs (fun y hy => h y (List.mem_cons_of_mem _ hy))
    have h2 := h x List.mem_cons_self
    simp only [isz, List.length_cons]
    omega

theorem drawClear_ev (l0 : List Int) (hw : ∀ x ∈ l0, (Lit.int .u8 x).wf = true) : Evx (fun k => spec_DrawFormulasClear.f k l0) (fun r => DrF r.1) := by
  obtain ⟨s, h1, hc⟩ := open_ev l0 hw
  unfold spec_DrawFormulasClear.f
  refine Evx.conb h1 (Evx.bind (drawFormulas_ev hc 0 (by omega) (by omega)) ?_)
  rintro ⟨L, q⟩ ⟨hD, hq, hq'⟩
  have hD : DrF L := hD
  have hq : 0 ≤ q := hq
  have hq' : q ≤ 0 + 53 := hq'
  refine Evx.bind (pick_ev hc q 7 hq (by omega)) ?_
  rintro ⟨u, q1⟩ ⟨_, _, rfl⟩
  refine Evx.bind (pick_ev hc (q + 1) 12 (by omega) (by omega)) ?_
  rintro ⟨u', q2⟩ _
  exact Evx.now hD

end Go.Proofs.Ytnemcppllfmioaa.Pure
