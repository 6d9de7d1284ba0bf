/- Lemmas for the law FnReadMelody. -/
import Derived.Test.YtnemcppllfmioaaSFnReadMelodys4
namespace Go.Proofs.Ytnemcppllfmioaa.Pure
set_option linter.unusedVariables false
set_option linter.unusedSimpArgs false
open Go Go.RowKit Go.Proofs.Ytnemcppllfmioaa.PFnReadMelody Go.Proofs.YtnemcppllfmioaaW.PrintWords Go.Proofs.YtnemcppllfmioaaW.PrintLast Go.Proofs.YtnemcppllfmioaaW.PrintMore

theorem goF_pw : ∀ {l acc : List S55}, goF acc l = true → (∀ a ∈ acc, ∀ b ∈ l, a.f0 ≠ b.f0) ∧ l.Pairwise (fun a b => a.f0 ≠ b.f0)
 | [], acc, _ => ⟨by simp, List.Pairwise.nil⟩
 | x :: xs, acc, h => by
  simp only [goF, Bool.and_eq_true, Bool.not_eq_true', List.any_eq_false, beq_iff_eq] at h
  obtain ⟨_, h1, h2⟩ := h
  obtain ⟨h3, h4⟩ := goF_pw h2
  refine ⟨fun a ha b hb => ?_, List.pairwise_cons.2 ⟨fun b hb => h3 x (by simp) b hb, h4⟩⟩
  rcases List.mem_cons.1 hb with rfl | hb
  ·
   exact h1 a ha
  ·
   exact h3 a (List.mem_append_left _ ha) b hb
def sumB (s : List Int) : List S55 → Nat
 | [] => 0
 | f :: fs => (if isPre f.f0 s = true then 2 ^ (s.length - f.f0.length) else 0) + sumB s fs
theorem sum_pow : ∀ (n : Nat) (ks : List Nat), ks.Nodup → (∀ k ∈ ks, 1 ≤ k ∧ k ≤ n) → (ks.map (fun k => 2 ^ (n - k))).sum + 1 ≤ 2 ^ n
 | 0, ks, _, h => by
  cases ks with
  | nil => simp
  | cons k ks => have := h k (by simp); omega
 | n + 1, ks, hn, h => by
  have key : ∀ l : List Nat, (∀ k ∈ l, k ≤ n) → (l.map (fun k => 2 ^ (n + 1 - k))).sum = 2 * (l.map (fun k => 2 ^ (n - k))).sum := by
   intro l
   induction l with
   | nil => intro _; rfl
   | cons k l ih =>
    intro hl
    have h1 := hl k (by simp)
    have e : n + 1 - k = (n - k) + 1 := by omega
    simp only [List.map_cons, List.sum_cons]
    rw [ih (fun k hk => hl k (by simp [hk])), e, Nat.pow_succ]; omega
  by_cases hm : n + 1 ∈ ks
  ·
   have hp := List.perm_cons_erase hm
   have h1 := sum_pow n (ks.erase (n + 1)) (hn.erase _) (fun k hk => by
    have h2 := h k (List.mem_of_mem_erase hk)
    have : k ≠ n + 1 := fun e => by subst e; exact (List.Nodup.not_mem_erase hn) hk
    omega)
   have h2 := (hp.map (fun k => 2 ^ (n + 1 - k))).sum_nat
   rw [h2, List.map_cons, List.sum_cons, key _ (fun k hk => by
    have h2 := h k (List.mem_of_mem_erase hk)
    have : k ≠ n + 1 := fun e => by subst e; exact (List.Nodup.not_mem_erase hn) hk
    omega), Nat.sub_self, Nat.pow_succ]
   omega
  ·
   rw [key _ (fun k hk => by have := h k hk; have : k ≠ n + 1 := fun e => hm (e ▸ hk); omega)]
   have h1 := sum_pow n ks hn (fun k hk => by have := h k hk; have : k ≠ n + 1 := fun e => hm (e ▸ hk); omega)
   rw [Nat.pow_succ]; omega
theorem isPre_take {p s : List Int} (h : isPre p s = true) : s.take p.length = p := by
 unfold isPre at h; simp at h; exact h.2
theorem sumB_eq (s : List Int) : ∀ L : List S55, sumB s L = (((L.filter (fun f => isPre f.f0 s)).map (fun f => f.f0.length)).map (fun k => 2 ^ (s.length - k))).sum
 | [] => rfl
 | f :: fs => by
  simp only [sumB]
  rw [sumB_eq s fs, List.filter_cons]
  cases isPre f.f0 s <;> simp
theorem sumB_le {s : List Int} {L : List S55} (hL : ∀ f ∈ L, 1 ≤ f.f0.length) (hp : L.Pairwise (fun a b => a.f0 ≠ b.f0)) : sumB s L ≤ 2 ^ s.length := by
 rw [sumB_eq]
 have h1 : ((L.filter (fun f => isPre f.f0 s)).map (fun f => f.f0.length)).Nodup := by
  rw [List.nodup_iff_pairwise_ne, List.pairwise_map]
  have h2 := hp.filter (fun f => isPre f.f0 s)
  refine List.Pairwise.imp_of_mem (fun {a b} ha hb h => ?_) h2
  intro e
  have h3 := isPre_take (List.mem_filter.1 ha).2
  have h4 := isPre_take (List.mem_filter.1 hb).2
  rw [e] at h3
  exact h (h3.symm.trans h4)
 have := sum_pow s.length _ h1 (fun k hk => by
  obtain ⟨f, hf, rfl⟩ := List.mem_map.1 hk
  obtain ⟨hf1, hf2⟩ := List.mem_filter.1 hf
  exact ⟨hL f hf1, isPre_len hf2⟩)
 omega
/-- A least sum, -1 for none. -/
def lA (c : S55 → Int) (g : List Int → Int) (s : List Int) : List S55 → Int → Int
 | [], a => a
 | f :: fs, a => if isPre f.f0 s = true then (if g (s.drop f.f0.length) < 0 then lA c g s fs a else lA c g s fs (if a < 0 ∨ g (s.drop f.f0.length) + c f < a then g (s.drop f.f0.length) + c f else a)) else lA c g s fs a
def oW (o : OutC) : Int := if o.f0 = 0 then -1 else o.f1
def oF (o : OutC) : Int := if o.f0 = 0 then -1 else o.f2
structure OBd (n : Nat) (o : OutC) : Prop where
 lo : 0 ≤ o.f0
 hi : o.f0 ≤ ((2 ^ n : Nat) : Int)
 w0 : o.f0 ≠ 0 → 0 ≤ o.f1
 w1 : o.f0 ≠ 0 → o.f1 ≤ 9 * (n : Int)
 f0 : o.f0 ≠ 0 → 0 ≤ o.f2
 f1 : o.f0 ≠ 0 → o.f2 ≤ (n : Int)
theorem outW_plain {n m : Nat} {o r : OutC} {f : S55} (hn : n ≤ 23) (hm : m + f.f0.length ≤ n) (hf : 1 ≤ f.f0.length) (hw : 1 ≤ f.f1 ∧ f.f1 ≤ 9) (h1 : OBd n o) (h2 : OBd m r) (hr : r.f0 ≠ 0) (hs : o.f0 + r.f0 ≤ ((2 ^ n : Nat) : Int)) :
 OBd n (outW o f r) ∧ (outW o f r).f0 = o.f0 + r.f0 ∧ oW (outW o f r) = (if oW o < 0 ∨ oW r + f.f1 < oW o then oW r + f.f1 else oW o) ∧ oF (outW o f r) = (if oF o < 0 ∨ oF r + 1 < oF o then oF r + 1 else oF o) := by
 have hp : (2 : Nat) ^ n ≤ 2 ^ 23 := Nat.pow_le_pow_right (by omega) hn
 have hp' : (2 : Nat) ^ 23 = 8388608 := rfl
 obtain ⟨a1, a2, a3, a4, a5, a6⟩ := h1
 obtain ⟨b1, b2, b3, b4, b5, b6⟩ := h2
 have b3 := b3 hr; have b4 := b4 hr; have b5 := b5 hr; have b6 := b6 hr
 have hne : o.f0 + r.f0 ≠ 0 := by omega
 unfold outW
 by_cases h : o.f0 > 0
 ·
  have hz : o.f0 ≠ 0 := by omega
  have a3 := a3 hz; have a4 := a4 hz; have a5 := a5 hz; have a6 := a6 hz
  rw [if_pos h, w64 (x := o.f0 + r.f0) (by omega) (by omega), w64 (x := f.f1 + r.f1) (by omega) (by omega), w64 (x := 1 + r.f2) (by omega) (by omega)]
  have m1 := mn_le (f.f1 + r.f1) o.f1
  have m2 := mn_le (1 + r.f2) o.f2
  refine ⟨⟨by simp only []; omega, hs, fun _ => by simp only []; omega, fun _ => by simp only []; omega, fun _ => by simp only []; omega, fun _ => by simp only []; omega⟩, rfl, ?_, ?_⟩
  ·
   unfold oW
   simp only []
   rw [if_neg hne, if_neg hz, if_neg hr]
   by_cases hc : r.f1 + f.f1 < o.f1
   ·
    rw [if_pos (.inr hc)]; omega
   ·
    rw [if_neg (by omega)]; omega
  ·
   unfold oF
   simp only []
   rw [if_neg hne, if_neg hz, if_neg hr]
   by_cases hc : r.f2 + 1 < o.f2
   ·
    rw [if_pos (.inr hc)]; omega
   ·
    rw [if_neg (by omega)]; omega
 ·
  have hz : o.f0 = 0 := by omega
  rw [if_neg h, w64 (x := o.f0 + r.f0) (by omega) (by omega), w64 (x := f.f1 + r.f1) (by omega) (by omega), w64 (x := 1 + r.f2) (by omega) (by omega)]
  refine ⟨⟨by simp only []; omega, hs, fun _ => by simp only []; omega, fun _ => by simp only []; omega, fun _ => by simp only []; omega, fun _ => by simp only []; omega⟩, rfl, ?_, ?_⟩
  ·
   unfold oW
   simp only []
   rw [if_neg hne, if_pos hz, if_neg hr, if_pos (.inl (by omega))]; omega
  ·
   unfold oF
   simp only []
   rw [if_neg hne, if_pos hz, if_neg hr, if_pos (.inl (by omega))]; omega
theorem rdA_plain {rec : List Int → OutC} {s : List Int} (hs : s.length ≤ 23) (hrec : ∀ k, 1 ≤ k → k ≤ s.length → OBd (s.length - k) (rec (s.drop k))) :
 ∀ (L : List S55) (acc : OutC), (∀ f ∈ L, 1 ≤ f.f0.length ∧ 1 ≤ f.f1 ∧ f.f1 ≤ 9) → OBd s.length acc → acc.f0 + (sumB s L : Int) ≤ ((2 ^ s.length : Nat) : Int) →
  OBd s.length (rdA rec s L acc) ∧ oW (rdA rec s L acc) = lA (fun f => f.f1) (fun t => oW (rec t)) s L (oW acc) ∧ oF (rdA rec s L acc) = lA (fun _ => 1) (fun t => oF (rec t)) s L (oF acc)
 | [], acc, _, h, _ => ⟨h, rfl, rfl⟩
 | f :: fs, acc, hL, h, hb => by
  have hf := hL f (by simp)
  have hL' := fun g hg => hL g (List.mem_cons_of_mem _ hg)
  simp only [rdA, lA, sumB] at hb ⊢
  by_cases hp : isPre f.f0 s = true
  ·
   rw [if_pos hp] at hb
   rw [if_pos hp, if_pos hp, if_pos hp]
   have hl := isPre_len hp
   have hr := hrec f.f0.length hf.1 hl
   generalize rec (s.drop f.f0.length) = r at hr ⊢
   rw [Int.natCast_add] at hb
   have hbr := hr.hi
   by_cases hz : r.f0 = 0
   ·
    have e1 : oW r = -1 := if_pos hz
    have e2 : oF r = -1 := if_pos hz
    rw [if_pos hz, if_pos (by rw [e1]; omega), if_pos (by rw [e2]; omega)]
    have := hr.lo
    exact rdA_plain hs hrec fs acc hL' h (by omega)
   ·
    have e1 : ¬ oW r < 0 := by unfold oW; rw [if_neg hz]; have := hr.w0 hz; omega
    have e2 : ¬ oF r < 0 := by unfold oF; rw [if_neg hz]; have := hr.f0 hz; omega
    rw [if_neg hz, if_neg e1, if_neg e2]
    obtain ⟨o1, o2, o3, o4⟩ := outW_plain (n := s.length) (m := s.length - f.f0.length) (o := acc) (r := r) (f := f) hs (by omega) hf.1 hf.2 h hr hz (by omega)
    rw [← o3, ← o4]
    exact rdA_plain hs hrec fs (outW acc f r) hL' o1 (by rw [o2]; omega)
  ·
   rw [if_neg hp] at hb
   rw [if_neg hp, if_neg hp, if_neg hp]
   exact rdA_plain hs hrec fs acc hL' h (by omega)
/-- What valid formulas are good for. -/
structure FsV (L : List S55) : Prop where
 len : L.length ≤ 8
 one : ∀ f ∈ L, 1 ≤ f.f0.length ∧ f.f0.length ≤ 5
 wt : ∀ f ∈ L, 1 ≤ f.f1 ∧ f.f1 ≤ 9
 pw : L.Pairwise (fun a b => a.f0 ≠ b.f0)
theorem FsV.of {L : List S55} (h : fsOk L = true) : FsV L :=
 ⟨fsOk_len h, fun f hf => fOk_len (fsOk_all h f hf), fun f hf => fOk_weight (fsOk_all h f hf), (goF_pw (acc := []) (by unfold fsOk at h; simp at h; exact h.2)).2⟩
theorem rdO_bd {L : List S55} (hv : FsV L) : ∀ (n : Nat) (s : List Int), s.length = n → n ≤ 23 → OBd n (rdO L s) := by
 intro n
 induction n using Nat.strongRecOn with
 | ind n ih =>
  intro s hs hn
  by_cases hne : s = []
  ·
   subst hne
   simp at hs
   subst hs
   rw [rdO_nil]
   exact ⟨by simp, by simp, by simp, by simp, by simp, by simp⟩
  ·
   rw [rdO_step (fun f hf => (hv.one f hf).1) hne]
   subst hs
   refine (rdA_plain hn (fun k hk hk' => ih (s.length - k) (by omega) _ (by rw [List.length_drop]) (by omega)) L ⟨0, 0, 0⟩ (fun f hf => ⟨(hv.one f hf).1, hv.wt f hf⟩) ⟨by simp, Int.natCast_nonneg _, by simp, by simp, by simp, by simp⟩ ?_).1
   have := sumB_le (s := s) (fun f hf => (hv.one f hf).1) hv.pw
   simp only [Int.zero_add]
   exact_mod_cast this
theorem rdO_least {L : List S55} (hv : FsV L) {s : List Int} (hs : s.length ≤ 23) (hne : s ≠ []) :
 oW (rdO L s) = lA (fun f => f.f1) (fun t => oW (rdO L t)) s L (-1) ∧ oF (rdO L s) = lA (fun _ => 1) (fun t => oF (rdO L t)) s L (-1) := by
 have h := rdA_plain (rec := rdO L) (s := s) hs (fun k hk hk' => rdO_bd hv (s.length - k) _ (by rw [List.length_drop]) (by omega)) L ⟨0, 0, 0⟩ (fun f hf => ⟨(hv.one f hf).1, hv.wt f hf⟩) ⟨by simp, Int.natCast_nonneg _, by simp, by simp, by simp, by simp⟩ (by
  have := sumB_le (s := s) (fun f hf => (hv.one f hf).1) hv.pw
  simp only [Int.zero_add]
  exact_mod_cast this)
 rw [rdO_step (fun f hf => (hv.one f hf).1) hne]
 exact ⟨h.2.1, h.2.2⟩

def meetsF (rec : List Int → Int → Bool) (most : Int) (a : List Int) (len : Int) (f : S55) : Bool :=
 (f.f0 == a) || (if isPre f.f0 a = true then rec (a.drop f.f0.length) len else (isPre a f.f0 && (decide (len + (f.f0.length : Int) - (a.length : Int) ≤ most) && rec (f.f0.drop a.length) (len + (f.f0.length : Int) - (a.length : Int)))))
def meetsP (L : List S55) (most : Int) : Nat → List Int → Int → Bool
 | 0, _, _ => false
 | n + 1, a, len => L.any (meetsF (meetsP L most n) most a len)
theorem isPre_lt {p s : List Int} (h : isPre p s = true) (hne : p ≠ s) : p.length < s.length := by
 have h1 := isPre_len h
 rcases Nat.lt_or_eq_of_le h1 with h2 | h2
 ·
  exact h2
 ·
  have := isPre_take h
  rw [h2, List.take_length] at this
  exact absurd this.symm hne
theorem impl_meets_ev {L : List S55} (hv : FsV L) (most : Int) (hmost : most ≤ 5) : ∀ (n : Nat) (a : List Int) (len : Int), 1 ≤ a.length → a.length ≤ 5 → 0 ≤ len → len ≤ most → (most - len) * 6 + (a.length : Int) < n → Ev (fun k => impl_meets.f k L a len most) (meetsP L most n a len)
 | 0, a, len, h1, h2, h3, h4, h5 => absurd h5 (by omega)
 | n + 1, a, len, h1, h2, h3, h4, h5 => by
  have hll := hv.len
  refine Ev.succ ?_
  simp only [impl_meets.f, meetsP]
  have := Ev.over z55 L (fun k (_ : Unit) q => impl_meets.l0 k L a len most L (L.length : Int) q) (fun _ rest => rest.any (meetsF (meetsP L most n) most a len)) (fun _ _ => True) (by
   intro _ _
   refine Ev.succ ?_
   simp only [impl_meets.l0]
   exact Ev.neg (by omega) (Ev.now _)) (by
   intro _ q rest _ hq hdr ih
   have ih := ih () trivial
   have hm : rd_T55 L (q : Int) ∈ L := rd_mem (by omega) (by omega)
   have hf := hv.one _ hm
   have hrd : L.getD q z55 = rd_T55 L (q : Int) := rfl
   rw [hrd, List.any_cons]
   refine Ev.succ ?_
   simp only [impl_meets.l0]
   rw [w64 (x := (q : Int) + 1) (by omega) (by omega)]
   generalize rd_T55 L (q : Int) = f at hf hm
   refine Ev.pos (by omega) (Ev.pos (by omega) (Ev.pos (by omega) (Ev.bind (impl_equalNumbers_ev _ _ (by omega)) ?_)))
   cases he : (f.f0 == a)
   ·
    have hne : f.f0 ≠ a := by simpa using he
    refine Ev.neg (by simp) (Ev.bind (impl_begins_ev _ _ (by omega)) ?_)
    cases hp : isPre f.f0 a
    ·
     refine Ev.neg (by simp) (Ev.bind (impl_begins_ev _ _ (by omega)) ?_)
     have j1f : isPre a f.f0 = false ∨ ¬ len + (f.f0.length : Int) - (a.length : Int) ≤ most → Ev (fun k => impl_meets.j1 k L a len most (f.f0.length : Int) L (L.length : Int) (q : Int) false f.f0 f.f1) (meetsF (meetsP L most n) most a len f || rest.any (meetsF (meetsP L most n) most a len)) := by
      intro hor
      refine Ev.succ ?_
      simp only [impl_meets.j1]
      rw [w64 (x := (q : Int) + 1) (by omega) (by omega)]
      refine Ev.neg (by simp) (Ev.eqr ih ?_)
      unfold meetsF
      rw [he, hp]
      rcases hor with h | h
      ·
       rw [h]; simp
      ·
       rw [decide_eq_false h]; simp
     cases hq' : isPre a f.f0
     ·
      exact Ev.neg (by simp) (j1f (.inl hq'))
     ·
      refine Ev.pos rfl ?_
      rw [w64 (x := len + (f.f0.length : Int)) (by omega) (by omega), w64 (x := len + (f.f0.length : Int) - (a.length : Int)) (by omega) (by omega)]
      by_cases hc : len + (f.f0.length : Int) - (a.length : Int) ≤ most
      ·
       rw [decide_eq_true hc]
       have hlt := isPre_lt hq' (fun h => hne h.symm)
       refine Ev.succ ?_
       simp only [impl_meets.j1]
       rw [w64 (x := (q : Int) + 1) (by omega) (by omega), w64 (x := len + (f.f0.length : Int)) (by omega) (by omega), w64 (x := len + (f.f0.length : Int) - (a.length : Int)) (by omega) (by omega)]
       refine Ev.pos trivial (Ev.pos (by omega) (Ev.pos (by omega) ?_))
       rw [Int.toNat_natCast]
       refine Ev.bind (impl_meets_ev hv most hmost n (f.f0.drop a.length) (len + (f.f0.length : Int) - (a.length : Int)) (by rw [List.length_drop]; omega) (by rw [List.length_drop]; omega) (by omega) hc (by rw [List.length_drop]; omega)) ?_
       cases hr : meetsP L most n (f.f0.drop a.length) (len + (f.f0.length : Int) - (a.length : Int))
       ·
        refine Ev.neg (by simp) (Ev.eqr ih ?_)
        unfold meetsF
        rw [he, hp, hq', hr]; simp
       ·
        refine Ev.pos rfl (Ev.eqr (Ev.now _) ?_)
        unfold meetsF
        rw [he, hp, hq', hr, decide_eq_true hc]; simp
      ·
       rw [decide_eq_false hc]
       exact j1f (.inr hc)
    ·
     have hlt := isPre_lt hp hne
     refine Ev.pos rfl (Ev.pos (by omega) (Ev.pos (by omega) ?_))
     rw [Int.toNat_natCast]
     refine Ev.bind (impl_meets_ev hv most hmost n (a.drop f.f0.length) len (by rw [List.length_drop]; omega) (by rw [List.length_drop]; omega) h3 h4 (by rw [List.length_drop]; omega)) ?_
     cases hr : meetsP L most n (a.drop f.f0.length) len
     ·
      refine Ev.neg (by simp) (Ev.eqr ih ?_)
      unfold meetsF
      rw [he, hp, hr]; simp
     ·
      refine Ev.pos rfl (Ev.eqr (Ev.now _) ?_)
      unfold meetsF
      rw [he, hp, hr]; simp
   ·
    refine Ev.pos rfl (Ev.eqr (Ev.now _) ?_)
    unfold meetsF
    rw [he]; simp) 0 () (Nat.zero_le _) trivial
  simpa using this

def hitOne (L : List S55) (n : Int) (i : Nat) (f : S55) (k : Nat) (g : S55) : Bool := !(decide (i = k)) && (decide ((g.f0.length : Int) ≤ n) && (isPre f.f0 g.f0 && meetsP L n 40 (g.f0.drop f.f0.length) (g.f0.length : Int)))
def hitRow (L : List S55) (n : Int) (i : Nat) (f : S55) : Nat → List S55 → Bool
 | _, [] => false
 | k, g :: gs => hitOne L n i f k g || hitRow L n i f (k + 1) gs
def hitAll (L : List S55) (n : Int) : Nat → List S55 → Bool
 | _, [] => false
 | i, f :: fs => hitRow L n i f 0 L || hitAll L n (i + 1) fs
def clearI (L : List S55) (n : Int) : Bool := fsOk L && (decide (0 ≤ n ∧ n ≤ 5) && !(hitAll L n 0 L))
theorem pw_ne {L : List S55} (hv : FsV L) {i q : Nat} (hi : i < L.length) (hq : q < L.length) (h : i ≠ q) : (rd_T55 L (i : Int)).f0 ≠ (rd_T55 L (q : Int)).f0 := by
 have e : ∀ j (hj : j < L.length), rd_T55 L (j : Int) = L[j] := by
  intro j hj
  unfold rd_T55
  rw [Int.toNat_natCast, List.getD_eq_getElem?_getD, List.getElem?_eq_getElem hj]; rfl
 rw [e i hi, e q hq]
 have hp := List.pairwise_iff_getElem.1 hv.pw
 rcases Nat.lt_or_gt_of_ne h with h | h
 ·
  exact hp i q hi hq h
 ·
  exact fun e => hp q i hq hi h e.symm
theorem drop_rd (L : List S55) {q : Nat} (hq : q < L.length) : L.drop q = rd_T55 L (q : Int) :: L.drop (q + 1) := by
 rw [List.drop_eq_getElem_cons hq]
 unfold rd_T55
 rw [Int.toNat_natCast, List.getD_eq_getElem?_getD, List.getElem?_eq_getElem hq]; rfl
theorem clear_row {L : List S55} (hv : FsV L) {n : Int} (hn0 : 0 ≤ n) (hn : n ≤ 5) {i : Nat} (hi : i < L.length) {R : Bool}
 (nxt : Ev (fun k => impl_FormulasClear.l0 k L n L (L.length : Int) ((i : Int) + 1)) R) :
 ∀ (d q : Nat), q + d = L.length → Ev (fun k => impl_FormulasClear.l1 k L n (i : Int) L (L.length : Int) (i : Int) L (L.length : Int) (q : Int) (rd_T55 L (i : Int)).f0 (rd_T55 L (i : Int)).f1) (!(hitRow L n i (rd_T55 L (i : Int)) q (L.drop q)) && R)
 | 0, q, e => by
  have hll := hv.len
  refine Ev.succ ?_
  simp only [impl_FormulasClear.l1]
  rw [List.drop_eq_nil_of_le (by omega), w64 (x := (i : Int) + 1) (by omega) (by omega)]
  exact Ev.neg (by omega) (Ev.eqr nxt (by simp [hitRow]))
 | d + 1, q, e => by
  have hll := hv.len
  have hq : q < L.length := by omega
  have ih := clear_row hv hn0 hn hi nxt d (q + 1) (by omega)
  have e4 : ((q + 1 : Nat) : Int) = (q : Int) + 1 := by omega
  rw [e4] at ih
  rw [drop_rd L hq]
  simp only [hitRow]
  have hf := hv.one _ (rd_mem (l := L) (k := (i : Int)) (by omega) (by omega))
  have hg := hv.one _ (rd_mem (l := L) (k := (q : Int)) (by omega) (by omega))
  have hne := pw_ne hv hi hq
  refine Ev.succ ?_
  simp only [impl_FormulasClear.l1]
  generalize rd_T55 L (i : Int) = f at hf hne ih ⊢
  generalize rd_T55 L (q : Int) = g at hg hne ⊢
  refine Ev.pos (by omega) (Ev.pos (by omega) (Ev.pos (by omega) ?_))
  have skip : hitOne L n i f q g = false → Ev (fun k => impl_FormulasClear.j3 k L n (i : Int) L (L.length : Int) (i : Int) L (L.length : Int) (q : Int) true f.f0 f.f1 g.f0 g.f1) (!(hitOne L n i f q g || hitRow L n i f (q + 1) (L.drop (q + 1))) && R) := by
   intro h
   rw [h, Bool.false_or]
   refine Ev.succ ?_
   simp only [impl_FormulasClear.j3]
   rw [w64 (x := (q : Int) + 1) (by omega) (by omega)]
   exact Ev.pos trivial ih
  by_cases hiq : i = q
  ·
   exact Ev.pos (by omega) (skip (by unfold hitOne; rw [decide_eq_true hiq]; simp))
  refine Ev.neg (by omega) ?_
  by_cases hgn : (g.f0.length : Int) > n
  ·
   exact Ev.pos hgn (skip (by unfold hitOne; rw [decide_eq_false (show ¬ (g.f0.length : Int) ≤ n by omega)]; simp))
  refine Ev.neg hgn (Ev.bind (impl_begins_ev _ _ (by omega)) ?_)
  cases hp : isPre f.f0 g.f0
  ·
   exact skip (by unfold hitOne; rw [hp]; simp)
  have hlt := isPre_lt hp (hne hiq)
  refine Ev.succ ?_
  simp only [impl_FormulasClear.j3]
  refine Ev.neg (by simp) (Ev.pos (by omega) (Ev.pos (by omega) ?_))
  rw [Int.toNat_natCast, w64 (x := (q : Int) + 1) (by omega) (by omega)]
  refine Ev.bind (impl_meets_ev hv n hn 40 (g.f0.drop f.f0.length) (g.f0.length : Int) (by rw [List.length_drop]; omega) (by rw [List.length_drop]; omega) (by omega) (by omega) (by rw [List.length_drop]; omega)) ?_
  have hone : hitOne L n i f q g = meetsP L n 40 (g.f0.drop f.f0.length) (g.f0.length : Int) := by
   unfold hitOne
   rw [decide_eq_false hiq, decide_eq_true (show (g.f0.length : Int) ≤ n by omega), hp]; simp
  rw [hone]
  cases hr : meetsP L n 40 (g.f0.drop f.f0.length) (g.f0.length : Int)
  ·
   rw [Bool.false_or]
   exact Ev.neg (by simp) ih
  ·
   exact Ev.pos rfl (Ev.eqr (Ev.now _) (by simp))
theorem clear_all {L : List S55} (hv : FsV L) {n : Int} (hn0 : 0 ≤ n) (hn : n ≤ 5) :
 ∀ (d i : Nat), i + d = L.length → Ev (fun k => impl_FormulasClear.l0 k L n L (L.length : Int) (i : Int)) (!(hitAll L n i (L.drop i)))
 | 0, i, e => by
  refine Ev.succ ?_
  simp only [impl_FormulasClear.l0]
  rw [List.drop_eq_nil_of_le (by omega)]
  exact Ev.neg (by omega) (Ev.eqr (Ev.now _) (by simp [hitAll]))
 | d + 1, i, e => by
  have hi : i < L.length := by omega
  have ih := clear_all hv hn0 hn d (i + 1) (by omega)
  have e4 : ((i + 1 : Nat) : Int) = (i : Int) + 1 := by omega
  rw [e4] at ih
  rw [drop_rd L hi]
  simp only [hitAll]
  refine Ev.succ ?_
  simp only [impl_FormulasClear.l0]
  refine Ev.pos (by omega) (Ev.pos (by omega) (Ev.pos (by omega) ?_))
  have := clear_row hv hn0 hn hi ih L.length 0 (by omega)
  rw [List.drop_zero] at this
  refine Ev.eqr this ?_
  cases hitRow L n i (rd_T55 L (i : Int)) 0 L <;> simp
theorem impl_FormulasClear_ev (L : List S55) (n : Int) (hl : ∀ x ∈ L, x.f0.length ≤ 1000000000000) : Ev (fun k => impl_FormulasClear.f k L n) (clearI L n) := by
 unfold impl_FormulasClear.f clearI
 refine Ev.bind (impl_FormulasValid_ev L hl) ?_
 have no : Ev (fun k => impl_FormulasClear.j0 k L n true) false := by
  refine Ev.succ ?_
  simp only [impl_FormulasClear.j0]
  exact Ev.pos trivial (Ev.now _)
 cases hok : fsOk L
 ·
  exact Ev.neg (by simp) (Ev.eqr no (by simp))
 refine Ev.pos rfl ?_
 by_cases h0 : n < 0
 ·
  refine Ev.pos h0 (Ev.eqr no ?_)
  rw [decide_eq_false (by omega)]; simp
 refine Ev.neg h0 ?_
 by_cases h1 : n > 5
 ·
  rw [decide_eq_true h1]
  refine Ev.eqr no ?_
  rw [decide_eq_false (by omega)]; simp
 rw [decide_eq_false h1]
 refine Ev.succ ?_
 simp only [impl_FormulasClear.j0]
 have := clear_all (n := n) (FsV.of hok) (by omega) (by omega) L.length 0 (by omega)
 rw [List.drop_zero] at this
 refine Ev.neg (by simp) (Ev.eqr this ?_)
 rw [decide_eq_true (by omega)]; simp

def mA (g : List Int → Int) (s : List Int) : List S55 → Int → Int
 | [], a => a
 | f :: fs, a => if isPre f.f0 s = true then mA g s fs (wrap64 (a + g (s.drop f.f0.length))) else mA g s fs a
theorem wrap_range (x : Int) : -9223372036854775808 ≤ wrap64 x ∧ wrap64 x ≤ 9223372036854775807 := by unfold wrap64; omega
theorem outW_f0 (o : OutC) (f : S55) (r : OutC) : (outW o f r).f0 = wrap64 (o.f0 + r.f0) := by unfold outW; split <;> rfl
theorem rdA_many (rec : List Int → OutC) (s : List Int) : ∀ (L : List S55) (acc : OutC), -9223372036854775808 ≤ acc.f0 → acc.f0 ≤ 9223372036854775807 → (rdA rec s L acc).f0 = mA (fun t => (rec t).f0) s L acc.f0
 | [], acc, _, _ => rfl
 | f :: fs, acc, h, h' => by
  simp only [rdA, mA]
  by_cases hp : isPre f.f0 s = true
  ·
   rw [if_pos hp, if_pos hp]
   by_cases hz : (rec (s.drop f.f0.length)).f0 = 0
   ·
    rw [if_pos hz, rdA_many rec s fs acc h h', hz, Int.add_zero, w64 h h']
   ·
    rw [if_neg hz]
    have := wrap_range (acc.f0 + (rec (s.drop f.f0.length)).f0)
    rw [rdA_many rec s fs _ (by rw [outW_f0]; exact this.1) (by rw [outW_f0]; exact this.2), outW_f0]
  ·
   rw [if_neg hp, if_neg hp, rdA_many rec s fs acc h h']

def cnt (g : List Int → Int) (s : List Int) : List S55 → Int
 | [] => 0
 | f :: fs => (if isPre f.f0 s = true then g (s.drop f.f0.length) else 0) + cnt g s fs
theorem cnt_nn {g : List Int → Int} {s : List Int} : ∀ l : List S55, (∀ f ∈ l, isPre f.f0 s = true → 0 ≤ g (s.drop f.f0.length)) → 0 ≤ cnt g s l
 | [], _ => Int.le_refl _
 | f :: fs, h => by
  simp only [cnt]
  have h1 := cnt_nn fs (fun x hx => h x (List.mem_cons_of_mem _ hx))
  by_cases hp : isPre f.f0 s = true
  ·
   rw [if_pos hp]; have := h f List.mem_cons_self hp; omega
  ·
   rw [if_neg hp]; omega
theorem mA_cnt {g : List Int → Int} {s : List Int} : ∀ (l : List S55) (a : Int), (∀ f ∈ l, isPre f.f0 s = true → 0 ≤ g (s.drop f.f0.length)) → 0 ≤ a → a + cnt g s l ≤ 4611686018427387904 → mA g s l a = a + cnt g s l
 | [], a, _, _, _ => by simp [mA, cnt]
 | f :: fs, a, h, h0, hb => by
  simp only [mA, cnt] at hb ⊢
  have h' := fun x hx => h x (List.mem_cons_of_mem _ hx)
  have hn := cnt_nn fs h'
  by_cases hp : isPre f.f0 s = true
  ·
   rw [if_pos hp] at hb ⊢
   rw [if_pos hp]
   have := h f List.mem_cons_self hp
   rw [w64 (by omega) (by omega), mA_cnt fs _ h' (by omega) (by omega)]
   omega
  ·
   rw [if_neg hp] at hb ⊢
   rw [if_neg hp, mA_cnt fs _ h' h0 (by omega)]
   omega
theorem cnt_sum {g : List Int → Int} {s : List Int} : ∀ l : List S55, (∀ f ∈ l, isPre f.f0 s = true → g (s.drop f.f0.length) ≤ ((2 ^ (s.length - f.f0.length) : Nat) : Int)) → cnt g s l ≤ (sumB s l : Int)
 | [], _ => by simp [cnt, sumB]
 | f :: fs, h => by
  simp only [cnt, sumB]
  have h1 := cnt_sum fs (fun x hx => h x (List.mem_cons_of_mem _ hx))
  rw [Int.natCast_add]
  by_cases hp : isPre f.f0 s = true
  ·
   rw [if_pos hp, if_pos hp]; have := h f List.mem_cons_self hp; omega
  ·
   rw [if_neg hp, if_neg hp]; omega
theorem rdO_cnt {L : List S55} (hv : FsV L) {s : List Int} (hl : s.length ≤ 23) (hs : s ≠ []) : (rdO L s).f0 = cnt (fun t => (rdO L t).f0) s L := by
 have hb : ∀ f ∈ L, isPre f.f0 s = true → OBd (s.length - f.f0.length) (rdO L (s.drop f.f0.length)) := fun f _ hp => rdO_bd hv _ _ (by rw [List.length_drop]) (by have := isPre_len hp; omega)
 have e : (rdO L s).f0 = mA (fun t => (rdO L t).f0) s L 0 := by
  rw [rdO_step (fun f hf => (hv.one f hf).1) hs]
  exact rdA_many _ _ _ _ (by decide) (by decide)
 have h1 := cnt_sum (g := fun t => (rdO L t).f0) (s := s) L (fun f hf hp => (hb f hf hp).hi)
 have h2 := sumB_le (s := s) (fun f hf => (hv.one f hf).1) hv.pw
 have h3 : 2 ^ s.length ≤ 2 ^ 23 := Nat.pow_le_pow_right (by decide) hl
 have h4 : (2 : Nat) ^ 23 = 8388608 := by decide
 rw [e, mA_cnt L 0 (fun f hf hp => (hb f hf hp).lo) (by omega) (by omega)]
 omega
theorem cnt_mem {g : List Int → Int} {s : List Int} : ∀ (l : List S55) {f : S55}, (∀ f ∈ l, isPre f.f0 s = true → 0 ≤ g (s.drop f.f0.length)) → f ∈ l → isPre f.f0 s = true → g (s.drop f.f0.length) ≤ cnt g s l
 | x :: xs, f, h, hf, hp => by
  have h' := fun y hy => h y (List.mem_cons_of_mem _ hy)
  have hn := cnt_nn xs h'
  simp only [cnt]
  rcases List.mem_cons.1 hf with rfl | hf
  ·
   rw [if_pos hp]; omega
  ·
   have := cnt_mem xs h' hf hp
   by_cases hx : isPre x.f0 s = true
   ·
    rw [if_pos hx]; have := h x List.mem_cons_self hx; omega
   ·
    rw [if_neg hx]; omega
theorem nn_of {L : List S55} (hv : FsV L) {s : List Int} (hs : s.length ≤ 23) : ∀ f ∈ L, isPre f.f0 s = true → 0 ≤ (rdO L (s.drop f.f0.length)).f0 :=
 fun f _ _ => (rdO_bd hv _ (s.drop f.f0.length) rfl (by rw [List.length_drop]; omega)).lo

theorem isPre_app (p s : List Int) : isPre p (p ++ s) = true := by unfold isPre; simp

def flatF : List S55 → List Int
 | [] => []
 | f :: r => f.f0 ++ flatF r
theorem cnt_two {g : List Int → Int} {s : List Int} : ∀ (l : List S55) {f f' : S55}, (∀ f ∈ l, isPre f.f0 s = true → 0 ≤ g (s.drop f.f0.length)) → f ∈ l → f' ∈ l → f.f0 ≠ f'.f0 → isPre f.f0 s = true → isPre f'.f0 s = true → g (s.drop f.f0.length) + g (s.drop f'.f0.length) ≤ cnt g s l
 | x :: xs, f, f', h, hf, hf', hne, hp, hp' => by
  have h' := fun y hy => h y (List.mem_cons_of_mem _ hy)
  simp only [cnt]
  rcases List.mem_cons.1 hf with rfl | hfx
  ·
   rcases List.mem_cons.1 hf' with rfl | hfy
   ·
    exact absurd rfl hne
   ·
    have := cnt_mem xs h' hfy hp'
    rw [if_pos hp]; omega
  ·
   rcases List.mem_cons.1 hf' with rfl | hfy
   ·
    have := cnt_mem xs h' hfx hp
    rw [if_pos hp']; omega
   ·
    have := cnt_two xs h' hfx hfy hne hp hp'
    by_cases hx : isPre x.f0 s = true
    ·
     rw [if_pos hx]; have := h x List.mem_cons_self hx; omega
    ·
     rw [if_neg hx]; omega
theorem cnt_pos {g : List Int → Int} {s : List Int} : ∀ (l : List S55), cnt g s l ≠ 0 → ∃ f ∈ l, isPre f.f0 s = true ∧ g (s.drop f.f0.length) ≠ 0
 | [], h => absurd rfl h
 | x :: xs, h => by
  simp only [cnt] at h
  by_cases hx : isPre x.f0 s = true
  ·
   rw [if_pos hx] at h
   by_cases hz : g (s.drop x.f0.length) = 0
   ·
    obtain ⟨f, hf, h1⟩ := cnt_pos (g := g) (s := s) xs (by omega)
    exact ⟨f, List.mem_cons_of_mem _ hf, h1⟩
   ·
    exact ⟨x, List.mem_cons_self, hx, hz⟩
  ·
   rw [if_neg hx] at h
   obtain ⟨f, hf, h1⟩ := cnt_pos (g := g) (s := s) xs (by omega)
   exact ⟨f, List.mem_cons_of_mem _ hf, h1⟩
theorem cnt_gt {g : List Int → Int} {s : List Int} : ∀ (l : List S55), (∀ f ∈ l, isPre f.f0 s = true → 0 ≤ g (s.drop f.f0.length)) → l.Pairwise (fun a b => a.f0 ≠ b.f0) → 1 < cnt g s l →
 (∃ f ∈ l, isPre f.f0 s = true ∧ 1 < g (s.drop f.f0.length)) ∨ (∃ f ∈ l, ∃ f' ∈ l, f.f0 ≠ f'.f0 ∧ isPre f.f0 s = true ∧ isPre f'.f0 s = true ∧ g (s.drop f.f0.length) ≠ 0 ∧ g (s.drop f'.f0.length) ≠ 0)
 | [], _, _, h => absurd h (by simp [cnt])
 | x :: xs, h0, hp, h => by
  obtain ⟨p1, p2⟩ := List.pairwise_cons.1 hp
  have h' := fun y hy => h0 y (List.mem_cons_of_mem _ hy)
  have tl : 1 < cnt g s xs → (∃ f ∈ x :: xs, isPre f.f0 s = true ∧ 1 < g (s.drop f.f0.length)) ∨ (∃ f ∈ x :: xs, ∃ f' ∈ x :: xs, f.f0 ≠ f'.f0 ∧ isPre f.f0 s = true ∧ isPre f'.f0 s = true ∧ g (s.drop f.f0.length) ≠ 0 ∧ g (s.drop f'.f0.length) ≠ 0) := by
   intro h
   rcases cnt_gt xs h' p2 h with ⟨f, hf, h1⟩ | ⟨f, hf, f', hf', h1⟩
   ·
    exact .inl ⟨f, List.mem_cons_of_mem _ hf, h1⟩
   ·
    exact .inr ⟨f, List.mem_cons_of_mem _ hf, f', List.mem_cons_of_mem _ hf', h1⟩
  simp only [cnt] at h
  by_cases hx : isPre x.f0 s = true
  ·
   rw [if_pos hx] at h
   have hv := h0 x List.mem_cons_self hx
   by_cases h1 : 1 < g (s.drop x.f0.length)
   ·
    exact .inl ⟨x, List.mem_cons_self, hx, h1⟩
   by_cases hz : g (s.drop x.f0.length) = 0
   ·
    exact tl (by omega)
   ·
    obtain ⟨f, hf, h2, h3⟩ := cnt_pos (g := g) (s := s) xs (by omega)
    exact .inr ⟨x, List.mem_cons_self, f, List.mem_cons_of_mem _ hf, p1 f hf, hx, h2, hz, h3⟩
  ·
   rw [if_neg hx] at h
   exact tl (by omega)
theorem isPre_split {p s : List Int} (h : isPre p s = true) : p ++ s.drop p.length = s := by
 have := isPre_take h
 conv => rhs; rw [← List.take_append_drop p.length s, this]
theorem has_reading {L : List S55} (hv : FsV L) : ∀ (n : Nat) (s : List Int), s.length ≤ n → s.length ≤ 23 → (rdO L s).f0 ≠ 0 → ∃ r : List S55, (∀ f ∈ r, f ∈ L) ∧ flatF r = s
 | 0, s, h, _, _ => ⟨[], by simp, by rw [List.eq_nil_of_length_eq_zero (show s.length = 0 by omega)]; rfl⟩
 | n + 1, s, h, h', hz => by
  by_cases hs : s = []
  ·
   exact ⟨[], by simp, by rw [hs]; rfl⟩
  rw [rdO_cnt hv h' hs] at hz
  obtain ⟨f, hf, hp, h1⟩ := cnt_pos L hz
  have := (hv.one f hf).1
  have := isPre_len hp
  obtain ⟨r, h2, h3⟩ := has_reading hv n (s.drop f.f0.length) (by rw [List.length_drop]; omega) (by rw [List.length_drop]; omega) h1
  refine ⟨f :: r, fun x hx => ?_, ?_⟩
  ·
   rcases List.mem_cons.1 hx with rfl | hx
   ·
    exact hf
   ·
    exact h2 x hx
  ·
   simp only [flatF]; rw [h3]; exact isPre_split hp
theorem reading_many {L : List S55} (hv : FsV L) : ∀ r : List S55, (∀ f ∈ r, f ∈ L) → (flatF r).length ≤ 23 → 1 ≤ (rdO L (flatF r)).f0
 | [], _, _ => by simp only [flatF]; rw [rdO_nil]; decide
 | f :: r, h, hl => by
  have hf := h f List.mem_cons_self
  have h1 := (hv.one f hf).1
  simp only [flatF] at hl ⊢
  have hl' := hl
  rw [List.length_append] at hl'
  have ih := reading_many hv r (fun x hx => h x (List.mem_cons_of_mem _ hx)) (by omega)
  rw [rdO_cnt hv hl (by intro e; have := congrArg List.length e; rw [List.length_append, List.length_nil] at this; omega)]
  have := cnt_mem (g := fun t => (rdO L t).f0) L (nn_of hv hl) hf (isPre_app f.f0 (flatF r))
  simp only [List.drop_left] at this
  omega
theorem diverge {L : List S55} (hv : FsV L) : ∀ (n : Nat) (s : List Int), s.length ≤ n → s.length ≤ 23 → 1 < (rdO L s).f0 → ∃ f ∈ L, ∃ f' ∈ L, f.f0 ≠ f'.f0 ∧ ∃ r r' : List S55, (∀ x ∈ r, x ∈ L) ∧ (∀ x ∈ r', x ∈ L) ∧ f.f0 ++ flatF r = f'.f0 ++ flatF r' ∧ (f.f0 ++ flatF r).length ≤ s.length
 | 0, s, h, _, hz => by
  rw [List.eq_nil_of_length_eq_zero (show s.length = 0 by omega), rdO_nil] at hz
  exact absurd hz (by decide)
 | n + 1, s, h, h', hz => by
  by_cases hs : s = []
  ·
   rw [hs, rdO_nil] at hz
   exact absurd hz (by decide)
  rw [rdO_cnt hv h' hs] at hz
  rcases cnt_gt L (nn_of hv h') hv.pw hz with ⟨f, hf, hp, h1⟩ | ⟨f, hf, f', hf', hne, hp, hp', h1, h2⟩
  ·
   have := (hv.one f hf).1
   have := isPre_len hp
   obtain ⟨a, ha, b, hb, hab, r, r', h3, h4, h5, h6⟩ := diverge hv n (s.drop f.f0.length) (by rw [List.length_drop]; omega) (by rw [List.length_drop]; omega) h1
   exact ⟨a, ha, b, hb, hab, r, r', h3, h4, h5, by rw [List.length_drop] at h6; omega⟩
  ·
   obtain ⟨r, h3, h4⟩ := has_reading hv _ (s.drop f.f0.length) (Nat.le_refl _) (by rw [List.length_drop]; omega) h1
   obtain ⟨r', h5, h6⟩ := has_reading hv _ (s.drop f'.f0.length) (Nat.le_refl _) (by rw [List.length_drop]; omega) h2
   have e1 : f.f0 ++ flatF r = s := by rw [h4]; exact isPre_split hp
   have e2 : f'.f0 ++ flatF r' = s := by rw [h6]; exact isPre_split hp'
   exact ⟨f, hf, f', hf', hne, r, r', h3, h5, by rw [e1, e2], by rw [e1]; exact Nat.le_refl _⟩
theorem meets_complete {L : List S55} (hv : FsV L) (most : Int) : ∀ (N : Nat) (r1 r2 : List S55) (a : List Int) (len : Int) (n : Nat), (flatF r1).length + (flatF r2).length ≤ N → (∀ f ∈ r1, f ∈ L) → (∀ f ∈ r2, f ∈ L) → a ≠ [] → a.length ≤ 5 → flatF r2 = a ++ flatF r1 → len + ((flatF r1).length : Int) ≤ most → (most - len) * 6 + (a.length : Int) < n → meetsP L most n a len = true := by
 intro N
 induction N using Nat.strongRecOn with
 | _ N IH =>
  intro r1 r2 a len n hN h1 h2 ha ha5 he hlen hn
  have hal := List.length_pos_iff.2 ha
  cases r2 with
  | nil =>
   simp only [flatF] at he
   have := congrArg List.length he
   rw [List.length_append, List.length_nil] at this
   omega
  | cons f r2 =>
   have hf := h2 f List.mem_cons_self
   have hfl := hv.one f hf
   have h2' : ∀ x ∈ r2, x ∈ L := fun x hx => h2 x (List.mem_cons_of_mem _ hx)
   simp only [flatF, List.length_append] at he hN
   obtain ⟨n, rfl⟩ : ∃ m, n = m + 1 := ⟨n - 1, by omega⟩
   simp only [meetsP]
   rw [List.any_eq_true]
   refine ⟨f, hf, ?_⟩
   unfold meetsF
   by_cases hfa : f.f0 = a
   ·
    simp [hfa]
   rw [beq_eq_false_iff_ne.2 hfa, Bool.false_or]
   rcases List.append_eq_append_iff.1 he with ⟨a', e1, e2⟩ | ⟨c', e1, e2⟩
   ·
    have hp : isPre f.f0 a = true := by rw [e1]; exact isPre_app _ _
    have hd : a.drop f.f0.length = a' := by rw [e1, List.drop_left]
    have hl := congrArg List.length e1
    rw [List.length_append] at hl
    rw [if_pos hp, hd]
    exact IH ((flatF r1).length + (flatF r2).length) (by omega) r1 r2 a' len n (Nat.le_refl _) h1 h2' (fun h => hfa (by rw [e1, h, List.append_nil])) (by omega) e2 hlen (by omega)
   ·
    have hl := congrArg List.length e1
    rw [List.length_append] at hl
    have hc : c' ≠ [] := fun h => hfa (by rw [e1, h, List.append_nil])
    have hcl := List.length_pos_iff.2 hc
    have hp : ¬ isPre f.f0 a = true := fun h => by have := isPre_len h; omega
    have hq : isPre a f.f0 = true := by rw [e1]; exact isPre_app _ _
    have hd : f.f0.drop a.length = c' := by rw [e1, List.drop_left]
    have hl2 := congrArg List.length e2
    rw [List.length_append] at hl2
    rw [if_neg hp, hq, Bool.true_and, decide_eq_true (by omega), Bool.true_and, hd]
    exact IH ((flatF r2).length + (flatF r1).length) (by omega) r2 r1 c' (len + (f.f0.length : Int) - (a.length : Int)) n (Nat.le_refl _) h2' h1 hc (by omega) e2 (by omega) (by omega)
theorem meets_sound {L : List S55} (most : Int) : ∀ (n : Nat) (a : List Int) (len : Int), meetsP L most n a len = true → len ≤ most → ∃ r1 r2 : List S55, (∀ f ∈ r1, f ∈ L) ∧ (∀ f ∈ r2, f ∈ L) ∧ flatF r2 = a ++ flatF r1 ∧ len + ((flatF r1).length : Int) ≤ most
 | 0, a, len, h, _ => by simp [meetsP] at h
 | n + 1, a, len, h, hlen => by
  simp only [meetsP] at h
  rw [List.any_eq_true] at h
  obtain ⟨f, hf, h⟩ := h
  unfold meetsF at h
  rw [Bool.or_eq_true] at h
  have cons_in : ∀ {r : List S55}, (∀ x ∈ r, x ∈ L) → ∀ x ∈ f :: r, x ∈ L := by
   intro r hr x hx
   rcases List.mem_cons.1 hx with rfl | hx
   ·
    exact hf
   ·
    exact hr x hx
  rcases h with h | h
  ·
   have e : f.f0 = a := by simpa using h
   exact ⟨[], [f], by simp, cons_in (by simp), by simp [flatF, e], by simp [flatF]; exact hlen⟩
  ·
   by_cases hp : isPre f.f0 a = true
   ·
    rw [if_pos hp] at h
    obtain ⟨r1, r2, h1, h2, h3, h4⟩ := meets_sound most n _ _ h hlen
    refine ⟨r1, f :: r2, h1, cons_in h2, ?_, h4⟩
    simp only [flatF]
    rw [h3, ← List.append_assoc, isPre_split hp]
   ·
    rw [if_neg hp, Bool.and_eq_true, Bool.and_eq_true, decide_eq_true_eq] at h
    obtain ⟨hq, hc, h⟩ := h
    obtain ⟨r1, r2, h1, h2, h3, h4⟩ := meets_sound most n _ _ h hc
    refine ⟨r2, f :: r1, h2, cons_in h1, ?_, ?_⟩
    ·
     simp only [flatF]
     rw [h3, ← List.append_assoc, isPre_split hq]
    ·
     have hl := congrArg List.length h3
     rw [List.length_append, List.length_drop] at hl
     have := isPre_len hq
     omega
theorem hitRow_iff {L : List S55} {n : Int} {i : Nat} {f : S55} : ∀ (l : List S55) (k : Nat), hitRow L n i f k l = true ↔ ∃ q, ∃ h : q < l.length, hitOne L n i f (k + q) l[q] = true
 | [], k => by simp [hitRow]
 | g :: gs, k => by
  simp only [hitRow, Bool.or_eq_true]
  rw [hitRow_iff gs (k + 1)]
  constructor
  ·
   rintro (h | ⟨q, hq, h⟩)
   ·
    exact ⟨0, by simp, h⟩
   ·
    refine ⟨q + 1, by simpa using hq, ?_⟩
    rw [show k + (q + 1) = k + 1 + q by omega]
    simpa using h
  ·
   rintro ⟨q, hq, h⟩
   cases q with
   | zero => exact .inl h
   | succ q =>
    refine .inr ⟨q, by simpa using hq, ?_⟩
    rw [show k + 1 + q = k + (q + 1) by omega]
    simpa using h
theorem hitAll_iff {L : List S55} {n : Int} : ∀ (l : List S55) (i : Nat), hitAll L n i l = true ↔ ∃ p, ∃ h : p < l.length, hitRow L n (i + p) l[p] 0 L = true
 | [], i => by simp [hitAll]
 | f :: fs, i => by
  simp only [hitAll, Bool.or_eq_true]
  rw [hitAll_iff fs (i + 1)]
  constructor
  ·
   rintro (h | ⟨q, hq, h⟩)
   ·
    exact ⟨0, by simp, h⟩
   ·
    refine ⟨q + 1, by simpa using hq, ?_⟩
    rw [show i + (q + 1) = i + 1 + q by omega]
    simpa using h
  ·
   rintro ⟨q, hq, h⟩
   cases q with
   | zero => exact .inl h
   | succ q =>
    refine .inr ⟨q, by simpa using hq, ?_⟩
    rw [show i + 1 + q = i + (q + 1) by omega]
    simpa using h
def twoP (L : List S55) (n : Int) : Nat → List Int → Bool
 | 0, _ => false
 | m + 1, s => decide (1 < (rdO L s).f0) || L.any (fun f => decide (((s ++ f.f0).length : Int) ≤ n) && twoP L n m (s ++ f.f0))
theorem twoP_iff {L : List S55} (hv : FsV L) (n : Int) : ∀ (m : Nat) (s : List Int), (s.length : Int) ≤ n → n - (s.length : Int) < m → (twoP L n m s = true ↔ ∃ r : List S55, (∀ f ∈ r, f ∈ L) ∧ ((s ++ flatF r).length : Int) ≤ n ∧ 1 < (rdO L (s ++ flatF r)).f0)
 | 0, s, h, h' => absurd h' (by omega)
 | m + 1, s, h, h' => by
  simp only [twoP]
  rw [Bool.or_eq_true, decide_eq_true_eq, List.any_eq_true]
  constructor
  ·
   rintro (h1 | ⟨f, hf, h1⟩)
   ·
    exact ⟨[], by simp, by simpa [flatF] using h, by simpa [flatF] using h1⟩
   ·
    rw [Bool.and_eq_true, decide_eq_true_eq] at h1
    have hfl := (hv.one f hf).1
    obtain ⟨r, h2, h3, h4⟩ := (twoP_iff hv n m (s ++ f.f0) h1.1 (by rw [List.length_append]; omega)).1 h1.2
    refine ⟨f :: r, fun x hx => ?_, ?_, ?_⟩
    ·
     rcases List.mem_cons.1 hx with rfl | hx
     ·
      exact hf
     ·
      exact h2 x hx
    ·
     simp only [flatF]; rwa [← List.append_assoc]
    ·
     simp only [flatF]; rwa [← List.append_assoc]
  ·
   rintro ⟨r, h1, h2, h3⟩
   cases r with
   | nil => exact .inl (by simpa [flatF] using h3)
   | cons f r =>
    simp only [flatF] at h2 h3
    rw [← List.append_assoc] at h2 h3
    have hf := h1 f List.mem_cons_self
    have hfl := (hv.one f hf).1
    have hb : ((s ++ f.f0).length : Int) ≤ n := by have e9 := (List.length_append : ((s ++ f.f0) ++ flatF r).length = _); omega
    refine .inr ⟨f, hf, ?_⟩
    rw [Bool.and_eq_true, decide_eq_true_eq]
    exact ⟨hb, (twoP_iff hv n m (s ++ f.f0) hb (by rw [List.length_append]; omega)).2 ⟨r, fun x hx => h1 x (List.mem_cons_of_mem _ hx), h2, h3⟩⟩
theorem hit_two {L : List S55} (hv : FsV L) {n : Int} (hn0 : 0 ≤ n) (hn : n ≤ 5) : hitAll L n 0 L = twoP L n 6 [] := by
 rw [Bool.eq_iff_iff, twoP_iff hv n 6 [] (by simpa using hn0) (by simp; omega), hitAll_iff]
 have gt : ∀ j (hj : j < L.length), L[j] = rd_T55 L (j : Int) := by
  intro j hj
  unfold rd_T55
  rw [Int.toNat_natCast, List.getD_eq_getElem?_getD, List.getElem?_eq_getElem hj]; rfl
 constructor
 ·
  rintro ⟨p, hp, h⟩
  obtain ⟨q, hq, h⟩ := (hitRow_iff L 0).1 h
  rw [Nat.zero_add, Nat.zero_add] at h
  unfold hitOne at h
  simp only [Bool.and_eq_true, Bool.not_eq_true', decide_eq_false_iff_not, decide_eq_true_eq] at h
  obtain ⟨h1, h2, h3, h4⟩ := h
  have hpi := List.getElem_mem hp
  have hqi := List.getElem_mem hq
  have hne := pw_ne hv hp hq h1
  rw [← gt p hp, ← gt q hq] at hne
  generalize L[p] = f at h2 h3 h4 hpi hne
  generalize L[q] = g at h2 h3 h4 hqi hne
  obtain ⟨r1, r2, k1, k2, k3, k4⟩ := meets_sound n 40 _ _ h4 h2
  have e : f.f0 ++ flatF r2 = g.f0 ++ flatF r1 := by rw [k3, ← List.append_assoc, isPre_split h3]
  have hl : (g.f0 ++ flatF r1).length ≤ 5 := by rw [List.length_append]; omega
  have hle := congrArg List.length e
  rw [List.length_append] at hle
  have hl' := hl
  rw [List.length_append] at hl'
  have hg1 := (hv.one g hqi).1
  refine ⟨g :: r1, fun x hx => ?_, ?_, ?_⟩
  ·
   rcases List.mem_cons.1 hx with rfl | hx
   ·
    exact hqi
   ·
    exact k1 x hx
  ·
   simp only [flatF, List.nil_append]; rw [List.length_append]; omega
  ·
   simp only [flatF, List.nil_append]
   rw [rdO_cnt hv (by omega) (by intro e0; have := congrArg List.length e0; rw [List.length_append, List.length_nil] at this; omega)]
   have h5 := cnt_two (g := fun t => (rdO L t).f0) (s := g.f0 ++ flatF r1) L (nn_of hv (by omega)) hqi hpi (fun h => hne h.symm) (isPre_app _ _) (by rw [← e]; exact isPre_app _ _)
   have h6 : (g.f0 ++ flatF r1).drop f.f0.length = flatF r2 := by rw [← e, List.drop_left]
   rw [h6, List.drop_left] at h5
   have h7 := reading_many hv r1 k1 (by omega)
   have h8 := reading_many hv r2 k2 (by omega)
   omega
 ·
  rintro ⟨r, h1, h2, h3⟩
  rw [List.nil_append] at h2 h3
  obtain ⟨f, hf, g, hg, hne, r1, r2, k1, k2, k3, k4⟩ := diverge hv _ (flatF r) (Nat.le_refl _) (by omega) h3
  -- the shorter one first
  have key : ∀ (f g : S55) (r1 r2 : List S55), f ∈ L → g ∈ L → f.f0 ≠ g.f0 → (∀ x ∈ r1, x ∈ L) → (∀ x ∈ r2, x ∈ L) → f.f0 ++ flatF r1 = g.f0 ++ flatF r2 → ((g.f0 ++ flatF r2).length : Int) ≤ n → (∃ c', g.f0 = f.f0 ++ c' ∧ flatF r1 = c' ++ flatF r2) → ∃ p, ∃ h : p < L.length, hitRow L n (0 + p) L[p] 0 L = true := by
   rintro f g r1 r2 hf hg hne k1 k2 k3 k4 ⟨c', e1, e2⟩
   obtain ⟨p, hp, rfl⟩ := List.getElem_of_mem hf
   obtain ⟨q, hq, rfl⟩ := List.getElem_of_mem hg
   refine ⟨p, hp, (hitRow_iff L 0).2 ⟨q, hq, ?_⟩⟩
   rw [Nat.zero_add, Nat.zero_add]
   have hc : c' ≠ [] := fun h => hne (by rw [e1, h, List.append_nil])
   have hg5 := hv.one _ hg
   have hl := congrArg List.length e1
   rw [List.length_append] at hl
   rw [List.length_append] at k4
   unfold hitOne
   simp only [Bool.and_eq_true, Bool.not_eq_true', decide_eq_false_iff_not, decide_eq_true_eq]
   refine ⟨fun h => hne (by simp only [h]), by omega, by rw [e1]; exact isPre_app _ _, ?_⟩
   have hd : L[q].f0.drop L[p].f0.length = c' := by rw [e1, List.drop_left]
   rw [hd]
   exact meets_complete hv n _ r2 r1 c' _ 40 (Nat.le_refl _) k2 k1 hc (by omega) e2 (by omega) (by omega)
  have k5 : ((f.f0 ++ flatF r1).length : Int) ≤ n := by omega
  rcases List.append_eq_append_iff.1 k3 with ⟨c', e1, e2⟩ | ⟨c', e1, e2⟩
  ·
   exact key f g r1 r2 hf hg hne k1 k2 k3 (by rw [← k3]; exact k5) ⟨c', e1, e2⟩
  ·
   exact key g f r2 r1 hg hf (fun h => hne h.symm) k2 k1 k3.symm k5 ⟨c', e1, e2⟩

theorem clear_iff {L : List S55} (hF : fsOk L = true) {n : Int} : clearI L n = true ↔ (0 ≤ n ∧ n ≤ 5) ∧ ∀ r : List S55, (∀ f ∈ r, f ∈ L) → ((flatF r).length : Int) ≤ n → (rdO L (flatF r)).f0 ≤ 1 := by
 have hv := FsV.of hF
 unfold clearI
 rw [hF, Bool.true_and, Bool.and_eq_true, decide_eq_true_eq, Bool.not_eq_true']
 constructor
 ·
  rintro ⟨h, h'⟩
  refine ⟨h, fun r hr hl => ?_⟩
  rw [hit_two hv h.1 h.2] at h'
  refine Int.not_lt.1 (fun h3 => ?_)
  have := (twoP_iff hv n 6 [] (by simpa using h.1) (by simp; omega)).2 ⟨r, hr, by rw [List.nil_append]; exact hl, by rw [List.nil_append]; exact h3⟩
  rw [this] at h'; cases h'
 ·
  rintro ⟨h, h'⟩
  refine ⟨h, ?_⟩
  rw [hit_two hv h.1 h.2]
  cases h5 : twoP L n 6 [] with
  | false => rfl
  | true =>
   obtain ⟨r, h1, h2, h3⟩ := (twoP_iff hv n 6 [] (by simpa using h.1) (by simp; omega)).1 h5
   rw [List.nil_append] at h2 h3
   have := h' r h1 h2
   omega
theorem clear_one {L : List S55} (hF : fsOk L = true) {n : Int} (h : clearI L n = true) {r : List S55} (hr : ∀ f ∈ r, f ∈ L) (hl : ((flatF r).length : Int) ≤ n) : (rdO L (flatF r)).f0 = 1 := by
 obtain ⟨hn, h1⟩ := (clear_iff hF).1 h
 have h2 := h1 r hr hl
 have h3 := reading_many (FsV.of hF) r hr (by omega)
 omega

theorem rd_ne {L : List S55} (hv : FsV L) {i q : Nat} (hi : i < L.length) (hq : q < L.length) (h : i ≠ q) : (rd_T55 L (i : Int)).f0 ≠ (rd_T55 L (q : Int)).f0 := by
 have e : ∀ j (hj : j < L.length), rd_T55 L (j : Int) = L[j] := by
  intro j hj
  unfold rd_T55
  rw [Int.toNat_natCast, List.getD_eq_getElem?_getD, List.getElem?_eq_getElem hj]; rfl
 rw [e i hi, e q hq]
 have hp := List.pairwise_iff_getElem.1 hv.pw
 rcases Nat.lt_or_gt_of_ne h with h | h
 ·
  exact hp i q hi hq h
 ·
  exact fun e => hp q i hq hi h e.symm

end Go.Proofs.Ytnemcppllfmioaa.Pure
namespace Go.Proofs.Ytnemcppllfmioaa.Pure
set_option linter.unusedVariables false
set_option linter.unusedSimpArgs false
open Go Go.RowKit Go.Proofs.Ytnemcppllfmioaa.PFnReadMelody Go.Proofs.YtnemcppllfmioaaW.PrintWords Go.Proofs.YtnemcppllfmioaaW.PrintLast Go.Proofs.YtnemcppllfmioaaW.PrintMore

structure Code (s : List Int) : Prop where
 b : ∀ x ∈ s, 0 ≤ x ∧ x ≤ 255
 l : s.length ≤ 2000
theorem open_ev (l0 : List Int) (hw : ∀ x ∈ l0, (Lit.int .u8 x).wf = true) : ∃ s, spec_l6Open.f l0 = some (s, 0) ∧ Code s := by
 have hb : ∀ x ∈ l0, 0 ≤ x ∧ x ≤ 255 := by
  intro x hx
  have := hw x hx
  have e1 : IntKind.u8.min = 0 := by decide
  have e2 : IntKind.u8.max = 255 := by decide
  simp only [Lit.wf, e1, e2] at this
  simpa using this
 unfold spec_l6Open.f
 by_cases h : (l0.length : Int) > 2000
 ·
  refine ⟨l0.take 2000, by rw [if_pos h, if_pos (by omega)], ⟨fun x hx => hb x (List.mem_of_mem_take hx), by rw [List.length_take]; omega⟩⟩
 ·
  exact ⟨l0, by rw [if_neg h], ⟨hb, by omega⟩⟩
theorem pick_ev {s : List Int} (hc : Code s) (p n : Int) (hp : 0 ≤ p) (hp' : p ≤ 1000000000) :
 Evx (fun k => spec_l6Rd_pick.f k s p n) (fun r => 0 ≤ r.1 ∧ (r.1 < n ∨ r.1 = 0) ∧ r.2 = p + 1) := by
 have hw : wrap64 (p + 1) = p + 1 := w64 (by omega) (by omega)
 have hw' : wrap64 (p + 1 - 1) = p := by rw [w64 (by omega) (by omega)]; omega
 have hl := hc.l
 unfold spec_l6Rd_pick.f
 rw [hw]
 by_cases hn : n < 1
 ·
  refine Evx.pos hn (Evx.succ ?_)
  simp only [spec_l6Rd_pick.j0, if_true]
  exact Evx.now ⟨by simp, by simp, rfl⟩
 ·
  refine Evx.neg hn (Evx.succ ?_)
  have tm : ∀ x : Int, 0 ≤ x → 0 ≤ Int.tmod x n ∧ Int.tmod x n < n := fun x hx => ⟨Int.tmod_nonneg n hx, Int.tmod_lt_of_pos x (by omega)⟩
  by_cases h0 : s.length = 0
  ·
   have e : ((s.length : Int) == 0) = true := by simp [h0]
   simp only [spec_l6Rd_pick.j0, e, if_true]
   exact Evx.now ⟨by simp, by simp, rfl⟩
  ·
   have e : ((s.length : Int) == 0) = false := by rw [beq_eq_false_iff_ne]; omega
   simp only [spec_l6Rd_pick.j0, e, hw']
   refine Evx.neg (by simp) ?_
   by_cases hlt : p < (s.length : Int)
   ·
    refine Evx.pos hlt (Evx.pos hp (Evx.neg (by omega) (Evx.now ?_)))
    have hb := rd_bd hc.b p
    rw [w64 (x := rd s p) (by omega) (by omega)]
    have := tm (rd s p) hb.1
    exact ⟨this.1, .inl this.2, rfl⟩
   ·
    refine Evx.neg hlt (Evx.neg (by omega) ?_)
    have t1 : 0 ≤ Int.tmod p s.length := Int.tmod_nonneg _ hp
    have t1' : Int.tmod p s.length < s.length := Int.tmod_lt_of_pos p (by omega)
    rw [w64 (x := p * 7) (by omega) (by omega), w64 (x := p * 7 + 3) (by omega) (by omega)]
    have t2 : 0 ≤ Int.tmod (p * 7 + 3) s.length := Int.tmod_nonneg _ (by omega)
    have t2' : Int.tmod (p * 7 + 3) s.length < s.length := Int.tmod_lt_of_pos _ (by omega)
    refine Evx.pos t1 (Evx.pos t1' (Evx.pos t2 (Evx.pos t2' (Evx.neg (by omega) (Evx.now ?_)))))
    have hb1 := rd_bd hc.b (Int.tmod p s.length)
    have hb2 := rd_bd hc.b (Int.tmod (p * 7 + 3) s.length)
    have hd : 0 ≤ Int.tdiv p s.length ∧ Int.tdiv p s.length ≤ p := by
     rw [Int.tdiv_eq_ediv_of_nonneg hp]
     exact ⟨Int.ediv_nonneg hp (by omega), Int.ediv_le_self _ hp⟩
    generalize rd s (Int.tmod p s.length) = a at *
    generalize rd s (Int.tmod (p * 7 + 3) s.length) = b at *
    generalize Int.tdiv p s.length = c at *
    obtain ⟨X, hX, hX0, hX1⟩ : ∃ X : Int, wrap64 (wrap64 (wrap64 (wrap64 (wrap64 a * 131) + wrap64 (wrap64 b * 1117)) + wrap64 (p * 29)) + wrap64 (wrap64 c * 53)) = X ∧ 0 ≤ X ∧ X < 1000000000000 := by
     refine ⟨a * 131 + b * 1117 + p * 29 + c * 53, ?_, by omega, by omega⟩
     rw [w64 (x := a) (by omega) (by omega), w64 (x := b) (by omega) (by omega), w64 (x := c) (by omega) (by omega), w64 (x := a * 131) (by omega) (by omega), w64 (x := b * 1117) (by omega) (by omega), w64 (x := p * 29) (by omega) (by omega), w64 (x := c * 53) (by omega) (by omega), w64 (x := a * 131 + b * 1117) (by omega) (by omega), w64 (x := a * 131 + b * 1117 + p * 29) (by omega) (by omega), w64 (by omega) (by omega)]
    rw [hX]
    have hq : 0 ≤ Int.tdiv X 64 ∧ Int.tdiv X 64 ≤ X := by
     rw [Int.tdiv_eq_ediv_of_nonneg hX0]; omega
    rw [w64 (x := Int.tdiv X 64) (by omega) (by omega)]
    have := tm _ (xor_bd X (Int.tdiv X 64) hX0 (by omega) hq.1 (by omega))
    exact ⟨this.1, .inl this.2, rfl⟩

theorem spec_l2Same_ev (a b : List Int) (hl : a.length ≤ 1000000000000) : Ev (fun k => spec_l2Same.f k a b) (a == b) := by
 unfold spec_l2Same.f
 by_cases hlen : (a.length : Int) = (b.length : Int)
 ·
  refine Ev.pos hlen ?_
  have := Ev.over (0 : Int) a (fun k (_ : Unit) i => spec_l2Same.l0 k a b i) (fun _ rest => rest == b.drop (a.length - rest.length)) (fun _ _ => True) (by
   intro s _
   refine Ev.succ ?_
   simp only [spec_l2Same.l0]
   refine Ev.eqr (Ev.neg (by omega) (Ev.now _)) ?_
   have : b.drop a.length = [] := List.drop_eq_nil_of_le (by omega)
   simp [this]) (by
   intro s i rest _ hi hdr ih
   have hrl : rest.length + 1 + i = a.length := by
    have := congrArg List.length hdr
    simp at this; omega
   refine Ev.succ ?_
   simp only [spec_l2Same.l0]
   rw [w64 (by omega) (by omega)]
   refine Ev.pos (by omega) (Ev.pos (by omega) (Ev.pos (by omega) ?_))
   have hra : rd a (i : Int) = a.getD i 0 := rfl
   have hrb : rd b (i : Int) = b.getD i 0 := rfl
   rw [hra, hrb]
   have e2 : a.length - (a.getD i 0 :: rest).length = i := by simp; omega
   have e1 : a.length - rest.length = i + 1 := by omega
   have e3 : b.drop i = b.getD i 0 :: b.drop (i + 1) := by
    rw [List.drop_eq_getElem_cons (by omega), List.getD_eq_getElem?_getD, List.getElem?_eq_getElem (by omega)]; rfl
   rw [e2, e3]
   have ih := ih () trivial
   rw [e1] at ih
   by_cases h : a.getD i 0 = b.getD i 0
   ·
    refine Ev.pos h (Ev.eqr ih ?_)
    rw [h, Bool.eq_iff_iff]; simp
   ·
    refine Ev.neg h (Ev.eqr (Ev.now _) ?_)
    symm; rw [beq_eq_false_iff_ne]; intro hc; exact h (List.cons.inj hc).1) 0 () (Nat.zero_le _) trivial
  simpa using this
 ·
  refine Ev.neg hlen (Ev.eqr (Ev.now _) ?_)
  symm; rw [beq_eq_false_iff_ne]; rintro rfl; exact hlen rfl

def DrF (l : List S55) : Prop := l.length ≤ 7 ∧ ∀ x ∈ l, x.f0.length ≤ 3
theorem l92_two {s : List Int} {Q : List S55 × Int → Prop} (out : List S55) (n i p w : Int) (fs : List Int) (ho : ∀ x ∈ out, x.f0.length ≤ 3) (hol : out.length ≤ 100)
 (hk : Evx (fun k => spec_l92Formulas.l0 k out n (wrap64 (i + 1)) s p) Q) (hk' : Evx (fun k => spec_l92Formulas.l0 k (out ++ [⟨fs, w⟩]) n (wrap64 (i + 1)) s p) Q) (d : Nat) :
 ∀ (x9 : Bool) (j : Nat), j + d = out.length → Evx (fun k => spec_l92Formulas.l2 k out n i x9 (j : Int) s p fs w) Q := by
 induction d with
 | zero =>
  intro x9 j hj
  refine Evx.succ ?_
  simp only [spec_l92Formulas.l2]
  refine Evx.neg (by omega) ?_
  cases x9
  ·
   exact Evx.neg (by simp) hk
  ·
   exact Evx.pos rfl (Evx.pos (by omega) hk')
 | succ d ih =>
  intro x9 j hj
  refine Evx.succ ?_
  simp only [spec_l92Formulas.l2]
  rw [w64 (x := (j : Int) + 1) (by omega) (by omega)]
  have e : ((j : Int) + 1) = ((j + 1 : Nat) : Int) := by omega
  rw [e]
  refine Evx.pos (by omega) ?_
  cases x9
  ·
   exact Evx.neg (by simp) (ih false (j + 1) (by omega))
  ·
   refine Evx.pos rfl (Evx.pos (by omega) (Evx.bind1 (spec_l2Same_ev _ fs ?_) (ih _ (j + 1) (by omega))))
   have := ho _ (rd_mem (l := out) (k := (j : Int)) (by omega) (by omega))
   omega
theorem l92_one {s : List Int} (hc : Code s) {Q : List S55 × Int → Prop} (out : List S55) (n i x7 w : Int) (P : Int) (hP : P ≤ 1000000000)
 (hk : ∀ (fs : List Int) (p : Int), fs.length ≤ 3 → 0 ≤ p → p ≤ P → Evx (fun k => spec_l92Formulas.l2 k out n i true 0 s p fs w) Q) (d : Nat) :
 ∀ (x8 p : Int) (fs : List Int), 0 ≤ x8 → x7 - x8 = d → x7 ≤ 3 → fs.length + d ≤ 3 → 0 ≤ p → p + d ≤ P → Evx (fun k => spec_l92Formulas.l1 k out n i x7 x8 s p fs w) Q := by
 induction d with
 | zero =>
  intro x8 p fs h0 h1 h2 h3 h4 h5
  refine Evx.succ ?_
  simp only [spec_l92Formulas.l1]
  exact Evx.neg (by omega) (hk fs p (by omega) h4 (by omega))
 | succ d ih =>
  intro x8 p fs h0 h1 h2 h3 h4 h5
  refine Evx.succ ?_
  simp only [spec_l92Formulas.l1]
  rw [w64 (x := x8 + 1) (by omega) (by omega)]
  refine Evx.pos (by omega) (Evx.bind (pick_ev hc p 3 h4 (by omega)) ?_)
  rintro ⟨r, q⟩ ⟨hr0, hr1, rfl⟩
  exact Evx.pos (by omega) (ih (x8 + 1) (p + 1) _ (by omega) (by omega) h2 (by rw [List.length_append, List.length_singleton]; omega) (by omega) (by omega))
theorem DrF.set {l : List S55} (h : DrF l) (j : Nat) {x : S55} (hx : x.f0.length ≤ 3) : DrF (l.set j x) := by
 refine ⟨by rw [List.length_set]; exact h.1, fun y hy => ?_⟩
 rcases List.mem_or_eq_of_mem_set hy with hy | rfl
 ·
  exact h.2 y hy
 ·
  exact hx
theorem drawFormulas_loop {s : List Int} (hc : Code s) (n : Int) (hn : n ≤ 5) (d : Nat) : ∀ (out : List S55) (i p : Int), 0 ≤ i → n - i = d → (out.length : Int) ≤ i → (1 ≤ i → 1 ≤ out.length) → 1 ≤ n → (∀ x ∈ out, x.f0.length ≤ 3) → 0 ≤ p → p + 10 * d ≤ 1000000 →
 Evx (fun k => spec_l92Formulas.l0 k out n i s p) (fun r => DrF r.1 ∧ 0 ≤ r.2 ∧ r.2 ≤ p + 10 * d + 2) := by
 induction d with
 | zero =>
  intro out i p h0 h1 h2 h3 h4 h5 h6 h7
  have hne := h3 (by omega)
  have hD : DrF out := ⟨by omega, h5⟩
  have hz : (rd_T55 out 0).f0.length ≤ 3 := h5 _ (rd_mem (k := 0) (by omega) (by omega))
  refine Evx.succ ?_
  simp only [spec_l92Formulas.l0]
  refine Evx.neg (by omega) (Evx.bind (pick_ev hc p 40 h6 (by omega)) ?_)
  rintro ⟨r, q⟩ ⟨hr0, hr1, rfl⟩
  refine Evx.ite (fun _ => ?_) (fun _ => Evx.ite (fun _ => ?_) (fun _ => Evx.ite (fun _ => ?_) (fun _ => Evx.ite (fun _ => ?_) (fun _ => ?_))))
  ·
   refine Evx.someb (Evx.bind (pick_ev hc (p + 1) 2 (by omega) (by omega)) ?_)
   rintro ⟨u, q⟩ ⟨hu0, hu1, rfl⟩
   have hu0 : 0 ≤ u := hu0
   have hu1 : u < 2 ∨ u = 0 := hu1
   exact Evx.pos hu0 (Evx.pos (by simp; omega) (Evx.pos (by omega) (Evx.now ⟨hD.set _ hz, by show 0 ≤ p + 1 + 1; omega, by show p + 1 + 1 ≤ _; omega⟩)))
  ·
   refine Evx.pos (by omega) (Evx.pos (by omega) (Evx.now ⟨⟨by rw [List.length_append, List.length_singleton]; omega, fun x hx => ?_⟩, by show 0 ≤ p + 1; omega, by show p + 1 ≤ _; omega⟩))
   rcases List.mem_append.1 hx with hx | hx
   ·
    exact h5 x hx
   ·
    rw [List.mem_singleton.1 hx]; exact hz
  ·
   exact Evx.pos (by omega) (Evx.now ⟨hD.set _ (by simp), by show 0 ≤ p + 1; omega, by show p + 1 ≤ _; omega⟩)
  ·
   exact Evx.now ⟨⟨by simp, by simp⟩, by show 0 ≤ p + 1; omega, by show p + 1 ≤ _; omega⟩
  ·
   exact Evx.now ⟨hD, by show 0 ≤ p + 1; omega, by show p + 1 ≤ _; omega⟩
 | succ d ih =>
  intro out i p h0 h1 h2 h3 h4 h5 h6 h7
  refine Evx.succ ?_
  simp only [spec_l92Formulas.l0]
  refine Evx.pos (by omega) (Evx.bind (pick_ev hc p 5 h6 (by omega)) ?_)
  rintro ⟨u, q⟩ ⟨hu0, hu1, rfl⟩
  refine Evx.bind (pick_ev hc (p + 1) 3 (by omega) (by omega)) ?_
  rintro ⟨v, q⟩ ⟨hv0, hv1, rfl⟩
  have hv0 : 0 ≤ v := hv0
  have hv1 : v < 3 ∨ v = 0 := hv1
  rw [w64 (x := 1 + v) (by omega) (by omega)]
  have nxt : ∀ out' : List S55, (out'.length : Int) ≤ i + 1 → 1 ≤ out'.length → (∀ x ∈ out', x.f0.length ≤ 3) → ∀ q, 0 ≤ q → q ≤ p + 6 → Evx (fun k => spec_l92Formulas.l0 k out' n (wrap64 (i + 1)) s q) (fun r => DrF r.1 ∧ 0 ≤ r.2 ∧ r.2 ≤ p + 10 * ((d + 1 : Nat) : Int) + 2) := by
   intro out' a1 a2 a3 q a4 a5
   rw [w64 (x := i + 1) (by omega) (by omega)]
   exact (ih out' (i + 1) q (by omega) (by omega) a1 (fun _ => a2) h4 a3 a4 (by omega)).mono (fun r h => ⟨h.1, h.2.1, by have := h.2.2; omega⟩)
  obtain ⟨e, he⟩ : ∃ e : Nat, (1 + v) - 0 = e := ⟨(1 + v).toNat, by omega⟩
  refine l92_one hc out n i (1 + v) _ (p + 6) (by omega) (fun fs q hf hq hq' => ?_) e 0 (p + 1 + 1) [] (by omega) he (by omega) (by simp; omega) (by omega) (by omega)
  by_cases hz : out = []
  ·
   subst hz
   refine Evx.succ ?_
   simp only [spec_l92Formulas.l2]
   refine Evx.neg (by simp) (Evx.pos trivial (Evx.pos (by simp) (nxt _ (by simp; omega) (by simp) (by simpa using hf) q hq hq')))
  ·
   have hlz : 1 ≤ out.length := List.length_pos_iff.2 hz
   refine l92_two out n i q _ fs h5 (by omega) (nxt out (by omega) hlz h5 q hq hq') (nxt _ (by rw [List.length_append, List.length_singleton]; omega) (by rw [List.length_append, List.length_singleton]; omega) (fun x hx => ?_) q hq hq') out.length true 0 (by omega)
   rcases List.mem_append.1 hx with hx | hx
   ·
    exact h5 x hx
   ·
    rw [List.mem_singleton.1 hx]; exact hf
theorem drawFormulas_ev {s : List Int} (hc : Code s) (p : Int) (hp : 0 ≤ p) (hp' : p ≤ 10000) : Evx (fun k => spec_l92Formulas.f k s p) (fun r => DrF r.1 ∧ 0 ≤ r.2 ∧ r.2 ≤ p + 53) := by
 unfold spec_l92Formulas.f
 refine Evx.bind (pick_ev hc p 5 hp (by omega)) ?_
 rintro ⟨u, q⟩ ⟨hu0, hu1, rfl⟩
 have hu0 : 0 ≤ u := hu0
 have hu1 : u < 5 ∨ u = 0 := hu1
 rw [w64 (x := 1 + u) (by omega) (by omega)]
 obtain ⟨e, he⟩ : ∃ e : Nat, (1 + u) - 0 = e := ⟨(1 + u).toNat, by omega⟩
 exact (drawFormulas_loop hc (1 + u) (by omega) e [] 0 (p + 1) (by omega) he (by simp) (by omega) (by omega) (by simp) (by omega) (by omega)).mono (fun r h => ⟨h.1, h.2.1, by have := h.2.2; omega⟩)

theorem spec_l6fOne_ev (x : S55) (hl : x.f0.length ≤ 1000000000000) : Ev (fun k => spec_l6fOne.f k x.f0 x.f1) (fOk x) := by
 unfold spec_l6fOne.f
 have := Ev.over (0 : Int) x.f0 (fun k (_ : Unit) i => spec_l6fOne.l0 k i x.f0 x.f1) (fun _ rest => rest.all (inR (-7) 7) && (decide (1 ≤ (x.f0.length : Int) ∧ (x.f0.length : Int) ≤ 5) && decide (1 ≤ x.f1 ∧ x.f1 ≤ 9))) (fun _ _ => True) (by
  intro s _
  refine Ev.succ ?_
  simp only [spec_l6fOne.l0, List.all_nil, Bool.true_and]
  refine Ev.neg (by omega) (Ev.conb (spec_l6In_eq _ _ _) ?_)
  by_cases h : 1 ≤ (x.f0.length : Int) ∧ (x.f0.length : Int) ≤ 5
  ·
   rw [decide_eq_true h]
   exact Ev.pos rfl (Ev.conb (spec_l6In_eq _ _ _) (Ev.now _))
  ·
   rw [decide_eq_false h]
   exact Ev.neg (by simp) (Ev.now _)) (by
  intro s i rest _ hi _ ih
  refine Ev.succ ?_
  simp only [spec_l6fOne.l0, List.all_cons]
  rw [w64 (by omega) (by omega)]
  refine Ev.pos (by omega) (Ev.pos (by omega) (Ev.conb (spec_l6In_eq _ _ _) ?_))
  have hrd : rd x.f0 (i : Int) = x.f0.getD i 0 := rfl
  rw [hrd]
  show Ev _ ((decide (-7 ≤ x.f0.getD i 0 ∧ x.f0.getD i 0 ≤ 7) && _) && _)
  by_cases h : -7 ≤ x.f0.getD i 0 ∧ x.f0.getD i 0 ≤ 7
  ·
   rw [decide_eq_true h]
   exact Ev.pos rfl (ih () trivial)
  ·
   rw [decide_eq_false h]
   exact Ev.neg (by simp) (Ev.now _)) 0 () (Nat.zero_le _) trivial
 refine Ev.eqr (by simpa using this) ?_
 unfold fOk
 cases x.f0.all (inR (-7) 7) <;> simp
theorem spec_FormulasValid_ev (l : List S55) (hll : l.length ≤ 1000000000000) (hl : ∀ x ∈ l, x.f0.length ≤ 1000000000000) : Ev (fun k => spec_FormulasValid.f k l) (fsOk l) := by
 unfold spec_FormulasValid.f
 have := Ev.over z55 l (fun k (_ : Unit) i => spec_FormulasValid.l0 k l i) (fun _ rest => goF (l.take (l.length - rest.length)) rest && decide ((l.length : Int) ≤ 8)) (fun _ _ => True) (by
  intro s _
  refine Ev.succ ?_
  simp only [spec_FormulasValid.l0, goF, Bool.true_and]
  exact Ev.neg (by omega) (Ev.now _)) (by
  intro s i rest _ hi hdr ih
  have hrl : rest.length + 1 + i = l.length := by
   have := congrArg List.length hdr
   simp at this; omega
  have hm : l.getD i z55 ∈ l := by
   rw [List.getD_eq_getElem?_getD, List.getElem?_eq_getElem hi]; exact List.getElem_mem hi
  have hx := hl _ hm
  refine Ev.succ ?_
  simp only [spec_FormulasValid.l0]
  refine Ev.pos (by omega) (Ev.pos (by omega) ?_)
  have hrd : rd_T55 l (i : Int) = l.getD i z55 := rfl
  have e2 : l.length - (l.getD i z55 :: rest).length = i := by simp; omega
  have e1 : l.length - rest.length = i + 1 := by omega
  have ih := ih () trivial
  rw [e1, take_rd l i hi] at ih
  rw [e2]
  rw [← hrd] at hx ih ⊢
  simp only [goF]
  refine Ev.bind (spec_l6fOne_ev _ hx) ?_
  cases hf : fOk (rd_T55 l (i : Int))
  ·
   exact Ev.neg (by simp) (Ev.now _)
  refine Ev.pos rfl ?_
  simp only [Bool.true_and]
  have htl : (l.take i).length = i := by simp; omega
  have inner := Ev.over z55 (l.take i) (fun k (_ : Unit) j => spec_FormulasValid.l1 k l i j) (fun _ rest' => (!(rest'.any (fun y => y.f0 == (rd_T55 l (i : Int)).f0)) && goF (l.take i ++ [rd_T55 l (i : Int)]) rest) && decide ((l.length : Int) ≤ 8)) (fun _ _ => True) (by
   intro s _
   refine Ev.succ ?_
   simp only [spec_FormulasValid.l1]
   refine Ev.neg (by omega) ?_
   rw [w64 (by omega) (by omega)]
   simpa using ih) (by
   intro s j rest' _ hj _ ih'
   have hjm : (l.take i).getD j z55 ∈ l := by
    rw [List.getD_eq_getElem?_getD, List.getElem?_eq_getElem hj]; exact List.mem_of_mem_take (List.getElem_mem hj)
   have hxj := hl _ hjm
   refine Ev.succ ?_
   simp only [spec_FormulasValid.l1]
   refine Ev.pos (by omega) (Ev.pos (by omega) (Ev.pos (by omega) (Ev.pos (by omega) (Ev.pos (by omega) ?_))))
   have hrd' : rd_T55 l (j : Int) = (l.take i).getD j z55 := by
    rw [List.getD_eq_getElem?_getD, List.getElem?_take, if_pos (by omega)]
    simp [rd_T55]
   rw [hrd']
   generalize (l.take i).getD j z55 = y at hxj
   refine Ev.bind (spec_l2Same_ev _ _ hx) ?_
   simp only [List.any_cons]
   have hcm : (y.f0 == (rd_T55 l (i : Int)).f0) = ((rd_T55 l (i : Int)).f0 == y.f0) := by rw [Bool.eq_iff_iff, beq_iff_eq, beq_iff_eq]; exact eq_comm
   rw [hcm]
   cases (rd_T55 l (i : Int)).f0 == y.f0
   ·
    refine Ev.neg (by simp) ?_
    rw [w64 (by omega) (by omega)]
    simpa using ih' () trivial
   ·
    exact Ev.pos rfl (Ev.now _)) 0 () (Nat.zero_le _) trivial
  simpa using inner) 0 () (Nat.zero_le _) trivial
 refine Ev.eqr (by simpa using this) ?_
 unfold fsOk
 rw [Bool.and_comm]

def goB (l : List S55) : List Int → List Int → List Int × Bool
 | acc, [] => (acc, true)
 | acc, i :: is => if i < 0 ∨ (l.length : Int) ≤ i ∨ acc.length + (rd_T55 l i).f0.length > 23 then ([], false) else goB l (acc ++ (rd_T55 l i).f0) is
def fbuild (l : List S55) (r : List Int) : List Int × Bool := if fsOk l = true then goB l [] r else ([], false)
theorem goB_len (l : List S55) : ∀ r acc, acc.length ≤ 23 → (goB l acc r).1.length ≤ 23
 | [], acc, h => h
 | i :: is, acc, h => by
  simp only [goB]
  split
  ·
   simp
  ·
   exact goB_len l is _ (by rw [List.length_append]; omega)
theorem fbuild_len (l : List S55) (r : List Int) : (fbuild l r).1.length ≤ 23 := by
 unfold fbuild
 split
 ·
  exact goB_len l r [] (by simp)
 ·
  simp
theorem impl_FormulasBuild_ev (l : List S55) (r : List Int) (hl : ∀ x ∈ l, x.f0.length ≤ 1000000000000) (hr : r.length ≤ 1000000000000) : Ev (fun k => impl_FormulasBuild.f k l r) (fbuild l r) := by
 unfold impl_FormulasBuild.f fbuild
 refine Ev.bind (impl_FormulasValid_ev l hl) ?_
 cases hok : fsOk l
 ·
  exact Ev.neg (by simp) (Ev.eqr (Ev.now _) (by simp))
 refine Ev.pos rfl ?_
 rw [if_pos rfl]
 have h8 := fsOk_len hok
 have := Ev.over (0 : Int) r (fun k (s : List Int) i => impl_FormulasBuild.l0 k l s r r.length i) (fun s rest => goB l s rest) (fun i s => s.length ≤ 23) (by
  intro s _
  refine Ev.succ ?_
  simp only [impl_FormulasBuild.l0, goB]
  exact Ev.neg (by omega) (Ev.now _)) (by
  intro s i rest hs hi _ ih
  refine Ev.succ ?_
  simp only [impl_FormulasBuild.l0, goB]
  refine Ev.pos (by omega) (Ev.pos (by omega) (Ev.pos (by omega) ?_))
  have hrd : rd r (i : Int) = r.getD i 0 := rfl
  rw [hrd]
  generalize r.getD i 0 = n
  by_cases h1 : n < 0
  ·
   rw [if_pos (Or.inl h1)]
   exact Ev.pos h1 (Ev.now _)
  ·
   refine Ev.neg h1 ?_
   by_cases h2 : n ≥ (l.length : Int)
   ·
    rw [if_pos (Or.inr (Or.inl h2))]
    exact Ev.pos h2 (Ev.now _)
   ·
    refine Ev.neg h2 (Ev.pos (by omega) (Ev.pos (by omega) ?_))
    have hw := fOk_len (fsOk_all hok _ (rd_mem (k := n) (by omega) (by omega)))
    rw [w64 (by omega) (by omega)]
    by_cases h3 : (s.length : Int) + ((rd_T55 l n).f0.length : Int) > 23
    ·
     rw [if_pos (Or.inr (Or.inr (by omega)))]
     exact Ev.pos h3 (Ev.now _)
    ·
     rw [if_neg (by omega)]
     refine Ev.neg h3 (Ev.pos (by omega) ?_)
     rw [w64 (by omega) (by omega)]
     exact ih _ (by rw [List.length_append]; omega)) 0 [] (Nat.zero_le _) (by simp)
 simpa using this
theorem spec_FormulasBuild_ev (l : List S55) (r : List Int) (hll : l.length ≤ 1000000000000) (hl : ∀ x ∈ l, x.f0.length ≤ 1000000000000) (hr : r.length ≤ 1000000000000) : Ev (fun k => spec_FormulasBuild.f k l r) (fbuild l r) := by
 unfold spec_FormulasBuild.f fbuild
 refine Ev.someb (Ev.bind (spec_FormulasValid_ev l hll hl) ?_)
 cases hok : fsOk l
 ·
  exact Ev.neg (by simp) (Ev.eqr (Ev.now _) (by simp))
 refine Ev.pos rfl ?_
 rw [if_pos rfl]
 have h8 := fsOk_len hok
 have := Ev.over (0 : Int) r (fun k (s : List Int) i => spec_FormulasBuild.l0 k l r s i) (fun s rest => goB l s rest) (fun i s => s.length ≤ 23) (by
  intro s _
  refine Ev.succ ?_
  simp only [spec_FormulasBuild.l0, goB]
  exact Ev.neg (by omega) (Ev.now _)) (by
  intro s i rest hs hi _ ih
  refine Ev.succ ?_
  simp only [spec_FormulasBuild.l0, goB]
  rw [w64 (x := (l.length : Int) - 1) (by omega) (by omega)]
  refine Ev.pos (by omega) (Ev.pos (by omega) (Ev.conb (spec_l6In_eq _ _ _) ?_))
  have hrd : rd r (i : Int) = r.getD i 0 := rfl
  rw [hrd]
  generalize r.getD i 0 = n
  by_cases h1 : 0 ≤ n ∧ n ≤ (l.length : Int) - 1
  ·
   rw [decide_eq_true h1]
   have hw := fOk_len (fsOk_all hok _ (rd_mem (k := n) (by omega) (by omega)))
   refine Ev.pos rfl (Ev.pos h1.1 (Ev.pos (by omega) (Ev.pos (by omega) (Ev.someb ?_))))
   by_cases h3 : ((s ++ (rd_T55 l n).f0).length : Int) ≥ 24
   ·
    rw [if_pos (by rw [List.length_append] at h3; omega)]
    exact Ev.pos h3 (Ev.now _)
   ·
    have h3' := h3
    rw [List.length_append] at h3'
    rw [if_neg (by omega), w64 (by omega) (by omega)]
    exact Ev.neg h3 (ih _ (by rw [List.length_append]; omega))
  ·
   rw [decide_eq_false h1, if_pos (by omega)]
   exact Ev.neg (by simp) (Ev.now _)) 0 [] (Nat.zero_le _) (by simp)
 simpa using this

def okIx (L : List S55) (r : List Int) : Prop := ∀ i ∈ r, 0 ≤ i ∧ i < (L.length : Int)
def flatR (L : List S55) : List Int → List Int
 | [] => []
 | i :: r => (rd_T55 L i).f0 ++ flatR L r
def sumW (L : List S55) : List Int → Int
 | [] => 0
 | i :: r => (rd_T55 L i).f1 + sumW L r
theorem goB_of {L : List S55} : ∀ (r acc : List Int), okIx L r → (acc ++ flatR L r).length ≤ 23 → goB L acc r = (acc ++ flatR L r, true)
 | [], acc, _, _ => by simp [goB, flatR]
 | i :: r, acc, h, hl => by
  have hi := h i List.mem_cons_self
  simp only [flatR] at hl ⊢
  simp only [goB]
  rw [if_neg (by rw [List.length_append, List.length_append] at hl; omega), goB_of r _ (fun j hj => h j (List.mem_cons_of_mem _ hj)) (by rw [List.append_assoc]; exact hl), List.append_assoc]
theorem goB_inv {L : List S55} : ∀ (r acc : List Int), acc.length ≤ 23 → (goB L acc r).2 = true → okIx L r ∧ (acc ++ flatR L r).length ≤ 23
 | [], acc, hl, _ => ⟨fun i hi => by simp at hi, by simpa [flatR] using hl⟩
 | i :: r, acc, hl, h => by
  simp only [goB] at h
  by_cases hc : i < 0 ∨ (L.length : Int) ≤ i ∨ acc.length + (rd_T55 L i).f0.length > 23
  ·
   rw [if_pos hc] at h; cases h
  ·
   rw [if_neg hc] at h
   obtain ⟨h1, h2⟩ := goB_inv r _ (by rw [List.length_append]; omega) h
   refine ⟨fun j hj => ?_, by simp only [flatR]; rw [← List.append_assoc]; exact h2⟩
   rcases List.mem_cons.1 hj with rfl | hj
   ·
    omega
   ·
    exact h1 j hj
theorem fbuild_of {L : List S55} {r : List Int} (hv : fsOk L = true) (h : okIx L r) (hl : (flatR L r).length ≤ 23) : fbuild L r = (flatR L r, true) := by
 unfold fbuild
 rw [if_pos hv, goB_of r [] h (by simpa using hl)]; simp
theorem fbuild_inv {L : List S55} {r : List Int} (h : (fbuild L r).2 = true) : fsOk L = true ∧ okIx L r ∧ (flatR L r).length ≤ 23 ∧ (fbuild L r).1 = flatR L r := by
 have hv : fsOk L = true := by
  unfold fbuild at h
  by_cases hv : fsOk L = true
  ·
   exact hv
  ·
   rw [if_neg hv] at h; cases h
 have h' : (goB L [] r).2 = true := by unfold fbuild at h; rw [if_pos hv] at h; exact h
 obtain ⟨h1, h2⟩ := goB_inv r [] (by simp) h'
 have h2 : (flatR L r).length ≤ 23 := by simpa using h2
 exact ⟨hv, h1, h2, by rw [fbuild_of hv h1 h2]⟩
theorem lA_le {c : S55 → Int} {g : List Int → Int} {s : List Int} : ∀ (l : List S55) (a : Int), (∀ f ∈ l, 0 ≤ c f) → -1 ≤ a → (0 ≤ a → 0 ≤ lA c g s l a ∧ lA c g s l a ≤ a) ∧ (∀ f ∈ l, isPre f.f0 s = true → 0 ≤ g (s.drop f.f0.length) → 0 ≤ lA c g s l a ∧ lA c g s l a ≤ g (s.drop f.f0.length) + c f)
 | [], a, _, _ => ⟨fun h => ⟨h, Int.le_refl _⟩, fun f hf => by simp at hf⟩
 | x :: l, a, hc, ha => by
  have hc' := fun f hf => hc f (List.mem_cons_of_mem _ hf)
  have hx := hc x List.mem_cons_self
  simp only [lA]
  by_cases hp : isPre x.f0 s = true
  ·
   rw [if_pos hp]
   by_cases hg : g (s.drop x.f0.length) < 0
   ·
    rw [if_pos hg]
    obtain ⟨h1, h2⟩ := lA_le (g := g) (s := s) l a hc' ha
    refine ⟨h1, fun f hf hpf hgf => ?_⟩
    rcases List.mem_cons.1 hf with rfl | hf
    ·
     omega
    ·
     exact h2 f hf hpf hgf
   ·
    rw [if_neg hg]
    generalize hv : g (s.drop x.f0.length) + c x = v
    have hv0 : 0 ≤ v := by omega
    by_cases hlt : a < 0 ∨ v < a
    ·
     rw [if_pos hlt]
     obtain ⟨h1, h2⟩ := lA_le (g := g) (s := s) l v hc' (by omega)
     have h1 := h1 hv0
     refine ⟨fun ha' => by omega, fun f hf hpf hgf => ?_⟩
     rcases List.mem_cons.1 hf with rfl | hf
     ·
      omega
     ·
      exact h2 f hf hpf hgf
    ·
     rw [if_neg hlt]
     obtain ⟨h1, h2⟩ := lA_le (g := g) (s := s) l a hc' ha
     have h1 := h1 (by omega)
     refine ⟨fun _ => h1, fun f hf hpf hgf => ?_⟩
     rcases List.mem_cons.1 hf with rfl | hf
     ·
      omega
     ·
      exact h2 f hf hpf hgf
  ·
   rw [if_neg hp]
   obtain ⟨h1, h2⟩ := lA_le (g := g) (s := s) l a hc' ha
   refine ⟨h1, fun f hf hpf hgf => ?_⟩
   rcases List.mem_cons.1 hf with rfl | hf
   ·
    exact absurd hpf hp
   ·
    exact h2 f hf hpf hgf
theorem reads_least {L : List S55} (hv : FsV L) : ∀ (r : List Int), okIx L r → (flatR L r).length ≤ 23 → (0 ≤ oW (rdO L (flatR L r)) ∧ oW (rdO L (flatR L r)) ≤ sumW L r) ∧ (0 ≤ oF (rdO L (flatR L r)) ∧ oF (rdO L (flatR L r)) ≤ (r.length : Int))
 | [], _, _ => by simp only [flatR]; rw [rdO_nil]; simp [oW, oF, sumW]
 | i :: r, h, hl => by
  have hi := h i List.mem_cons_self
  have hm := rd_mem hi.1 hi.2
  simp only [flatR] at hl ⊢
  have h1 := hv.one _ hm
  obtain ⟨a, b⟩ := reads_least hv r (fun j hj => h j (List.mem_cons_of_mem _ hj)) (by rw [List.length_append] at hl; omega)
  have hne : (rd_T55 L i).f0 ++ flatR L r ≠ [] := by
   intro e
   have := congrArg List.length e
   rw [List.length_append, List.length_nil] at this; omega
  obtain ⟨e1, e2⟩ := rdO_least hv hl hne
  have ed : ((rd_T55 L i).f0 ++ flatR L r).drop (rd_T55 L i).f0.length = flatR L r := by simp
  rw [e1, e2]
  have l1 := (lA_le (c := fun f => f.f1) (g := fun t => oW (rdO L t)) (s := (rd_T55 L i).f0 ++ flatR L r) L (-1) (fun f hf => by have := hv.wt f hf; show 0 ≤ f.f1; omega) (by omega)).2 _ hm (isPre_app _ _) (by rw [ed]; exact a.1)
  have l2 := (lA_le (c := fun _ => 1) (g := fun t => oF (rdO L t)) (s := (rd_T55 L i).f0 ++ flatR L r) L (-1) (fun f hf => by show (0 : Int) ≤ 1; omega) (by omega)).2 _ hm (isPre_app _ _) (by rw [ed]; exact b.1)
  rw [ed] at l1 l2
  refine ⟨⟨l1.1, ?_⟩, l2.1, ?_⟩
  ·
   have := l1.2; simp only [sumW]; omega
  ·
   have := l2.2; rw [List.length_cons]; omega
theorem oW_nn {o : OutC} : 0 ≤ oW o → o.f0 ≠ 0 := by
 intro h hz
 unfold oW at h
 rw [if_pos hz] at h; omega
theorem reads_many {L : List S55} (hv : FsV L) {r : List Int} (h : okIx L r) (hl : (flatR L r).length ≤ 23) : 1 ≤ (rdO L (flatR L r)).f0 := by
 have h1 := oW_nn (reads_least hv r h hl).1.1
 have h2 := (rdO_bd hv _ (flatR L r) rfl hl).lo
 omega
def selA (x : Int × Int) : Int := if x.1 < 0 then -1 else x.2
def BInv (L : List S55) (s : List Int) (x : Int × Int) : Prop := x.1 < 0 ∨ (0 ≤ x.2 ∧ 0 ≤ x.1 ∧ x.1 < (L.length : Int) ∧ isPre (rd_T55 L x.1).f0 s = true ∧ (rdO L (s.drop (rd_T55 L x.1).f0.length)).f0 ≠ 0 ∧ x.2 = (rd_T55 L x.1).f1 + oW (rdO L (s.drop (rd_T55 L x.1).f0.length)))
theorem bestF_lA {L : List S55} (hv : FsV L) {s : List Int} (hs : s.length ≤ 23) : ∀ (l : List S55) (q : Nat), l = L.drop q → ∀ (b a : Int), BInv L s (b, a) →
 BInv L s (bestF L (rdC (rdO L) s (q : Int) l) (b, a)) ∧ lA (fun f => f.f1) (fun t => oW (rdO L t)) s l (selA (b, a)) = selA (bestF L (rdC (rdO L) s (q : Int) l) (b, a))
 | [], q, _, b, a, h => ⟨h, rfl⟩
 | f :: fs, q, hq, b, a, h => by
  have hlt : q < L.length := by
   rcases Nat.lt_or_ge q L.length with h | h
   ·
    exact h
   ·
    rw [List.drop_eq_nil_of_le h] at hq; cases hq
  have hf : f = rd_T55 L (q : Int) ∧ fs = L.drop (q + 1) := by
   rw [List.drop_eq_getElem_cons hlt] at hq
   refine ⟨?_, (List.cons.inj hq).2⟩
   unfold rd_T55
   rw [Int.toNat_natCast, List.getD_eq_getElem?_getD, List.getElem?_eq_getElem hlt]
   exact (List.cons.inj hq).1
  have e2 : ((q : Int) + 1) = ((q + 1 : Nat) : Int) := by omega
  have hm : rd_T55 L (q : Int) ∈ L := rd_mem (by omega) (by omega)
  have h1 := hv.one _ hm
  have hw := hv.wt _ hm
  simp only [rdC, lA]
  rw [e2]
  by_cases hp : isPre f.f0 s = true
  ·
   have hl := isPre_len hp
   have hbd := rdO_bd hv (s.length - f.f0.length) (s.drop f.f0.length) (by rw [List.length_drop]) (by omega)
   rw [if_pos hp, if_pos hp]
   by_cases hz : (rdO L (s.drop f.f0.length)).f0 = 0
   ·
    have e1 : oW (rdO L (s.drop f.f0.length)) = -1 := if_pos hz
    rw [if_pos hz, if_pos (by rw [e1]; omega)]
    exact bestF_lA hv hs fs (q + 1) hf.2 b a h
   ·
    have e1 : oW (rdO L (s.drop f.f0.length)) = (rdO L (s.drop f.f0.length)).f1 := if_neg hz
    have w0 := hbd.w0 hz
    have w1 := hbd.w1 hz
    rw [if_neg hz, if_neg (by rw [e1]; omega)]
    simp only [bestF]
    rw [hf.1] at hp hz e1 w0 w1 hl ⊢
    have ew : wrap64 ((rd_T55 L (q : Int)).f1 + (rdO L (s.drop (rd_T55 L (q : Int)).f0.length)).f1) = (rd_T55 L (q : Int)).f1 + oW (rdO L (s.drop (rd_T55 L (q : Int)).f0.length)) := by rw [w64 (by omega) (by omega), e1]
    rw [ew]
    have ec : oW (rdO L (s.drop (rd_T55 L (q : Int)).f0.length)) + (rd_T55 L (q : Int)).f1 = (rd_T55 L (q : Int)).f1 + oW (rdO L (s.drop (rd_T55 L (q : Int)).f0.length)) := by omega
    rw [ec]
    generalize hV : (rd_T55 L (q : Int)).f1 + oW (rdO L (s.drop (rd_T55 L (q : Int)).f0.length)) = V
    have hV0 : 0 ≤ V := by omega
    have sq : selA ((q : Int), V) = V := if_neg (by show ¬ (q : Int) < 0; omega)
    have nxt := bestF_lA hv hs fs (q + 1) hf.2 (q : Int) V (.inr ⟨hV0, by show 0 ≤ (q : Int); omega, by show (q : Int) < _; omega, hp, hz, hV.symm⟩)
    rw [sq] at nxt
    by_cases hb : b < 0
    ·
     have sb : selA (b, a) = -1 := if_pos hb
     rw [sb, if_pos (show (-1 : Int) < 0 ∨ V < -1 from .inl (by omega)), if_pos (show b < 0 ∨ V < a from .inl hb)]
     exact nxt
    ·
     have ha : 0 ≤ a := by rcases h with h | h; exact absurd h hb; exact h.1
     have sb : selA (b, a) = a := if_neg hb
     rw [sb]
     by_cases hc : V < a
     ·
      rw [if_pos (show a < 0 ∨ V < a from .inr hc), if_pos (show b < 0 ∨ V < a from .inr hc)]
      exact nxt
     ·
      rw [if_neg (show ¬ (a < 0 ∨ V < a) by omega), if_neg (show ¬ (b < 0 ∨ V < a) by omega)]
      have := bestF_lA hv hs fs (q + 1) hf.2 b a h
      rw [sb] at this
      exact this
  ·
   rw [if_neg hp, if_neg hp]
   exact bestF_lA hv hs fs (q + 1) hf.2 b a h
theorem best_least {L : List S55} (hv : FsV L) {s : List Int} (hs : s.length ≤ 23) (hne : s ≠ []) (hm : (rdO L s).f0 ≠ 0) :
 ∃ b, (bestF L (rdCalls L s) (-1, 0)).1 = b ∧ 0 ≤ b ∧ b < (L.length : Int) ∧ isPre (rd_T55 L b).f0 s = true ∧ (rdO L (s.drop (rd_T55 L b).f0.length)).f0 ≠ 0 ∧ oW (rdO L s) = (rd_T55 L b).f1 + oW (rdO L (s.drop (rd_T55 L b).f0.length)) := by
 have hcl : rdCalls L s = rdC (rdO L) s ((0 : Nat) : Int) L := if_neg hne
 obtain ⟨h1, h2⟩ := bestF_lA hv hs L 0 rfl (-1) 0 (.inl (by show (-1 : Int) < 0; omega))
 rw [← hcl] at h1 h2
 have s0 : selA (-1, 0) = -1 := rfl
 rw [s0, ← (rdO_least hv hs hne).1] at h2
 have h0 : 0 ≤ oW (rdO L s) := by
  have := rdO_bd hv s.length s rfl hs
  unfold oW
  rw [if_neg hm]; exact this.w0 hm
 rcases h1 with h1 | ⟨a1, a2, a3, a4, a5, a6⟩
 ·
  have : selA (bestF L (rdCalls L s) (-1, 0)) = -1 := if_pos h1
  omega
 ·
  have : selA (bestF L (rdCalls L s) (-1, 0)) = (bestF L (rdCalls L s) (-1, 0)).2 := if_neg (by omega)
  rw [this] at h2
  exact ⟨_, rfl, a2, a3, a4, a5, by rw [h2]; exact a6⟩
theorem bestGo_reads {L : List S55} (hv : FsV L) : ∀ (n : Nat) (s : List Int), s.length ≤ n → s.length ≤ 23 → (rdO L s).f0 ≠ 0 → okIx L (bestGo L n s) ∧ flatR L (bestGo L n s) = s ∧ sumW L (bestGo L n s) = oW (rdO L s)
 | 0, s, h, _, _ => by
  obtain rfl : s = [] := List.eq_nil_of_length_eq_zero (by omega)
  simp only [bestGo, flatR, sumW]
  rw [rdO_nil]
  exact ⟨fun i hi => by simp at hi, trivial, by simp [oW]⟩
 | n + 1, s, h, hs, hm => by
  by_cases hne : s = []
  ·
   subst hne
   simp only [bestGo, if_true, flatR, sumW]
   rw [rdO_nil]
   exact ⟨fun i hi => by simp at hi, trivial, by simp [oW]⟩
  ·
   obtain ⟨b, h1, h2, h3, h4, h5, h6⟩ := best_least hv hs hne hm
   have hl := isPre_len h4
   have ho := hv.one _ (rd_mem h2 h3)
   simp only [bestGo]
   rw [if_neg hne, h1]
   obtain ⟨a1, a2, a3⟩ := bestGo_reads hv n (s.drop (rd_T55 L b).f0.length) (by rw [List.length_drop]; omega) (by rw [List.length_drop]; omega) h5
   simp only [flatR, sumW]
   refine ⟨fun i hi => ?_, ?_, ?_⟩
   ·
    rcases List.mem_cons.1 hi with rfl | hi
    ·
     exact ⟨h2, h3⟩
    ·
     exact a1 i hi
   ·
    rw [a2]
    have := isPre_take h4
    conv => rhs; rw [← List.take_append_drop (rd_T55 L b).f0.length s, this]
   ·
    rw [a3, h6]
theorem flat_in {L : List S55} (hv : fsOk L = true) : ∀ (r : List Int), okIx L r → (flatR L r).all (inR (-20) 20) = true
 | [], _ => rfl
 | i :: r, h => by
  have hi := h i List.mem_cons_self
  have hf := fsOk_all hv _ (rd_mem hi.1 hi.2)
  simp only [flatR, List.all_append, Bool.and_eq_true]
  refine ⟨?_, flat_in hv r (fun j hj => h j (List.mem_cons_of_mem _ hj))⟩
  unfold fOk at hf
  simp only [Bool.and_eq_true] at hf
  rw [List.all_eq_true]
  intro x hx
  have := List.all_eq_true.1 hf.2.1 x hx
  unfold inR at this ⊢
  simp at this ⊢
  omega
theorem okR_flat {L : List S55} {r : List Int} (hv : fsOk L = true) (h : okIx L r) (hl : (flatR L r).length ≤ 23) : okR L (flatR L r) = true := by
 unfold okR
 rw [hv, flat_in hv r h, decide_eq_true hl]; rfl
theorem bestGo_len (L : List S55) : ∀ (n : Nat) (s : List Int), (bestGo L n s).length ≤ n
 | 0, s => Nat.le_refl _
 | n + 1, s => by
  simp only [bestGo]
  split
  ·
   simp
  ·
   rw [List.length_cons]
   have := bestGo_len L n (s.drop (rd_T55 L (bestF L (rdCalls L s) (-1, 0)).1).f0.length)
   omega

theorem flatF_map (L : List S55) : ∀ r : List Int, flatF (r.map (rd_T55 L)) = flatR L r
 | [] => rfl
 | i :: r => by simp only [List.map_cons, flatF, flatR]; rw [flatF_map L r]
theorem reads_unique {L : List S55} (hv : FsV L) : ∀ (r r' : List Int), okIx L r → okIx L r' → flatR L r = flatR L r' → (flatR L r).length ≤ 23 → r ≠ r' → 1 < (rdO L (flatR L r)).f0
 | [], [], _, _, _, _, hne => absurd rfl hne
 | [], i :: t, _, h, he, _, _ => by
  have h1 := (hv.one _ (rd_mem (h i List.mem_cons_self).1 (h i List.mem_cons_self).2)).1
  have := congrArg List.length he
  simp only [flatR, List.length_append, List.length_nil] at this
  omega
 | i :: t, [], h, _, he, _, _ => by
  have h1 := (hv.one _ (rd_mem (h i List.mem_cons_self).1 (h i List.mem_cons_self).2)).1
  have := congrArg List.length he
  simp only [flatR, List.length_append, List.length_nil] at this
  omega
 | i :: t, i' :: t', h, h', he, hl, hne => by
  have hi := h i List.mem_cons_self
  have hi' := h' i' List.mem_cons_self
  have hm := rd_mem hi.1 hi.2
  have hm' := rd_mem hi'.1 hi'.2
  have ht : okIx L t := fun j hj => h j (List.mem_cons_of_mem _ hj)
  have ht' : okIx L t' := fun j hj => h' j (List.mem_cons_of_mem _ hj)
  have h1 := (hv.one _ hm).1
  simp only [flatR] at he hl ⊢
  have hll := hl
  rw [List.length_append] at hll
  have hs : (rd_T55 L i).f0 ++ flatR L t ≠ [] := by intro e; have := congrArg List.length e; rw [List.length_append, List.length_nil] at this; omega
  rw [rdO_cnt hv hl hs]
  by_cases hii : i = i'
  ·
   subst hii
   have he' := List.append_cancel_left he
   have ih := reads_unique hv t t' ht ht' he' (by omega) (fun e => hne (by rw [e]))
   have := cnt_mem (g := fun t => (rdO L t).f0) (s := (rd_T55 L i).f0 ++ flatR L t) L (nn_of hv hl) hm (isPre_app _ _)
   rw [List.drop_left] at this
   omega
  ·
   have hn : (rd_T55 L i).f0 ≠ (rd_T55 L i').f0 := by
    obtain ⟨n, rfl⟩ := Int.eq_ofNat_of_zero_le hi.1
    obtain ⟨n', rfl⟩ := Int.eq_ofNat_of_zero_le hi'.1
    exact rd_ne hv (by omega) (by omega) (fun e => hii (by rw [e]))
   have h2 := cnt_two (g := fun t => (rdO L t).f0) (s := (rd_T55 L i).f0 ++ flatR L t) L (nn_of hv hl) hm hm' hn (isPre_app _ _) (by rw [he]; exact isPre_app _ _)
   have e2 : ((rd_T55 L i).f0 ++ flatR L t).drop (rd_T55 L i').f0.length = flatR L t' := by rw [he, List.drop_left]
   rw [List.drop_left, e2] at h2
   have hl' := congrArg List.length he
   rw [List.length_append, List.length_append] at hl'
   have h3 := reads_many hv ht (by omega)
   have h4 := reads_many hv ht' (by omega)
   omega

theorem spec_ToneValid_eq (a : Int) (b : Bool) : spec_ToneValid.f a b = some (toneOk ⟨a, b⟩) := by
 unfold spec_ToneValid.f toneOk
 rw [spec_l6In_eq]
 by_cases h : 0 ≤ a ∧ a ≤ 20
 ·
  cases b <;> simp [h, spec_l1Letter.f]
 ·
  simp [h]
theorem spec_MelodyValid_ev (m : List S64) (hm : m.length ≤ 1000000000000) : Ev (fun k => spec_MelodyValid.f k m) (melOk m) := by
 unfold spec_MelodyValid.f
 have := Ev.over z64 m (fun k (_ : Unit) i => spec_MelodyValid.l0 k m i) (fun _ l => l.all toneOk && decide (m.length ≤ 24)) (fun _ _ => True) (by
  intro s _
  refine Ev.succ ?_
  simp only [spec_MelodyValid.l0]
  refine Ev.eqr (Ev.neg (by omega) (Ev.now _)) ?_
  simp; omega) (by
  intro s i rest _ hi _ ih
  refine Ev.succ ?_
  simp only [spec_MelodyValid.l0]
  refine Ev.pos (by omega) (Ev.pos (by omega) (Ev.conb (spec_ToneValid_eq _ _) ?_))
  show Ev _ (toneOk (rd_T64 m i) && _ && _)
  cases ht : toneOk (rd_T64 m i)
  ·
   exact Ev.neg (by simp [ht]) (Ev.now _)
  ·
   refine Ev.pos (by simp [ht]) ?_
   rw [w64 (by omega) (by omega)]
   simpa using ih () trivial) 0 () (Nat.zero_le _) trivial
 refine Ev.eqr (by simpa using this) ?_
 unfold melOk
 rw [Bool.and_comm]

theorem goB_all {l : List S55} (hv : fsOk l = true) : ∀ (r acc : List Int), acc.all (inR (-20) 20) = true → (goB l acc r).1.all (inR (-20) 20) = true
 | [], acc, h => h
 | i :: is, acc, h => by
  simp only [goB]
  split
  ·
   rfl
  ·
   rename_i hc
   refine goB_all hv is _ ?_
   rw [List.all_append, h, Bool.true_and]
   have hf := fsOk_all hv _ (rd_mem (l := l) (k := i) (by omega) (by omega))
   unfold fOk at hf
   simp only [Bool.and_eq_true] at hf
   rw [List.all_eq_true]
   intro x hx
   have := List.all_eq_true.1 hf.2.1 x hx
   unfold inR at this ⊢
   simp at this ⊢
   omega
theorem fbuild_all (l : List S55) (r : List Int) : (fbuild l r).1.all (inR (-20) 20) = true := by
 unfold fbuild
 split
 ·
  rename_i h; exact goB_all h r [] rfl
 ·
  rfl
def tAbove (a : Int) (b : Bool) (d : Int) (s : Bool) : Int × Bool × Bool := if toneOk ⟨a, b⟩ = true ∧ (-20 ≤ d ∧ d ≤ 20) ∧ toneOk ⟨wrap64 (a + d), s⟩ = true then (wrap64 (a + d), s, true) else (0, false, false)
theorem impl_ToneAbove_ev (a : Int) (b : Bool) (d : Int) (s : Bool) : Ev (fun k => impl_ToneAbove.f k a b d s) (tAbove a b d s) := by
 unfold impl_ToneAbove.f
 refine Ev.conb (impl_Tone_valid_eq a b) ?_
 have no : (¬ toneOk ⟨a, b⟩ = true ∨ ¬ (-20 ≤ d ∧ d ≤ 20)) → Ev (fun k => impl_ToneAbove.j0 k d s true a b) (tAbove a b d s) := by
  intro h
  refine Ev.succ ?_
  simp only [impl_ToneAbove.j0]
  refine Ev.pos trivial (Ev.eqr (Ev.now _) ?_)
  unfold tAbove
  rw [if_neg (fun hh => by rcases h with h | h; exact h hh.1; exact h hh.2.1)]
 by_cases h1 : toneOk ⟨a, b⟩ = true
 ·
  refine Ev.pos h1 ?_
  by_cases h2 : d < (-20)
  ·
   exact Ev.pos h2 (no (.inr (by omega)))
  refine Ev.neg h2 ?_
  by_cases h3 : d > 20
  ·
   rw [decide_eq_true h3]; exact no (.inr (by omega))
  rw [decide_eq_false h3]
  refine Ev.succ ?_
  simp only [impl_ToneAbove.j0]
  refine Ev.neg (by simp) (Ev.conb (impl_Tone_valid_eq _ s) ?_)
  by_cases h4 : toneOk ⟨wrap64 (a + d), s⟩ = true
  ·
   refine Ev.pos h4 (Ev.eqr (Ev.now _) ?_)
   unfold tAbove
   rw [if_pos ⟨h1, by omega, h4⟩]
  ·
   refine Ev.neg h4 (Ev.eqr (Ev.now _) ?_)
   unfold tAbove
   rw [if_neg (fun hh => h4 hh.2.2)]
 ·
  exact Ev.neg h1 (no (.inl h1))
/-- The tones behind a step, by differences. -/
def ext (x : Int) : List Int → List S64
 | [] => []
 | d :: ds => ⟨wrap64 (x + d), false⟩ :: ext (wrap64 (x + d)) ds
theorem ext_len : ∀ (ds : List Int) (x : Int), (ext x ds).length = ds.length
 | [], _ => rfl
 | d :: ds, x => by simp [ext, ext_len ds]
def fmelT (l : List S55) (r : List Int) (a : Int) (b : Bool) : List S64 := ⟨a, b⟩ :: ext a (fbuild l r).1
def fmel (l : List S55) (r : List Int) (a : Int) (b : Bool) : List S64 × Bool := if (fbuild l r).2 = true ∧ melOk (fmelT l r a b) = true then (fmelT l r a b, true) else ([], false)
def lastF (s : List S64) : Int := (rd_T64 s ((s.length : Int) - 1)).f0
theorem lastF_snoc (s : List S64) (t : S64) : lastF (s ++ [t]) = t.f0 := by
 unfold lastF rd_T64
 have e : (((s ++ [t]).length : Int) - 1).toNat = s.length := by rw [List.length_append, List.length_singleton]; omega
 rw [e, List.getD_eq_getElem?_getD, List.getElem?_append_right (Nat.le_refl _)]; simp
theorem fmel_len (l : List S55) (r : List Int) (a : Int) (b : Bool) : (fmel l r a b).1.length ≤ 24 := by
 unfold fmel
 split
 ·
  have := fbuild_len l r
  show (fmelT l r a b).length ≤ 24
  unfold fmelT
  rw [List.length_cons, ext_len]; omega
 ·
  exact Nat.zero_le _
theorem melOk_cons {t : S64} {m : List S64} : melOk (t :: m) = (decide ((t :: m).length ≤ 24) && (toneOk t && m.all toneOk)) := rfl
theorem impl_FormulasMelody_ev (l : List S55) (r : List Int) (a : Int) (b : Bool) (hl : ∀ x ∈ l, x.f0.length ≤ 1000000000000) (hr : r.length ≤ 1000000000000) : Ev (fun k => impl_FormulasMelody.f k l r a b) (fmel l r a b) := by
 unfold impl_FormulasMelody.f
 refine Ev.bind (impl_FormulasBuild_ev l r hl hr) ?_
 have hall := fbuild_all l r
 have hlen := fbuild_len l r
 obtain ⟨⟨D, ok⟩, hD⟩ : ∃ D, D = fbuild l r := ⟨_, rfl⟩
 unfold fmel fmelT
 rw [← hD] at hall hlen ⊢
 simp only [] at hall hlen ⊢
 have no : Ev (fun k => impl_FormulasMelody.j0 k D true a b) (([] : List S64), false) := by
  refine Ev.succ ?_
  simp only [impl_FormulasMelody.j0]
  exact Ev.pos trivial (Ev.now _)
 cases ok
 ·
  refine Ev.neg (by simp) (Ev.eqr no ?_)
  rw [if_neg (fun h => by cases h.1)]
 refine Ev.pos rfl (Ev.conb (impl_Tone_valid_eq a b) ?_)
 by_cases h1 : toneOk ⟨a, b⟩ = true
 ·
  rw [h1]
  refine Ev.succ ?_
  simp only [impl_FormulasMelody.j0]
  refine Ev.neg (by simp) ?_
  have := Ev.over (0 : Int) D (fun k (s : List S64) i => impl_FormulasMelody.l0 k s D (D.length : Int) i) (fun s rest => if (ext (lastF s) rest).all toneOk = true then (s ++ ext (lastF s) rest, true) else (([] : List S64), false)) (fun i s => s.length = i + 1 ∧ toneOk (rd_T64 s ((s.length : Int) - 1)) = true) (by
   intro s hs
   refine Ev.succ ?_
   simp only [impl_FormulasMelody.l0]
   refine Ev.neg (by omega) (Ev.eqr (Ev.now _) ?_)
   simp [ext]) (by
   intro s i rest hs hi hdr ih
   obtain ⟨hs1, hs2⟩ := hs
   have hrd : rd D (i : Int) = D.getD i 0 := rfl
   have hd : inR (-20) 20 (D.getD i 0) = true := by
    refine List.all_eq_true.1 hall _ ?_
    rw [List.getD_eq_getElem?_getD, List.getElem?_eq_getElem hi]; exact List.getElem_mem hi
   refine Ev.succ ?_
   simp only [impl_FormulasMelody.l0]
   rw [hrd, w64 (x := (s.length : Int) - 1) (by omega) (by omega), w64 (x := (i : Int) + 1) (by omega) (by omega)]
   generalize D.getD i 0 = d at hd
   unfold inR at hd
   simp at hd
   refine Ev.pos (by omega) (Ev.pos (by omega) (Ev.pos (by omega) (Ev.pos (by omega) (Ev.pos (by omega) (Ev.bind (impl_ToneAbove_ev _ _ d false) ?_)))))
   have hlast : (rd_T64 s ((s.length : Int) - 1)).f0 = lastF s := rfl
   unfold tAbove
   simp only [ext, List.all_cons]
   rw [hlast]
   have hs3 : toneOk ⟨lastF s, (rd_T64 s ((s.length : Int) - 1)).f1⟩ = true := hs2
   by_cases h4 : toneOk ⟨wrap64 (lastF s + d), false⟩ = true
   ·
    rw [if_pos ⟨hs3, by omega, h4⟩]
    refine Ev.pos rfl (Ev.pos (by omega) ?_)
    have := ih (s ++ [⟨wrap64 (lastF s + d), false⟩]) ⟨by rw [List.length_append, List.length_singleton]; omega, by
     unfold rd_T64
     have e : (((s ++ [(⟨wrap64 (lastF s + d), false⟩ : S64)]).length : Int) - 1).toNat = s.length := by rw [List.length_append, List.length_singleton]; omega
     rw [e, List.getD_eq_getElem?_getD, List.getElem?_append_right (Nat.le_refl _)]
     simpa using h4⟩
    rw [lastF_snoc] at this
    refine Ev.eqr this ?_
    simp only [h4, Bool.true_and]
    rw [List.append_assoc]; rfl
   ·
    rw [if_neg (fun hh => h4 hh.2.2)]
    refine Ev.neg (by simp) (Ev.eqr (Ev.now _) ?_)
    rw [Bool.not_eq_true] at h4
    simp [h4]) 0 [⟨a, b⟩] (Nat.zero_le _) ⟨rfl, h1⟩
  refine Ev.eqr (by simpa using this) ?_
  have e : lastF [(⟨a, b⟩ : S64)] = a := rfl
  rw [e, melOk_cons, h1, List.length_cons, ext_len, decide_eq_true (by omega)]
  simp
 ·
  rw [Bool.not_eq_true] at h1
  rw [h1]
  refine Ev.eqr no ?_
  rw [melOk_cons, h1]; simp
theorem spec_FormulasMelody_ev (l : List S55) (r : List Int) (a : Int) (b : Bool) (hll : l.length ≤ 1000000000000) (hl : ∀ x ∈ l, x.f0.length ≤ 1000000000000) (hr : r.length ≤ 1000000000000) : Ev (fun k => spec_FormulasMelody.f k l r a b) (fmel l r a b) := by
 unfold spec_FormulasMelody.f
 refine Ev.bind (spec_FormulasBuild_ev l r hll hl hr) ?_
 have hlen := fbuild_len l r
 obtain ⟨⟨D, ok⟩, hD⟩ : ∃ D, D = fbuild l r := ⟨_, rfl⟩
 unfold fmel fmelT
 rw [← hD] at hlen ⊢
 simp only [] at hlen ⊢
 have := Ev.over (0 : Int) D (fun k (s : List S64) i => spec_FormulasMelody.l0 k D ok s i) (fun s rest => if ok = true ∧ melOk (s ++ ext (lastF s) rest) = true then (s ++ ext (lastF s) rest, true) else (([] : List S64), false)) (fun i s => s.length = i + 1) (by
  intro s hs
  refine Ev.succ ?_
  simp only [spec_FormulasMelody.l0, ext, List.append_nil]
  refine Ev.neg (by omega) ?_
  cases ok
  ·
   refine Ev.neg (by simp) (Ev.eqr (Ev.now _) ?_)
   rw [if_neg (fun h => by cases h.1)]
  ·
   refine Ev.pos rfl (Ev.bind (spec_MelodyValid_ev s (by omega)) ?_)
   cases melOk s
   ·
    exact Ev.neg (by simp) (Ev.eqr (Ev.now _) (by simp))
   ·
    exact Ev.pos rfl (Ev.eqr (Ev.now _) (by simp))) (by
  intro s i rest hs hi hdr ih
  have hrd : rd D (i : Int) = D.getD i 0 := rfl
  refine Ev.succ ?_
  simp only [spec_FormulasMelody.l0]
  have hlast : (rd_T64 s (i : Int)).f0 = lastF s := by
   unfold lastF
   have e : (s.length : Int) - 1 = (i : Int) := by omega
   rw [e]
  rw [hrd, hlast, w64 (x := (i : Int) + 1) (by omega) (by omega)]
  generalize D.getD i 0 = d
  refine Ev.pos (by omega) (Ev.pos (by omega) (Ev.pos (by omega) (Ev.pos (by omega) ?_)))
  have := ih (s ++ [⟨wrap64 (lastF s + d), false⟩]) (by rw [List.length_append, List.length_singleton]; omega)
  rw [lastF_snoc] at this
  refine Ev.eqr this ?_
  simp only [ext]
  rw [List.append_assoc]; rfl) 0 [⟨a, b⟩] (Nat.zero_le _) rfl
 refine Ev.eqr (by simpa using this) ?_
 have e : lastF [(⟨a, b⟩ : S64)] = a := rfl
 rw [e]

theorem drawAt_ev {s : List Int} (hc : Code s) (p n : Int) (hp : 0 ≤ p) (hp' : p ≤ 1000000) (hn : 0 ≤ n) :
 Evx (fun k => spec_l91At.f k s p n) (fun r => -1 ≤ r.1 ∧ r.1 ≤ n ∧ p ≤ r.2 ∧ r.2 ≤ p + 2) := by
 have tt : ∀ q, 0 ≤ q → q ≤ 2000000 → Evx (fun k => spec_l91At.j0 k n true s q) (fun r => -1 ≤ r.1 ∧ r.1 ≤ n ∧ r.2 = q + 1) := by
  intro q hq hq'
  refine Evx.succ ?_
  simp only [spec_l91At.j0, if_true]
  refine Evx.someb (Evx.bind (pick_ev hc q 2 hq (by omega)) ?_)
  rintro ⟨r, q'⟩ ⟨hr0, hr1, rfl⟩
  have hr0 : 0 ≤ r := hr0
  have hr1 : r < 2 ∨ r = 0 := hr1
  refine Evx.pos hr0 (Evx.pos (by (try simp only [List.length_set, List.length_drop, List.length_take, List.length_append, List.length_cons, List.length_nil, Int.natCast_add, Int.natCast_one, Int.natCast_zero] at *); omega) (Evx.now ?_))
  have : r = 0 ∨ r = 1 := by omega
  rcases this with rfl | rfl
  ·
   exact ⟨by simp [rd], by simp [rd]; omega, rfl⟩
  ·
   exact ⟨by simp [rd]; omega, by simp [rd], rfl⟩
 unfold spec_l91At.f
 refine Evx.ite (fun _ => (tt p hp (by omega)).mono (by rintro ⟨a, q⟩ ⟨h1, h2, h3⟩; exact ⟨h1, h2, (by (try simp only [List.length_set, List.length_drop, List.length_take, List.length_append, List.length_cons, List.length_nil, Int.natCast_add, Int.natCast_one, Int.natCast_zero] at *); omega), (by (try simp only [List.length_set, List.length_drop, List.length_take, List.length_append, List.length_cons, List.length_nil, Int.natCast_add, Int.natCast_one, Int.natCast_zero] at *); omega)⟩)) (fun h0 => ?_)
 refine Evx.bind (pick_ev hc p 20 hp (by omega)) ?_
 rintro ⟨r, q'⟩ ⟨hr0, hr1, rfl⟩
 by_cases e : r = 0
 ·
  subst e
  exact (tt (p + 1) (by omega) (by omega)).mono (by rintro ⟨a, q⟩ ⟨h1, h2, h3⟩; exact ⟨h1, h2, (by (try simp only [List.length_set, List.length_drop, List.length_take, List.length_append, List.length_cons, List.length_nil, Int.natCast_add, Int.natCast_one, Int.natCast_zero] at *); omega), (by (try simp only [List.length_set, List.length_drop, List.length_take, List.length_append, List.length_cons, List.length_nil, Int.natCast_add, Int.natCast_one, Int.natCast_zero] at *); omega)⟩)
 ·
  have e' : (r == 0) = false := by rw [beq_eq_false_iff_ne]; exact e
  simp only [e']
  refine Evx.succ ?_
  simp only [spec_l91At.j0]
  refine Evx.neg (by simp) (Evx.bind (pick_ev hc (p + 1) n (by omega) (by omega)) ?_)
  rintro ⟨u, q'⟩ ⟨hu0, hu1, rfl⟩
  exact Evx.now ⟨(by (try simp only [List.length_set, List.length_drop, List.length_take, List.length_append, List.length_cons, List.length_nil, Int.natCast_add, Int.natCast_one, Int.natCast_zero] at *); omega), (by (try simp only [List.length_set, List.length_drop, List.length_take, List.length_append, List.length_cons, List.length_nil, Int.natCast_add, Int.natCast_one, Int.natCast_zero] at *); omega), (by (try simp only [List.length_set, List.length_drop, List.length_take, List.length_append, List.length_cons, List.length_nil, Int.natCast_add, Int.natCast_one, Int.natCast_zero] at *); omega), (by (try simp only [List.length_set, List.length_drop, List.length_take, List.length_append, List.length_cons, List.length_nil, Int.natCast_add, Int.natCast_one, Int.natCast_zero] at *); omega)⟩

theorem drawReading_loop {s : List Int} (hc : Code s) (n m : Int) (hn : 0 ≤ n) (d : Nat) : ∀ (out : List Int) (i p : Int), 0 ≤ i → m - i = d → m ≤ 5 → (out.length : Int) ≤ i → 0 ≤ p → p + 2 * d ≤ 1000000 →
 Evx (fun k => spec_l92Reading.l0 k n out m i s p) (fun r => r.1.length ≤ 5 ∧ 0 ≤ r.2 ∧ r.2 ≤ p + 2 * d) := by
 induction d with
 | zero =>
  intro out i p h0 h1 h2 h3 h4 h5
  refine Evx.succ ?_
  simp only [spec_l92Reading.l0]
  exact Evx.neg (by omega) (Evx.now ⟨by show out.length ≤ 5; omega, h4, by show p ≤ _; omega⟩)
 | succ d ih =>
  intro out i p h0 h1 h2 h3 h4 h5
  refine Evx.succ ?_
  simp only [spec_l92Reading.l0]
  rw [w64 (x := i + 1) (by omega) (by omega)]
  refine Evx.pos (by omega) (Evx.bind (drawAt_ev hc p n h4 (by omega) hn) ?_)
  rintro ⟨r, q⟩ ⟨hr0, hr1, hq, hq'⟩
  have hq : p ≤ q := hq
  have hq' : q ≤ p + 2 := hq'
  refine Evx.pos (by omega) ?_
  exact (ih (out ++ [r]) (i + 1) q (by omega) (by omega) h2 (by rw [List.length_append, List.length_singleton]; omega) (by omega) (by omega)).mono (fun r h => ⟨h.1, h.2.1, by have := h.2.2; omega⟩)
theorem drawReading_ev {s : List Int} (hc : Code s) (p n : Int) (hn : 0 ≤ n) (hp : 0 ≤ p) (hp' : p ≤ 100000) : Evx (fun k => spec_l92Reading.f k s p n) (fun r => r.1.length ≤ 5 ∧ 0 ≤ r.2 ∧ r.2 ≤ p + 11) := by
 unfold spec_l92Reading.f
 refine Evx.bind (pick_ev hc p 6 hp (by omega)) ?_
 rintro ⟨u, q⟩ ⟨hu0, hu1, rfl⟩
 have hu0 : 0 ≤ u := hu0
 have hu1 : u < 6 ∨ u = 0 := hu1
 obtain ⟨e, he⟩ : ∃ e : Nat, u - 0 = e := ⟨u.toNat, by omega⟩
 exact (drawReading_loop hc n u hn e [] 0 (p + 1) (by omega) he (by omega) (by simp) (by omega) (by omega)).mono (fun r h => ⟨h.1, h.2.1, by have := h.2.2; omega⟩)

theorem drawTone_ev {s : List Int} (hc : Code s) (p : Int) (hp : 0 ≤ p) (hp' : p ≤ 100000) : Evx (fun k => spec_l91Tone.f k s p) (fun _ => True) := by
 unfold spec_l91Tone.f
 refine Evx.bind (pick_ev hc p 40 hp (by omega)) ?_
 rintro ⟨u, q⟩ ⟨_, _, rfl⟩
 refine Evx.ite (fun _ => ?_) (fun _ => Evx.ite (fun _ => ?_) (fun _ => ?_))
 ·
  refine Evx.someb (Evx.bind (pick_ev hc (p + 1) 4 (by omega) (by omega)) ?_)
  rintro ⟨r, q'⟩ ⟨hr0, hr1, rfl⟩
  have hr0 : 0 ≤ r := hr0
  have hr1 : r < 4 ∨ r = 0 := hr1
  exact Evx.pos hr0 (Evx.pos (by simp; omega) (Evx.now trivial))
 ·
  refine Evx.bind (pick_ev hc (p + 1) 21 (by omega) (by omega)) ?_
  rintro ⟨r, q'⟩ _
  exact Evx.now trivial
 ·
  refine Evx.bind (pick_ev hc (p + 1) 11 (by omega) (by omega)) ?_
  rintro ⟨r, q'⟩ ⟨_, _, rfl⟩
  refine Evx.conb rfl (Evx.ite (fun _ => ?_) (fun _ => Evx.now trivial))
  refine Evx.bind (pick_ev hc (p + 1 + 1) 2 (by omega) (by omega)) ?_
  rintro ⟨r', q'⟩ _
  exact Evx.now trivial
theorem drawMel_ev (l0 : List Int) (hw : ∀ x ∈ l0, (Lit.int .u8 x).wf = true) : Evx (fun k => spec_DrawFormulasMelody.f k l0) (fun r => DrF r.1 ∧ r.2.1.length ≤ 5) := by
 obtain ⟨s, h1, hc⟩ := open_ev l0 hw
 unfold spec_DrawFormulasMelody.f
 refine Evx.conb h1 (Evx.bind (drawFormulas_ev hc 0 (by omega) (by omega)) ?_)
 rintro ⟨L, q⟩ ⟨hD, hq, hq'⟩
 have hD : DrF L := hD
 have hq : 0 ≤ q := hq
 have hq' : q ≤ 0 + 53 := hq'
 refine Evx.bind (drawReading_ev hc q L.length (by omega) hq (by omega)) ?_
 rintro ⟨R, q1⟩ ⟨hR, hq1, hq1'⟩
 have hR : R.length ≤ 5 := hR
 have hq1 : 0 ≤ q1 := hq1
 have hq1' : q1 ≤ q + 11 := hq1'
 refine Evx.bind (drawTone_ev hc q1 hq1 (by omega)) ?_
 rintro ⟨a, b, q2⟩ _
 exact Evx.now ⟨hD, hR⟩

end Go.Proofs.Ytnemcppllfmioaa.Pure
namespace Go.Proofs.Ytnemcppllfmioaa.Pure
set_option linter.unusedVariables false
set_option linter.unusedSimpArgs false
open Go Go.RowKit Go.Proofs.Ytnemcppllfmioaa.PFnReadMelody Go.Proofs.YtnemcppllfmioaaW.PrintWords Go.Proofs.YtnemcppllfmioaaW.PrintLast Go.Proofs.YtnemcppllfmioaaW.PrintMore

theorem laws_sameInts_ev (a b : List Int) (hl : a.length ≤ 1000000000000) : Ev (fun k => laws_sameInts.f k a b) (a == b) := by
 unfold laws_sameInts.f
 by_cases hlen : (a.length : Int) = (b.length : Int)
 ·
  refine Ev.pos hlen ?_
  have := Ev.over (0 : Int) a (fun k (_ : Unit) i => laws_sameInts.l0 k a b i) (fun _ rest => rest == b.drop (a.length - rest.length)) (fun _ _ => True) (by
   intro s _
   refine Ev.succ ?_
   simp only [laws_sameInts.l0]
   refine Ev.eqr (Ev.neg (by omega) (Ev.now _)) ?_
   have : b.drop a.length = [] := List.drop_eq_nil_of_le (by omega)
   simp [this]) (by
   intro s i rest _ hi hdr ih
   have hrl : rest.length + 1 + i = a.length := by
    have := congrArg List.length hdr
    simp at this; omega
   refine Ev.succ ?_
   simp only [laws_sameInts.l0]
   rw [w64 (by omega) (by omega)]
   refine Ev.pos (by omega) (Ev.pos (by omega) (Ev.pos (by omega) ?_))
   have hra : rd a (i : Int) = a.getD i 0 := rfl
   have hrb : rd b (i : Int) = b.getD i 0 := rfl
   rw [hra, hrb]
   have e2 : a.length - (a.getD i 0 :: rest).length = i := by simp; omega
   have e1 : a.length - rest.length = i + 1 := by omega
   have e3 : b.drop i = b.getD i 0 :: b.drop (i + 1) := by
    rw [List.drop_eq_getElem_cons (by omega), List.getD_eq_getElem?_getD, List.getElem?_eq_getElem (by omega)]; rfl
   rw [e2, e3]
   have ih := ih () trivial
   rw [e1] at ih
   by_cases h : a.getD i 0 = b.getD i 0
   ·
    refine Ev.pos h (Ev.eqr ih ?_)
    rw [h, Bool.eq_iff_iff]; simp
   ·
    refine Ev.neg h (Ev.eqr (Ev.now _) ?_)
    symm; rw [beq_eq_false_iff_ne]; intro hc; exact h (List.cons.inj hc).1) 0 () (Nat.zero_le _) trivial
  simpa using this
 ·
  refine Ev.neg hlen (Ev.eqr (Ev.now _) ?_)
  symm; rw [beq_eq_false_iff_ne]; rintro rfl; exact hlen rfl

theorem sameTones_ev (l : List S64) (hl : l.length ≤ 1000000000000) : Ev (fun k => laws_sameTones.f k l l) true := by
 unfold laws_sameTones.f
 refine Ev.pos rfl ?_
 have := Ev.over z64 l (fun k (_ : Unit) i => laws_sameTones.l0 k l l i) (fun _ _ => true) (fun _ _ => True) (by
  intro s _
  refine Ev.succ ?_
  simp only [laws_sameTones.l0]
  exact Ev.neg (by omega) (Ev.now _)) (by
  intro s i rest _ hi _ ih
  refine Ev.succ ?_
  simp only [laws_sameTones.l0]
  refine Ev.pos (by omega) (Ev.pos (by omega) (Ev.pos (by omega) (Ev.neg (by simp) ?_)))
  rw [w64 (by omega) (by omega)]
  exact ih () trivial) 0 () (Nat.zero_le _) trivial
 simpa using this
theorem diffs_ext : ∀ (ds : List Int) (x : S64), toneOk x = true → (ext x.f0 ds).all toneOk = true → ds.all (inR (-20) 20) = true → diffs stepD (x :: ext x.f0 ds) = ds
 | [], x, _, _, _ => rfl
 | d :: ds, x, hx, ha, hd => by
  simp only [ext, List.all_cons, Bool.and_eq_true] at ha hd
  have hb : 0 ≤ x.f0 ∧ x.f0 ≤ 20 := by unfold toneOk at hx; simp at hx; exact hx.1
  have hd1 : -20 ≤ d ∧ d ≤ 20 := by have := hd.1; unfold inR at this; simpa using this
  have ih := diffs_ext ds ⟨wrap64 (x.f0 + d), false⟩ ha.1 ha.2 hd.2
  simp only [ext, diffs]
  rw [ih]
  have e : stepD x ⟨wrap64 (x.f0 + d), false⟩ = d := by
   unfold stepD
   simp only []
   rw [w64 (x := x.f0 + d) (by omega) (by omega), w64 (by omega) (by omega)]; omega
  rw [e]
theorem fmel_inv {L : List S55} {R : List Int} {a : Int} {b : Bool} (h : (fmel L R a b).2 = true) : (fbuild L R).2 = true ∧ melOk (fmelT L R a b) = true ∧ (fmel L R a b).1 = fmelT L R a b := by
 unfold fmel at h ⊢
 by_cases hc : (fbuild L R).2 = true ∧ melOk (fmelT L R a b) = true
 ·
  rw [if_pos hc]; exact ⟨hc.1, hc.2, rfl⟩
 ·
  rw [if_neg hc] at h; cases h
theorem FnReadMelody_core (l0 : List Int) (hm0 : l0.length ≤ maxLen) (hw : ∀ x ∈ l0, (Lit.int .u8 x).wf = true) : ∃ k, laws_FnReadMelody.f k l0 = some true := by
 unfold maxLen at hm0
 have key : Ev (fun k => laws_FnReadMelody.f k l0) true := by
  unfold laws_FnReadMelody.f
  by_cases hb : (l0.length : Int) > 1048576
  ·
   exact Ev.pos hb (Ev.now _)
  refine Ev.neg hb ?_
  obtain ⟨⟨L, R, a, b⟩, hd, hD, hR⟩ := drawMel_ev l0 hw
  have hD : DrF L := hD
  have hR : R.length ≤ 5 := hR
  have hL3 := hD.2
  have hl : ∀ x ∈ L, x.f0.length ≤ 1000000000000 := fun x hx => by have := hL3 x hx; omega
  have hll : L.length ≤ 1000000000000 := by have := hD.1; omega
  have hfl := fmel_len L R a b
  refine Ev.bind hd (Ev.bind (impl_FormulasMelody_ev L R a b hl (by omega)) (Ev.bind (spec_FormulasMelody_ev L R a b hll hl (by omega)) ?_))
  refine Ev.neg (by simp) (Ev.bind (sameTones_ev _ (by omega)) (Ev.pos rfl (Ev.succ ?_)))
  simp only [laws_FnReadMelody.j0]
  cases hok : (fmel L R a b).2
  ·
   exact Ev.pos (by simp) (Ev.pos (by simp) (Ev.bind (sameTones_ev _ (by omega)) (Ev.now _)))
  obtain ⟨hb2, hmo, hm1⟩ := fmel_inv hok
  obtain ⟨hF, hix, hfl2, hb1⟩ := fbuild_inv hb2
  have hv := FsV.of hF
  rw [hm1] at hfl ⊢
  have hall : (ext a (flatR L R)).all toneOk = true := by
   have h := melOk_all hmo
   unfold fmelT at h
   rw [List.all_cons, Bool.and_eq_true, hb1] at h
   exact h.2
  have htone : toneOk ⟨a, b⟩ = true := by
   have h := melOk_all hmo
   unfold fmelT at h
   rw [List.all_cons, Bool.and_eq_true] at h
   exact h.1
  have hT : fmelT L R a b = ⟨a, b⟩ :: ext a (flatR L R) := by unfold fmelT; rw [hb1]
  have hmd : mdiffs stepD (fmelT L R a b) = flatR L R := by
   unfold mdiffs
   rw [if_pos hmo, hT]
   exact diffs_ext (flatR L R) ⟨a, b⟩ htone hall (flat_in hF R hix)
  have hokR := okR_flat hF hix hfl2
  have hmany := reads_many hv hix hfl2
  have hbest : fBest L (flatR L R) = (bestGo L (flatR L R).length (flatR L R), true) := by
   unfold fBest
   rw [hokR, if_pos rfl, if_neg (by omega)]
  have hRead : impl_FormulasRead.f L (fmelT L R a b) = some (bestGo L (flatR L R).length (flatR L R), true) := by
   unfold impl_FormulasRead.f
   rw [if_pos ⟨hl, by omega⟩]
   unfold fread
   rw [if_pos hmo, hmd, hbest]
  have hSteps : impl_MelodySteps.f (fmelT L R a b) = some (flatR L R) := by
   unfold impl_MelodySteps.f
   rw [if_pos (by omega), hmd]
  have hlen : 0 < ((fmelT L R a b).length : Int) := by rw [hT, List.length_cons]; omega
  have h0 : rd_T64 (fmelT L R a b) 0 = ⟨a, b⟩ := by rw [hT]; rfl
  refine Ev.neg (by simp) (Ev.bind (impl_FormulasBuild_ev L R hl (by omega)) ?_)
  rw [fbuild_of hF hix hfl2]
  refine Ev.conb hRead (Ev.bind (impl_FormulasClear_ev L 5 hl) ?_)
  cases hc : clearI L 5
  ·
   refine Ev.neg (by simp) (Ev.pos rfl (Ev.pos rfl (Ev.conb hSteps (Ev.bind (laws_sameInts_ev _ _ (by omega)) ?_))))
   refine Ev.pos (by simp) (Ev.pos hlen ?_)
   rw [h0]
   exact Ev.pos (by simp) (Ev.now _)
  ·
   refine Ev.pos rfl (Ev.pos rfl (Ev.pos rfl (Ev.conb hSteps (Ev.bind (laws_sameInts_ev _ _ (by omega)) ?_))))
   refine Ev.pos (by simp) (Ev.pos hlen ?_)
   rw [h0]
   refine Ev.pos (by simp) ?_
   by_cases h5 : ((flatR L R).length : Int) ≤ 5
   ·
    refine Ev.pos h5 (Ev.bind (laws_sameInts_ev _ _ (by have := bestGo_len L (flatR L R).length (flatR L R); show (bestGo L (flatR L R).length (flatR L R)).length ≤ _; omega)) (Ev.eqr (Ev.now _) ?_))
    have hone := clear_one hF hc (r := R.map (rd_T55 L)) (by
     intro f hf
     obtain ⟨i, hi, rfl⟩ := List.mem_map.1 hf
     exact rd_mem (hix i hi).1 (hix i hi).2) (by rw [flatF_map]; exact h5)
    rw [flatF_map] at hone
    obtain ⟨g1, g2, _⟩ := bestGo_reads hv (flatR L R).length (flatR L R) (Nat.le_refl _) hfl2 (by omega)
    rw [beq_iff_eq]
    by_cases he : bestGo L (flatR L R).length (flatR L R) = R
    ·
     exact he
    ·
     have := reads_unique hv _ _ hix g1 g2.symm hfl2 (fun e => he e.symm)
     omega
   ·
    exact Ev.neg h5 (Ev.now _)
 exact Ev.rounds key
theorem FnReadMelody_walk (l0 : List Int) (A0 : Option Addr) (c0 : Nat) (w : World) (hr0 : Kd.C (Kd.int .u8) w A0 l0.length l0) (hc0 : l0.length ≤ c0) (hw0 : ∀ x ∈ l0, (Lit.int .u8 x).wf = true) (hm0 : l0.length ≤ maxLen) :
 Calls Try.prog 10 #[.slice A0 l0.length c0] w fun e w' => e = .returned (.bool true) ∧ Below w.heap.size w w' := by
 obtain ⟨k, h⟩ := FnReadMelody_core l0 hm0 hw0
 exact laws_FnReadMelody.calls k A0 c0 l0 true w hr0 hc0 h

def Opn {α : Type} (P : Program) (t : TypeId) (d : Kd α) (ok : α → Prop) : Prop :=
 P.cellsOf t = d.sz ∧ ∀ {H : Type} (enc : TypeId × Value → H) (w : World) (base : Nat) (held : Bool) (fuel : Nat) (cs : List Value) (x : DataW H × List MemPlace), DataW.trod enc P w base (fun _ => true) held fuel t cs = some x → ∃ p, d.K w p cs ∧ ok p
theorem opn_int {P : Program} {t : TypeId} (k : IntKind) (ht : P.underlying t = some (.int k)) (hc : P.cellsOf t = 1) : Opn P t (Kd.int k) (fun n => (Lit.int k n).wf = true) :=
 ⟨hc, fun enc w base held fuel cs x h => by obtain ⟨n, rfl, _, hw⟩ := DataW.trod_int ht h; exact ⟨n, rfl, hw⟩⟩
theorem opn_slice {α : Type} {P : Program} {t e : TypeId} {d : Kd α} {ok : α → Prop} (ht : P.underlying t = some (.slice e)) (hc : P.cellsOf t = 1) (he : Opn P e d ok) : Opn P t (Kd.slice e d) (fun l => (∀ x ∈ l, ok x) ∧ l.length ≤ maxLen) := by
 refine ⟨hc, fun enc w base held fuel cs x h => ?_⟩
 rcases Go.Deep.open_slice ht h with ⟨rfl, _⟩ | ⟨a, len, cap, m, n, D, Pl, rfl, _, hl, hm, hmm, _, hi⟩
 ·
  exact ⟨[], ⟨none, 0, rfl, Nat.le_refl _, rfl, by simp, fun h => by simp at h⟩, by simp, by simp⟩
 ·
  have hmc : m = cap := by simpa using hmm
  clear hmm
  have key : ∀ k, k ≤ len → ∃ l : List α, l.length = k ∧ (∀ x ∈ l, ok x) ∧ ∀ j p, l[j]? = some p → ∃ c, c.length = d.sz ∧ d.K w p c ∧ ∀ i u, c[i]? = some u → w.cell? (a.add (j * d.sz + i)) = some u := by
   intro k
   induction k with
   | zero => intro _; exact ⟨[], rfl, by simp, by simp⟩
   | succ k ih =>
    intro hk
    obtain ⟨l, hll, hlo, hlc⟩ := ih (by omega)
    obtain ⟨cs', hcs, ht'⟩ := hi k (by omega)
    rw [he.1] at hcs
    obtain ⟨p, hp, hop⟩ := he.2 enc w base held n cs' _ ht'
    obtain ⟨_, hcl, hat⟩ := World.cells?_some hcs
    refine ⟨l ++ [p], by simp [hll], ?_, ?_⟩
    ·
     intro x hx
     rcases List.mem_append.1 hx with hx | hx
     ·
      exact hlo x hx
     ·
      rw [List.mem_singleton.1 hx]; exact hop
    ·
     intro j q hq
     by_cases hj : j < l.length
     ·
      rw [List.getElem?_append_left hj] at hq
      exact hlc j q hq
     ·
      have hj2 : j = l.length := by
       have := (List.getElem?_eq_some_iff.1 hq).1
       simp at this; omega
      subst hj2
      rw [List.getElem?_append_right (Nat.le_refl _)] at hq
      simp at hq
      subst hq
      refine ⟨cs', hcl, hp, fun i u hu => ?_⟩
      have hil : i < d.sz := by rw [← hcl]; exact (List.getElem?_eq_some_iff.1 hu).1
      rw [hll, ← Go.Deep.add_add, hat i hil, hu]
  obtain ⟨l, hll, hlo, hlc⟩ := key len (Nat.le_refl _)
  subst hll
  exact ⟨l, ⟨some a, cap, rfl, hl, rfl, by unfold maxLen at hm; omega, fun _ => ⟨a, rfl, hlc⟩⟩, hlo, by omega⟩
/-- A slice argument. -/
theorem opn_arg {α : Type} {P : Program} {t e : TypeId} {d : Kd α} {ok : List α → Prop} (h : Opn P t (Kd.slice e d) ok) {H : Type} {enc : TypeId × Value → H} {w : World} {base : Nat} {held : Bool} {a : Option Addr} {len cap : Nat} {x : DataW H} {p : List MemPlace} (hr : DataW.Trod enc P w base (fun _ => true) held t (.slice a len cap) x p) :
 ∃ l : List α, len = l.length ∧ l.length ≤ cap ∧ d.C w a l.length l ∧ ok l := by
 obtain ⟨fuel, hf⟩ := hr
 obtain ⟨l, ⟨A, c, he, hc, hC⟩, ho⟩ := h.2 enc w base held fuel _ _ hf
 simp [Value.cells] at he
 obtain ⟨rfl, rfl, rfl⟩ := he
 exact ⟨l, rfl, hc, hC, ho⟩

end Go.Proofs.Ytnemcppllfmioaa.Pure
