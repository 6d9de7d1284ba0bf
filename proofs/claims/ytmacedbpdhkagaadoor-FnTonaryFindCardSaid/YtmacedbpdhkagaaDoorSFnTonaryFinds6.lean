/- Lemmas for the law FnTonaryFind. -/
import Derived.Test.YtmacedbpdhkagaaDoorSFnTonaryFinds5
namespace Go.Proofs.YtmacedbpdhkagaaDoor.Pure
set_option linter.unusedVariables false
set_option linter.unusedSimpArgs false
open Go Go.RowKit Go.Proofs.YtmacedbpdhkagaaDoor.PFnTonaryFind Go.Proofs.YtmacedbpdhkagaaDoorW.PrintWords Go.Proofs.YtmacedbpdhkagaaDoorW.PrintLast Go.Proofs.YtmacedbpdhkagaaDoorW.PrintMore

structure Code (s : List Int) : Prop where
 b : ∀ x ∈ s, 0 ≤ x ∧ x ≤ 255
 l : s.length ≤ 2000
theorem open_ev (l0 : List Int) (hw : ∀ x ∈ l0, (Lit.int .u8 x).wf = true) : ∃ s, spec_l6Open.f l0 = some (s, 0) ∧ Code s := by
 have hb : ∀ x ∈ l0, 0 ≤ x ∧ x ≤ 255 := by
  intro x hx
  have := hw x hx
  have e1 : IntKind.u8.min = 0 := by decide
  have e2 : IntKind.u8.max = 255 := by decide
  simp only [Lit.wf, e1, e2] at this
  simpa using this
 unfold spec_l6Open.f
 by_cases h : (l0.length : Int) > 2000
 ·
  refine ⟨l0.take 2000, by rw [if_pos h, if_pos (by omega)], ⟨fun x hx => hb x (List.mem_of_mem_take hx), by rw [List.length_take]; omega⟩⟩
 ·
  exact ⟨l0, by rw [if_neg h], ⟨hb, by omega⟩⟩
theorem pick_ev {s : List Int} (hc : Code s) (p n : Int) (hp : 0 ≤ p) (hp' : p ≤ 1000000000) :
 Evx (fun k => spec_l6Rd_pick.f k s p n) (fun r => 0 ≤ r.1 ∧ (r.1 < n ∨ r.1 = 0) ∧ r.2 = p + 1) := by
 have hw : wrap64 (p + 1) = p + 1 := w64 (by omega) (by omega)
 have hw' : wrap64 (p + 1 - 1) = p := by rw [w64 (by omega) (by omega)]; omega
 have hl := hc.l
 unfold spec_l6Rd_pick.f
 rw [hw]
 by_cases hn : n < 1
 ·
  refine Evx.pos hn (Evx.succ ?_)
  simp only [spec_l6Rd_pick.j0, if_true]
  exact Evx.now ⟨by simp, by simp, rfl⟩
 ·
  refine Evx.neg hn (Evx.succ ?_)
  have tm : ∀ x : Int, 0 ≤ x → 0 ≤ Int.tmod x n ∧ Int.tmod x n < n := fun x hx => ⟨Int.tmod_nonneg n hx, Int.tmod_lt_of_pos x (by omega)⟩
  by_cases h0 : s.length = 0
  ·
   have e : ((s.length : Int) == 0) = true := by simp [h0]
   simp only [spec_l6Rd_pick.j0, e, if_true]
   exact Evx.now ⟨by simp, by simp, rfl⟩
  ·
   have e : ((s.length : Int) == 0) = false := by rw [beq_eq_false_iff_ne]; omega
   simp only [spec_l6Rd_pick.j0, e, hw']
   refine Evx.neg (by simp) ?_
   by_cases hlt : p < (s.length : Int)
   ·
    refine Evx.pos hlt (Evx.pos hp (Evx.neg (by omega) (Evx.now ?_)))
    have hb := rd_bd hc.b p
    rw [w64 (x := rd s p) (by omega) (by omega)]
    have := tm (rd s p) hb.1
    exact ⟨this.1, .inl this.2, rfl⟩
   ·
    refine Evx.neg hlt (Evx.neg (by omega) ?_)
    have t1 : 0 ≤ Int.tmod p s.length := Int.tmod_nonneg _ hp
    have t1' : Int.tmod p s.length < s.length := Int.tmod_lt_of_pos p (by omega)
    rw [w64 (x := p * 7) (by omega) (by omega), w64 (x := p * 7 + 3) (by omega) (by omega)]
    have t2 : 0 ≤ Int.tmod (p * 7 + 3) s.length := Int.tmod_nonneg _ (by omega)
    have t2' : Int.tmod (p * 7 + 3) s.length < s.length := Int.tmod_lt_of_pos _ (by omega)
    refine Evx.pos t1 (Evx.pos t1' (Evx.pos t2 (Evx.pos t2' (Evx.neg (by omega) (Evx.now ?_)))))
    have hb1 := rd_bd hc.b (Int.tmod p s.length)
    have hb2 := rd_bd hc.b (Int.tmod (p * 7 + 3) s.length)
    have hd : 0 ≤ Int.tdiv p s.length ∧ Int.tdiv p s.length ≤ p := by
     rw [Int.tdiv_eq_ediv_of_nonneg hp]
     exact ⟨Int.ediv_nonneg hp (by omega), Int.ediv_le_self _ hp⟩
    generalize rd s (Int.tmod p s.length) = a at *
    generalize rd s (Int.tmod (p * 7 + 3) s.length) = b at *
    generalize Int.tdiv p s.length = c at *
    obtain ⟨X, hX, hX0, hX1⟩ : ∃ X : Int, wrap64 (wrap64 (wrap64 (wrap64 (wrap64 a * 131) + wrap64 (wrap64 b * 1117)) + wrap64 (p * 29)) + wrap64 (wrap64 c * 53)) = X ∧ 0 ≤ X ∧ X < 1000000000000 := by
     refine ⟨a * 131 + b * 1117 + p * 29 + c * 53, ?_, by omega, by omega⟩
     rw [w64 (x := a) (by omega) (by omega), w64 (x := b) (by omega) (by omega), w64 (x := c) (by omega) (by omega), w64 (x := a * 131) (by omega) (by omega), w64 (x := b * 1117) (by omega) (by omega), w64 (x := p * 29) (by omega) (by omega), w64 (x := c * 53) (by omega) (by omega), w64 (x := a * 131 + b * 1117) (by omega) (by omega), w64 (x := a * 131 + b * 1117 + p * 29) (by omega) (by omega), w64 (by omega) (by omega)]
    rw [hX]
    have hq : 0 ≤ Int.tdiv X 64 ∧ Int.tdiv X 64 ≤ X := by
     rw [Int.tdiv_eq_ediv_of_nonneg hX0]; omega
    rw [w64 (x := Int.tdiv X 64) (by omega) (by omega)]
    have := tm _ (xor_bd X (Int.tdiv X 64) hX0 (by omega) hq.1 (by omega))
    exact ⟨this.1, .inl this.2, rfl⟩

def insAt (L : List S38) (n : Nat) (e : S38) : List S38 := L.take n ++ e :: L.drop n
def befN (L : List S38) (e : S38) : Nat := (L.takeWhile (fun x => befE x e)).length
def tonRes (Z : List S38) : List S38 × Bool := if tonOk Z = true then (Z, true) else ([], false)
def tonAdd (L : List S38) (e : S38) : List S38 × Bool := if tonOk L = true then tonRes (insAt L (befN L e) e) else ([], false)
def insR (L : List S38) (e : S38) (at_ i : Nat) : List S38 := if i ≤ at_ then (L.drop i).take (at_ - i) ++ e :: L.drop at_ else L.drop i
theorem insR_zero (L : List S38) (e : S38) (a : Nat) : insR L e a 0 = insAt L a e := by
 unfold insR insAt
 rw [if_pos (Nat.zero_le _), List.drop_zero, Nat.sub_zero]
theorem insR_lt (L : List S38) (e : S38) (a i : Nat) (hi : i < L.length) (ha : i < a) : insR L e a i = rd_T38 L (i : Int) :: insR L e a (i + 1) := by
 unfold insR
 rw [if_pos (by omega), if_pos (by omega), rd_drop L i hi, show a - i = (a - (i + 1)) + 1 by omega, List.take_succ_cons]; rfl
theorem insR_eq (L : List S38) (e : S38) (i : Nat) (hi : i < L.length) : insR L e i i = e :: rd_T38 L (i : Int) :: insR L e i (i + 1) := by
 unfold insR
 rw [if_pos (Nat.le_refl _), if_neg (by omega), Nat.sub_self, List.take_zero, rd_drop L i hi]; rfl
theorem insR_gt (L : List S38) (e : S38) (a i : Nat) (hi : i < L.length) (ha : a < i) : insR L e a i = rd_T38 L (i : Int) :: insR L e a (i + 1) := by
 unfold insR
 rw [if_neg (by omega), if_neg (by omega), rd_drop L i hi]
theorem insR_end (L : List S38) (e : S38) (a : Nat) (ha : a ≤ L.length) : insR L e a L.length = if a = L.length then [e] else [] := by
 unfold insR
 by_cases h : a = L.length
 ·
  subst h
  rw [if_pos (Nat.le_refl _), if_pos rfl, Nat.sub_self, List.take_zero, List.drop_length]; rfl
 ·
  rw [if_neg (by omega), if_neg h, List.drop_length]
theorem entSz_ins {L : List S38} {e : S38} (n : Nat) (hz : entSz L = true) (he : e.f0.size ≤ 9000000000000000 ∧ e.f2.length ≤ 1000000000000) : entSz (insAt L n e) = true := by
 unfold insAt
 refine List.all_eq_true.2 fun x hx => decide_eq_true ?_
 rcases List.mem_append.1 hx with h | h
 ·
  exact entSz_all hz x (List.mem_of_mem_take h)
 ·
  rcases List.mem_cons.1 h with rfl | h
  ·
   exact he
  ·
   exact entSz_all hz x (List.mem_of_mem_drop h)
theorem insAt_len (L : List S38) (n : Nat) (e : S38) : (insAt L n e).length = L.length + 1 := by
 unfold insAt
 rw [List.length_append, List.length_cons, List.length_take, List.length_drop]; omega
theorem spec_l5Copy_eq (e : S38) (h : e.f2.length ≤ 1000000000000) : spec_l5Copy.f e.f0 e.f1 e.f2 = some (e.f0, e.f1, e.f2) := by
 unfold spec_l5Copy.f
 simp only [Option.bind_some, List.nil_append, List.length_nil]
 rw [if_pos (by omega)]
theorem spec_TonaryAdd_ev (L : List S38) (e : S38) (hl : L.length ≤ 1000000000) (hz : entSz L = true) (he : e.f0.size ≤ 9000000000000000 ∧ e.f2.length ≤ 1000000000000) :
 Ev (fun n => spec_TonaryAdd.f n L e.f0 e.f1 e.f2) (tonAdd L e) := by
 have HZ := entSz_all hz
 have hv := spec_TonaryValid_ev L (by omega) hz
 unfold spec_TonaryAdd.f tonAdd
 refine Ev.conb rfl (Ev.bind hv ?_)
 cases hk : tonOk L
 ·
  rw [if_neg (by simp)]
  exact Ev.neg (by simp) (Ev.now _)
 rw [if_pos rfl]
 refine Ev.pos rfl ?_
 have hec := spec_l5Copy_eq e he.2
 have key1 : ∀ (a : Nat), a ≤ L.length → ∀ (d i : Nat) (X : List S38), i + d = L.length → X.length ≤ 2 * i → X ++ insR L e a i = insAt L a e → Ev (fun n => spec_TonaryAdd.l1 n L X (a : Int) (i : Int) e.f0 e.f1 e.f2) (tonRes (insAt L a e)) := by
  intro a ha d
  have hvz := spec_TonaryValid_ev (insAt L a e) (by rw [insAt_len]; omega) (entSz_ins a hz he)
  induction d with
  | zero =>
   intro i X hi hX hin
   obtain rfl : i = L.length := by omega
   rw [insR_end L e a ha] at hin
   refine Ev.succ ?_
   simp only [spec_TonaryAdd.l1]
   refine Ev.neg (by omega) ?_
   unfold tonRes
   by_cases h : a = L.length
   ·
    rw [if_pos h] at hin
    refine Ev.pos (by omega) (Ev.conb hec (Ev.pos (by omega) (Ev.conb rfl ?_)))
    rw [show (⟨e.f0, e.f1, e.f2⟩ : S38) = e from rfl, hin]
    refine Ev.bind hvz ?_
    cases tonOk (insAt L a e)
    ·
     exact Ev.neg (by simp) (Ev.now _)
    ·
     exact Ev.pos rfl (Ev.now _)
   ·
    rw [if_neg h, List.append_nil] at hin
    refine Ev.neg (by omega) ?_
    rw [hin]
    refine Ev.bind hvz ?_
    cases tonOk (insAt L a e)
    ·
     exact Ev.neg (by simp) (Ev.now _)
    ·
     exact Ev.pos rfl (Ev.now _)
  | succ d ih =>
   intro i X hi hX hin
   have hlt : i < L.length := by omega
   have hzi := HZ _ (rd_ent L i hlt)
   have hrc := spec_l5Copy_eq (rd_T38 L (i : Int)) hzi.2
   have ih1 := fun X hX hin => ih (i + 1) X (by omega) hX hin
   rw [show ((i + 1 : Nat) : Int) = (i : Int) + 1 by omega] at ih1
   refine Ev.succ ?_
   simp only [spec_TonaryAdd.l1]
   rw [w64 (x := (i : Int) + 1) (by omega) (by omega)]
   refine Ev.pos (by omega) ?_
   by_cases hia : i = a
   ·
    subst hia
    rw [insR_eq L e i hlt] at hin
    refine Ev.pos rfl (Ev.conb hec (Ev.pos (by omega) (Ev.conb rfl (Ev.pos (by omega) (Ev.conb hrc (Ev.pos (by rw [List.length_append, List.length_singleton]; omega) ?_))))))
    refine ih1 _ (by rw [List.length_append, List.length_append, List.length_singleton, List.length_singleton]; omega) ?_
    rw [← hin]; simp
   ·
    refine Ev.neg (by omega) (Ev.pos (by omega) (Ev.conb hrc (Ev.pos (by omega) ?_)))
    refine ih1 _ (by rw [List.length_append, List.length_singleton]; omega) ?_
    rw [← hin]
    by_cases hlt2 : i < a
    ·
     rw [insR_lt L e a i hlt hlt2]; simp
    ·
     rw [insR_gt L e a i hlt (by omega)]; simp
 have key0 : ∀ (d i : Nat), i + d = L.length → Ev (fun n => spec_TonaryAdd.l0 n L [] (i : Int) e.f0 e.f1 e.f2) (tonRes (insAt L (i + befN (L.drop i) e) e)) := by
  intro d
  have fin : ∀ i : Nat, i ≤ L.length → Ev (fun n => spec_TonaryAdd.j1 n L [] (i : Int) e.f0 e.f1 e.f2) (tonRes (insAt L i e)) := by
   intro i hi
   refine Ev.succ ?_
   simp only [spec_TonaryAdd.j1]
   exact key1 i hi L.length 0 [] (by omega) (by simp) (by rw [insR_zero]; rfl)
  induction d with
  | zero =>
   intro i hi
   refine Ev.succ ?_
   simp only [spec_TonaryAdd.l0]
   refine Ev.neg (by omega) ?_
   rw [List.drop_of_length_le (by omega), show befN [] e = 0 from rfl, Nat.add_zero]
   exact fin i (by omega)
  | succ d ih =>
   intro i hi
   have hlt : i < L.length := by omega
   have ih1 := ih (i + 1) (by omega)
   rw [show ((i + 1 : Nat) : Int) = (i : Int) + 1 by omega] at ih1
   refine Ev.succ ?_
   simp only [spec_TonaryAdd.l0]
   rw [w64 (x := (i : Int) + 1) (by omega) (by omega)]
   refine Ev.pos (by omega) (Ev.pos (by omega) (Ev.conb (spec_l5Before_eq _ _) ?_))
   rw [rd_drop L i hlt]
   cases hb : befE (rd_T38 L (i : Int)) e
   ·
    refine Ev.neg (by simp) ?_
    rw [show befN (rd_T38 L (i : Int) :: L.drop (i + 1)) e = 0 by unfold befN; rw [List.takeWhile_cons, hb]; rfl, Nat.add_zero]
    exact fin i (by omega)
   ·
    refine Ev.pos rfl ?_
    rw [show i + befN (rd_T38 L (i : Int) :: L.drop (i + 1)) e = i + 1 + befN (L.drop (i + 1)) e by unfold befN; rw [List.takeWhile_cons, hb]; simp only [if_true, List.length_cons]; omega]
    exact ih1
 have := key0 L.length 0 (by omega)
 simpa using this

theorem of_ev {s : List Int} (hc : Code s) (p : Int) (hp : 0 ≤ p) (hp' : p ≤ 100000000) (xs : List ByteArray) (hx : 0 < xs.length) (hx' : xs.length ≤ 1000) :
 Evx (fun k => spec_l6Rd_of.f k s p xs) (fun r => r.1 ∈ xs ∧ r.2 = p + 1) := by
 unfold spec_l6Rd_of.f
 refine Evx.bind (pick_ev hc p _ hp (by omega)) ?_
 rintro ⟨r, q⟩ ⟨hr0, hr1, rfl⟩
 have hr0 : 0 ≤ r := hr0
 have hr1 : r < (xs.length : Int) ∨ r = 0 := hr1
 refine Evx.pos hr0 (Evx.pos (by omega) (Evx.now ⟨?_, rfl⟩))
 have hlt : r.toNat < xs.length := by omega
 show rdOf ByteArray.empty xs r ∈ xs
 unfold rdOf
 rw [List.getD_eq_getElem?_getD, List.getElem?_eq_getElem hlt]
 exact List.getElem_mem hlt
theorem some_ev {s : List Int} (hc : Code s) (n p : Int) (hn : n ≤ 1000) (hp : 0 ≤ p) (hp' : p ≤ 10000000) :
 Evx (fun k => spec_l91Some.f k s p n) (fun r => (r.1.length : Int) ≤ mx 0 n ∧ p ≤ r.2 ∧ r.2 ≤ p + 2 * mx 0 n) := by
 unfold spec_l91Some.f
 have key : ∀ (d i : Nat) (X : List S90) (q : Int), (i : Int) + d = mx 0 n → X.length = i → 0 ≤ q → q ≤ 10000000 + 2 * (i : Int) → Evx (fun k => spec_l91Some.l0 k n X (i : Int) s q) (fun r => (r.1.length : Int) ≤ mx 0 n ∧ q ≤ r.2 ∧ r.2 ≤ q + 2 * d) := by
  intro d
  have hm := mx_le 0 n
  have hm2 : mx 0 n = 0 ∨ mx 0 n = n := by unfold mx; split <;> simp
  induction d with
  | zero =>
   intro i X q hi hX hq hq'
   refine Evx.succ ?_
   simp only [spec_l91Some.l0]
   exact Evx.neg (by omega) (Evx.now ⟨by show (X.length : Int) ≤ _; omega, by show q ≤ q; omega, by show q ≤ _; omega⟩)
  | succ d ih =>
   intro i X q hi hX hq hq'
   refine Evx.succ ?_
   simp only [spec_l91Some.l0]
   rw [w64 (x := (i : Int) + 1) (by omega) (by omega)]
   refine Evx.pos (by omega) (Evx.bind (pick_ev hc q 6 hq (by omega)) ?_)
   rintro ⟨r, q1⟩ ⟨hr0, hr1, rfl⟩
   refine Evx.conb rfl (Evx.ite (fun _ => ?_) (fun _ => ?_))
   ·
    refine Evx.bind (pick_ev hc (q + 1) 2 (by omega) (by omega)) ?_
    rintro ⟨r2, q2⟩ ⟨_, _, rfl⟩
    refine Evx.pos (by omega) ?_
    refine (ih (i + 1) _ (q + 1 + 1) (by omega) (by rw [List.length_append, hX]; rfl) (by omega) (by omega)).mono ?_
    rintro ⟨a, b⟩ ⟨h1, h2, h3⟩
    exact ⟨h1, by show q ≤ b; have h2 : q + 1 + 1 ≤ b := h2; omega, by show b ≤ _; have h3 : b ≤ q + 1 + 1 + 2 * (d : Int) := h3; omega⟩
   ·
    refine Evx.pos (by omega) ?_
    refine (ih (i + 1) _ (q + 1) (by omega) (by rw [List.length_append, hX]; rfl) (by omega) (by omega)).mono ?_
    rintro ⟨a, b⟩ ⟨h1, h2, h3⟩
    exact ⟨h1, by show q ≤ b; have h2 : q + 1 ≤ b := h2; omega, by show b ≤ _; have h3 : b ≤ q + 1 + 2 * (d : Int) := h3; omega⟩
 have hm := mx_le 0 n
 have := key (mx 0 n).toNat 0 [] p (by omega) rfl hp (by omega)
 refine this.mono ?_
 rintro ⟨a, b⟩ ⟨h1, h2, h3⟩
 exact ⟨h1, h2, by show b ≤ _; have h3 : b ≤ p + 2 * ((mx 0 n).toNat : Int) := h3; omega⟩
def entB (e : S38) : Prop := e.f0.size ≤ 20 ∧ e.f2.length ≤ 20
theorem drawEntry_ev {s : List Int} (hc : Code s) (p : Int) (hp : 0 ≤ p) (hp' : p ≤ 1000000) :
 Evx (fun k => spec_l92Entry.f k s p) (fun r => entB ⟨r.1, r.2.1, r.2.2.1⟩ ∧ p ≤ r.2.2.2 ∧ r.2.2.2 ≤ p + 60) := by
 have mx4 : ∀ u : Int, 0 ≤ u → u < 4 ∨ u = 0 → mx 0 (wrap64 (1 + u)) ≤ 4 ∧ 0 ≤ mx 0 (wrap64 (1 + u)) := by
  intro u h0 h1
  rw [w64 (by omega) (by omega)]
  unfold mx; split <;> omega
 have mem20 : ∀ (x : ByteArray) (xs : List ByteArray), x ∈ xs → (∀ y ∈ xs, y.size ≤ 20) → x.size ≤ 20 := fun x xs h hy => hy x h
 have o1 : ∀ y ∈ ([(⟨#[97]⟩ : ByteArray), (⟨#[98]⟩ : ByteArray), (⟨#[97, 118, 101]⟩ : ByteArray), (⟨#[100, 101, 117, 115]⟩ : ByteArray), (⟨#[99]⟩ : ByteArray)] : List ByteArray), y.size ≤ 20 := by decide
 have o2 : ∀ y ∈ ([(⟨#[]⟩ : ByteArray), (⟨#[65]⟩ : ByteArray), (⟨#[97, 98, 99, 100, 101, 102, 103, 104, 105, 106, 107]⟩ : ByteArray)] : List ByteArray), y.size ≤ 20 := by decide
 unfold spec_l92Entry.f
 refine Evx.bind (of_ev hc p hp (by omega) _ (by simp) (by simp)) ?_
 rintro ⟨nm, q⟩ ⟨hnm, rfl⟩
 have hnm := mem20 nm _ hnm o1
 refine Evx.bind (pick_ev hc (p + 1) 3 (by omega) (by omega)) ?_
 rintro ⟨mo, q⟩ ⟨_, _, rfl⟩
 refine Evx.bind (pick_ev hc (p + 1 + 1) 4 (by omega) (by omega)) ?_
 rintro ⟨u, q⟩ ⟨hu0, hu1, rfl⟩
 have h4 := mx4 u hu0 hu1
 have h4' : wrap64 (1 + u) ≤ 1000 := by
  have hu0 : 0 ≤ u := hu0
  have hu1 : u < 4 ∨ u = 0 := hu1
  rw [w64 (by omega) (by omega)]; omega
 refine Evx.bind (some_ev hc (wrap64 (1 + u)) (p + 1 + 1 + 1) h4' (by omega) (by omega)) ?_
 rintro ⟨st, q⟩ ⟨hs1, hs2, hs3⟩
 have hs1 : (st.length : Int) ≤ mx 0 (wrap64 (1 + u)) := hs1
 have hs2 : p + 1 + 1 + 1 ≤ q := hs2
 have hs3 : q ≤ p + 1 + 1 + 1 + 2 * mx 0 (wrap64 (1 + u)) := hs3
 refine Evx.bind (pick_ev hc q 40 (by omega) (by omega)) ?_
 rintro ⟨c, q'⟩ ⟨_, _, rfl⟩
 refine Evx.ite (fun _ => ?_) (fun _ => Evx.ite (fun _ => ?_) (fun _ => Evx.ite (fun _ => ?_) (fun _ => ?_)))
 ·
  refine Evx.bind (of_ev hc (q + 1) (by omega) (by omega) _ (by simp) (by simp)) ?_
  rintro ⟨nm2, q'⟩ ⟨hnm2, rfl⟩
  exact Evx.now ⟨⟨mem20 nm2 _ hnm2 o2, by show st.length ≤ 20; omega⟩, by show p ≤ q + 1 + 1; omega, by show q + 1 + 1 ≤ p + 60; omega⟩
 ·
  refine Evx.someb (Evx.bind (pick_ev hc (q + 1) 2 (by omega) (by omega)) ?_)
  rintro ⟨r, q'⟩ ⟨hr0, hr1, rfl⟩
  have hr0 : 0 ≤ r := hr0
  have hr1 : r < 2 ∨ r = 0 := hr1
  exact Evx.pos hr0 (Evx.pos (by simp; omega) (Evx.now ⟨⟨hnm, by show st.length ≤ 20; omega⟩, by show p ≤ q + 1 + 1; omega, by show q + 1 + 1 ≤ p + 60; omega⟩))
 ·
  refine Evx.someb (Evx.bind (pick_ev hc (q + 1) 2 (by omega) (by omega)) ?_)
  rintro ⟨r, q'⟩ ⟨hr0, hr1, rfl⟩
  have hr0 : 0 ≤ r := hr0
  have hr1 : r < 2 ∨ r = 0 := hr1
  have hrd : rd ([0, 9] : List Int) r = 0 ∨ rd ([0, 9] : List Int) r = 9 := by
   have : r = 0 ∨ r = 1 := by omega
   rcases this with rfl | rfl
   ·
    exact .inl rfl
   ·
    exact .inr rfl
  have hmx : mx 0 (rd ([0, 9] : List Int) r) ≤ 9 := by rcases hrd with h | h <;> rw [h] <;> decide
  refine Evx.pos hr0 (Evx.pos (by simp; omega) (Evx.bind (some_ev hc (rd ([0, 9] : List Int) r) (q + 1 + 1) (by rcases hrd with h | h <;> rw [h] <;> decide) (by omega) (by omega)) ?_))
  rintro ⟨st2, q'⟩ ⟨hs1', hs2', hs3'⟩
  have hs1' : (st2.length : Int) ≤ mx 0 (rd ([0, 9] : List Int) r) := hs1'
  have hs2' : q + 1 + 1 ≤ q' := hs2'
  have hs3' : q' ≤ q + 1 + 1 + 2 * mx 0 (rd ([0, 9] : List Int) r) := hs3'
  exact Evx.now ⟨⟨hnm, by show st2.length ≤ 20; omega⟩, by show p ≤ q'; omega, by show q' ≤ p + 60; omega⟩
 ·
  exact Evx.now ⟨⟨hnm, by show st.length ≤ 20; omega⟩, by show p ≤ q + 1; omega, by show q + 1 ≤ p + 60; omega⟩
def tonB (n : Nat) (L : List S38) : Prop := L.length ≤ n ∧ ∀ e ∈ L, entB e
theorem tonB.sz {n : Nat} {L : List S38} (h : tonB n L) : entSz L = true :=
 List.all_eq_true.2 fun e he => decide_eq_true (by have := h.2 e he; unfold entB at this; omega)
theorem tonB.ins {n : Nat} {L : List S38} {e : S38} (h : tonB n L) (he : entB e) (a : Nat) : tonB (n + 1) (insAt L a e) := by
 refine ⟨by rw [insAt_len]; have := h.1; omega, fun x hx => ?_⟩
 unfold insAt at hx
 rcases List.mem_append.1 hx with h1 | h1
 ·
  exact h.2 x (List.mem_of_mem_take h1)
 ·
  rcases List.mem_cons.1 h1 with rfl | h1
  ·
   exact he
  ·
   exact h.2 x (List.mem_of_mem_drop h1)
theorem tonB.add {n : Nat} {L : List S38} {e : S38} (h : tonB n L) (he : entB e) : tonB (n + 1) (tonAdd L e).1 := by
 unfold tonAdd tonRes
 split
 ·
  split
  ·
   exact h.ins he _
  ·
   exact ⟨Nat.zero_le _, fun _ hx => by cases hx⟩
 ·
  exact ⟨Nat.zero_le _, fun _ hx => by cases hx⟩
theorem drawTonary_ev {s : List Int} (hc : Code s) (p : Int) (hp : 0 ≤ p) (hp' : p ≤ 100000) :
 Evx (fun k => spec_l92Tonary.f k s p) (fun r => tonB 6 r.1 ∧ p ≤ r.2 ∧ r.2 ≤ p + 1000) := by
 unfold spec_l92Tonary.f
 refine Evx.bind (pick_ev hc p 6 hp (by omega)) ?_
 rintro ⟨n, q⟩ ⟨hn0, hn1, rfl⟩
 have hn0 : 0 ≤ n := hn0
 have hn1 : n < 6 ∨ n = 0 := hn1
 have key : ∀ (d i : Nat) (X : List S38) (q : Int), (i : Int) + d = n → tonB i X → 0 ≤ q → q ≤ 200000 + 60 * (i : Int) → Evx (fun k => spec_l92Tonary.l0 k X n (i : Int) s q) (fun r => tonB 6 r.1 ∧ q ≤ r.2 ∧ r.2 ≤ q + 60 * d + 1) := by
  intro d
  induction d with
  | zero =>
   intro i X q hi hX hq hq'
   have hX6 : tonB 6 X := ⟨by have := hX.1; omega, hX.2⟩
   refine Evx.succ ?_
   simp only [spec_l92Tonary.l0]
   refine Evx.neg (by omega) (Evx.ite (fun h1 => ?_) (fun _ => Evx.now ⟨hX6, by show q ≤ q; omega, by show q ≤ _; omega⟩))
   refine Evx.bind (pick_ev hc q 30 hq (by omega)) ?_
   rintro ⟨r, q1⟩ ⟨_, _, rfl⟩
   refine Evx.ite (fun _ => ?_) (fun _ => Evx.now ⟨hX6, by show q ≤ q + 1; omega, by show q + 1 ≤ _; omega⟩)
   refine Evx.pos (by omega) (Evx.pos (by omega) (Evx.now ⟨⟨?_, ?_⟩, by show q ≤ q + 1; omega, by show q + 1 ≤ _; omega⟩))
   ·
    show (X.set _ _).length ≤ 6
    rw [List.length_set]; exact hX6.1
   ·
    intro e he
    have hlt : 1 < X.length := by omega
    have h1e : entB (rd_T38 X 1) := by
     have := hX.2 (X[1]'hlt) (List.getElem_mem hlt)
     unfold rd_T38
     rw [List.getD_eq_getElem?_getD, List.getElem?_eq_getElem (show (1 : Int).toNat < X.length from hlt)]
     exact this
    rcases List.mem_or_eq_of_mem_set he with h | h
    ·
     exact hX.2 e h
    ·
     rw [h]; exact h1e
  | succ d ih =>
   intro i X q hi hX hq hq'
   refine Evx.succ ?_
   simp only [spec_l92Tonary.l0]
   rw [w64 (x := (i : Int) + 1) (by omega) (by omega)]
   refine Evx.pos (by omega) (Evx.bind (drawEntry_ev hc q hq (by omega)) ?_)
   rintro ⟨e0, e1, e2, q1⟩ ⟨he, hq1, hq2⟩
   have hq1 : q ≤ q1 := hq1
   have hq2 : q1 ≤ q + 60 := hq2
   have hXl := hX.1
   refine Evx.bind1 (spec_TonaryAdd_ev X ⟨e0, e1, e2⟩ (by omega) hX.sz ⟨Nat.le_trans he.1 (by omega), Nat.le_trans he.2 (by omega)⟩) ?_
   have fin : ∀ Y : List S38, tonB (i + 1) Y → Evx (fun k => spec_l92Tonary.l0 k Y n ((i : Int) + 1) s q1) (fun r => tonB 6 r.1 ∧ q ≤ r.2 ∧ r.2 ≤ q + 60 * ((d + 1 : Nat) : Int) + 1) := by
    intro Y hY
    have := ih (i + 1) Y q1 (by omega) hY (by omega) (by omega)
    rw [show ((i + 1 : Nat) : Int) = (i : Int) + 1 by omega] at this
    refine this.mono ?_
    rintro ⟨a, b⟩ ⟨h1, h2, h3⟩
    exact ⟨h1, by show q ≤ b; have h2 : q1 ≤ b := h2; omega, by show b ≤ _; have h3 : b ≤ q1 + 60 * (d : Int) + 1 := h3; omega⟩
   refine Evx.ite (fun _ => fin _ (hX.add he)) (fun _ => fin X ⟨by omega, hX.2⟩)
 have := key n.toNat 0 [] (p + 1) (by omega) ⟨by simp, fun _ h => by cases h⟩ (by omega) (by omega)
 refine this.mono ?_
 rintro ⟨a, b⟩ ⟨h1, h2, h3⟩
 exact ⟨h1, by show p ≤ b; have h2 : p + 1 ≤ b := h2; omega, by show b ≤ _; have h3 : b ≤ p + 1 + 60 * (n.toNat : Int) + 1 := h3; omega⟩

theorem drawTonFind_ev (l0 : List Int) (hw : ∀ x ∈ l0, (Lit.int .u8 x).wf = true) : Evx (fun k => spec_DrawTonaryFind.f k l0) (fun r => tonB 6 r.1 ∧ r.2.length ≤ 24) := by
 obtain ⟨s, hs, hc⟩ := open_ev l0 hw
 unfold spec_DrawTonaryFind.f
 refine Evx.conb hs (Evx.bind (drawTonary_ev hc 0 (by omega) (by omega)) ?_)
 rintro ⟨L, q⟩ ⟨hL, hq0, hq1⟩
 have hq0 : 0 ≤ q := hq0
 have hq1 : q ≤ 0 + 1000 := hq1
 have hL : tonB 6 L := hL
 have yes : ∀ q : Int, 0 ≤ q → q ≤ 2000 → Evx (fun k => spec_DrawTonaryFind.j0 k L true s q) (fun r => tonB 6 r.1 ∧ r.2.length ≤ 24) := by
  intro q hq hq'
  refine Evx.succ ?_
  simp only [spec_DrawTonaryFind.j0]
  refine Evx.pos (by simp) (Evx.bind (pick_ev hc q 4 hq (by omega)) ?_)
  rintro ⟨n, q1⟩ ⟨hn0, hn1, rfl⟩
  have hn0 : 0 ≤ n := hn0
  have hn1 : n < 4 ∨ n = 0 := hn1
  refine Evx.bind (some_ev hc n (q + 1) (by omega) (by omega) (by omega)) ?_
  rintro ⟨m, q2⟩ ⟨h1, _, _⟩
  have h1 : (m.length : Int) ≤ mx 0 n := h1
  have hmx : mx 0 n ≤ 4 := by unfold mx; split <;> omega
  exact Evx.now ⟨hL, by show m.length ≤ 24; omega⟩
 refine Evx.ite (fun _ => yes q hq0 (by omega)) (fun hne => ?_)
 have hne : ¬ (L.length : Int) = 0 := hne
 refine Evx.bind (pick_ev hc q 5 hq0 (by omega)) ?_
 rintro ⟨u, q1⟩ ⟨_, _, rfl⟩
 show Evx (fun k => spec_DrawTonaryFind.j0 k L (u == 0) s (q + 1)) _
 cases (u == 0)
 ·
  refine Evx.succ ?_
  simp only [spec_DrawTonaryFind.j0]
  refine Evx.neg (by simp) (Evx.bind (pick_ev hc (q + 1) _ (by omega) (by omega)) ?_)
  rintro ⟨i, q2⟩ ⟨hi0, hi1, rfl⟩
  have hi0 : 0 ≤ i := hi0
  have hi1 : i < (L.length : Int) ∨ i = 0 := hi1
  have hin : i.toNat < L.length := by omega
  have hb : entB (rd_T38 L i) := by
   unfold rd_T38
   rw [List.getD_eq_getElem?_getD, List.getElem?_eq_getElem hin]
   exact hL.2 _ (List.getElem_mem hin)
  show Evx (fun k => if 0 ≤ i then _ else none) _
  refine Evx.pos hi0 (Evx.pos (by omega) ?_)
  generalize rd_T38 L i = e at hb ⊢
  unfold entB at hb
  rw [w64 (x := (e.f2.length : Int) + 1) (by omega) (by omega)]
  refine Evx.bind (pick_ev hc (q + 1 + 1) _ (by omega) (by omega)) ?_
  rintro ⟨j, q3⟩ ⟨hj0, hj1, rfl⟩
  have hj0 : 0 ≤ j := hj0
  have hj1 : j < (e.f2.length : Int) + 1 ∨ j = 0 := hj1
  refine Evx.pos hj0 (Evx.pos (by show j ≤ (e.f2.length : Int); omega) (Evx.someb (Evx.someb (Evx.bind (pick_ev hc (q + 1 + 1 + 1) 6 (by omega) (by omega)) ?_))))
  rintro ⟨v, q4⟩ ⟨hv0, hv1, rfl⟩
  have hv0 : 0 ≤ v := hv0
  have hv1 : v < 6 ∨ v = 0 := hv1
  have hlen : (e.f2.take j.toNat).length ≤ 20 := by rw [List.length_take]; omega
  refine Evx.pos hv0 (Evx.pos (by simp; omega) (Evx.bind1 (spec_MelodyMove_ev (e.f2.take j.toNat) (rd ([0, 3, 4, (-3), (-4), 7] : List Int) v) (by omega)) ?_))
  refine Evx.ite (fun _ => Evx.now ⟨hL, mmove_len _ _⟩) (fun _ => Evx.now ⟨hL, by show (e.f2.take j.toNat).length ≤ 24; omega⟩)
 ·
  exact yes (q + 1) (by omega) (by omega)

def MV (k s : Int) : List S90 → List S90 → Prop
 | [], [] => True
 | x :: xs, y :: ys => (y.f0 = x.f0 + k ∧ toneOk y = true ∧ hgt y - hgt x = s) ∧ MV k s xs ys
 | _, _ => False
theorem MV_len {k s : Int} : ∀ {m M : List S90}, MV k s m M → M.length = m.length
 | [], [], _ => rfl
 | x :: xs, y :: ys, h => by rw [List.length_cons, List.length_cons, MV_len h.2]
 | [], _ :: _, h => h.elim
 | _ :: _, [], h => h.elim
theorem MV_ok {k s : Int} : ∀ {m M : List S90}, MV k s m M → M.all toneOk = true
 | [], [], _ => rfl
 | x :: xs, y :: ys, h => by rw [List.all_cons, h.1.2.1, MV_ok h.2]; rfl
 | [], _ :: _, h => h.elim
 | _ :: _, [], h => h.elim
theorem MV_all {k s : Int} : ∀ {m M : List S90}, mvAll k s m = some M → MV k s m M
 | [], M, h => by cases h; trivial
 | x :: xs, M, h => by
  simp only [mvAll] at h
  have good : ∀ b, mvGood k s x b = true → (mvT x k b).f0 = x.f0 + k ∧ toneOk (mvT x k b) = true ∧ hgt (mvT x k b) - hgt x = s := by
   intro b hb
   unfold mvGood at hb
   rw [Bool.and_eq_true, decide_eq_true_eq] at hb
   exact ⟨rfl, hb.1, hb.2⟩
  split at h
  ·
   rename_i hg
   obtain ⟨l, h1, rfl⟩ := Option.map_eq_some_iff.1 h
   exact ⟨good _ hg, MV_all h1⟩
  ·
   split at h
   ·
    rename_i hg
    obtain ⟨l, h1, rfl⟩ := Option.map_eq_some_iff.1 h
    exact ⟨good _ hg, MV_all h1⟩
   ·
    cases h
theorem MV_diffs {k s : Int} (g : S90 → S90 → Int) (hg : ∀ x y x' y' : S90, x'.f0 = x.f0 + k → y'.f0 = y.f0 + k → hgt x' - hgt x = s → hgt y' - hgt y = s → g x y = g x' y') : ∀ {m M : List S90}, MV k s m M → diffs g m = diffs g M
 | [], [], _ => rfl
 | [x], [y], _ => rfl
 | x :: x2 :: xs, y :: y2 :: ys, h => by
  have ih := MV_diffs g hg (m := x2 :: xs) (M := y2 :: ys) h.2
  simp only [diffs]
  rw [ih, hg x x2 y y2 h.1.1 h.2.1.1 h.1.2.2 h.2.1.2.2]
 | [], _ :: _, h => h.elim
 | _ :: _, [], h => h.elim
 | [_], _ :: _ :: _, h => h.2.elim
 | _ :: _ :: _, [_], h => h.2.elim
theorem MV_same {k s : Int} {m M : List S90} (hm : melOk m = true) (h : MV k s m M) : msame m M = true := by
 have hM : melOk M = true := by
  have := melOk_len hm
  unfold melOk
  rw [MV_ok h, decide_eq_true (by rw [MV_len h]; exact this)]; rfl
 unfold msame mdiffs
 rw [hm, hM, decide_eq_true (MV_len h).symm]
 simp only [if_true]
 rw [MV_diffs semD (fun x y x' y' h1 h2 h3 h4 => by unfold semD; congr 1; omega) h, MV_diffs stepD (fun x y x' y' h1 h2 h3 h4 => by unfold stepD; congr 1; omega) h]
 simp
theorem mmove_spec {m M : List S90} {k : Int} (h : mmove m k = (M, true)) : melOk m = true ∧ ((m = [] ∧ M = []) ∨ (m ≠ [] ∧ (-20 ≤ k ∧ k ≤ 20) ∧ ∃ s, MV k s m M)) := by
 unfold mmove at h
 split at h
 ·
  rename_i hok
  refine ⟨hok, ?_⟩
  split at h
  ·
   rename_i h0
   cases h
   exact .inl ⟨List.eq_nil_of_length_eq_zero h0, rfl⟩
  ·
   rename_i h0
   refine .inr ⟨fun e => h0 (by rw [e]; rfl), ?_⟩
   split at h
   ·
    rename_i hk
    refine ⟨hk, ?_⟩
    have go : ∀ b, mmTry m k b = true → mmOf m k b = M → ∃ s, MV k s m M := by
     intro b ht ho
     unfold mmTry at ht
     rw [Bool.and_eq_true] at ht
     unfold mmOf at ho
     unfold movedP at ht ho
     obtain ⟨s, hs⟩ : ∃ s, s = hgt (mvT (rd_T90 m 0) k b) - hgt (rd_T90 m 0) := ⟨_, rfl⟩
     rw [← hs] at ht ho
     cases hl : mvAll k s m with
     | none => rw [hl] at ht; exact absurd ht.2 (by simp)
     | some l =>
      rw [hl] at ho
      have ho : l = M := ho
      subst ho
      exact ⟨s, MV_all hl⟩
    split at h
    ·
     rename_i ht
     exact go _ ht (congrArg Prod.fst h)
    ·
     split at h
     ·
      rename_i ht
      exact go _ ht (congrArg Prod.fst h)
     ·
      cases h
   ·
    cases h
 ·
  cases h
theorem msame_is {m c : List S90} (h : msame m c = true) : melOk m = true ∧ melOk c = true ∧ m.length = c.length ∧ diffs semD m = diffs semD c ∧ diffs stepD m = diffs stepD c := by
 unfold msame at h
 simp only [Bool.and_eq_true, decide_eq_true_eq, beq_iff_eq] at h
 obtain ⟨h1, h2, h3, h4, h5⟩ := h
 unfold mdiffs at h4 h5
 rw [if_pos h1, if_pos h2] at h4 h5
 exact ⟨h1, h2, h3, h4, h5⟩

end Go.Proofs.YtmacedbpdhkagaaDoor.Pure
namespace Go.Proofs.YtmacedbpdhkagaaDoor.Pure
set_option linter.unusedVariables false
set_option linter.unusedSimpArgs false
open Go Go.RowKit Go.Proofs.YtmacedbpdhkagaaDoor.PFnTonaryFind Go.Proofs.YtmacedbpdhkagaaDoorW.PrintWords Go.Proofs.YtmacedbpdhkagaaDoorW.PrintLast Go.Proofs.YtmacedbpdhkagaaDoorW.PrintMore

theorem sameInts_ev (l : List Int) (hl : l.length ≤ 1000000000000000) : Ev (fun k => laws_sameInts.f k l l) true := by
 unfold laws_sameInts.f
 refine Ev.pos rfl ?_
 have := Ev.over (0 : Int) l (fun k (_ : Unit) i => laws_sameInts.l0 k l l i) (fun _ _ => true) (fun _ _ => True) (by
  intro s _
  refine Ev.succ ?_
  simp only [laws_sameInts.l0]
  exact Ev.neg (by omega) (Ev.now _)) (by
  intro s i rest _ hi _ ih
  refine Ev.succ ?_
  simp only [laws_sameInts.l0]
  refine Ev.pos (by omega) (Ev.pos (by omega) (Ev.pos (by omega) (Ev.pos (by simp) ?_)))
  rw [w64 (by omega) (by omega)]
  exact ih () trivial) 0 () (Nat.zero_le _) trivial
 simpa using this

theorem diffs_take (g : S90 → S90 → Int) : ∀ (m : List S90) (k : Nat), diffs g (m.take k) = (diffs g m).take (k - 1)
 | [], k => by simp [diffs]
 | [x], k => by
  cases k with
  | zero => simp [diffs]
  | succ k => simp [diffs]
 | x :: y :: r, k => by
  match k with
  | 0 => simp [diffs]
  | 1 => simp [diffs]
  | k + 2 =>
   have := diffs_take g (y :: r) (k + 1)
   rw [List.take_succ_cons, List.take_succ_cons]
   simp only [diffs]
   rw [List.take_succ_cons] at this
   rw [this]
   rfl
theorem melOk_take {m : List S90} (h : melOk m = true) (k : Nat) : melOk (m.take k) = true := by
 unfold melOk at h ⊢
 simp only [Bool.and_eq_true, decide_eq_true_eq, List.all_eq_true] at h ⊢
 exact ⟨by rw [List.length_take]; omega, fun x hx => h.2 x (List.mem_of_mem_take hx)⟩
theorem msame_of {m c : List S90} (h1 : melOk m = true) (h2 : melOk c = true) (h3 : m.length = c.length) (h4 : diffs semD m = diffs semD c) (h5 : diffs stepD m = diffs stepD c) : msame m c = true := by
 unfold msame mdiffs
 rw [h1, h2, if_pos rfl, if_pos rfl, if_pos rfl, if_pos rfl, h3, h4, h5]
 simp
theorem msame_take {x m : List S90} (h : msame x m = true) (k : Nat) : msame (x.take k) (m.take k) = true := by
 obtain ⟨h1, h2, h3, h4, h5⟩ := msame_is h
 refine msame_of (melOk_take h1 k) (melOk_take h2 k) (by rw [List.length_take, List.length_take, h3]) ?_ ?_
 ·
  rw [diffs_take, diffs_take, h4]
 ·
  rw [diffs_take, diffs_take, h5]
theorem msame_eq {x m M : List S90} (h : msame m M = true) : msame x m = msame x M := by
 obtain ⟨h1, h2, h3, h4, h5⟩ := msame_is h
 unfold msame mdiffs
 rw [h1, h2, if_pos rfl, if_pos rfl, if_pos rfl, if_pos rfl, h3, h4, h5]
theorem tfHit_take {m : List S90} {e : S38} (h : tfHit m e = true) (k : Nat) (hk : k ≤ m.length) : tfHit (m.take k) e = true := by
 unfold tfHit at h ⊢
 simp only [Bool.and_eq_true, decide_eq_true_eq] at h ⊢
 have hl : (m.take k).length = k := by rw [List.length_take]; omega
 refine ⟨by omega, ?_⟩
 rw [hl]
 have := msame_take h.2 k
 rw [List.take_take, Nat.min_eq_left hk] at this
 exact this
theorem tfFrom_sub {m m' : List S90} : ∀ (L : List S38) (i : Int), (∀ e ∈ L, tfHit m e = true → tfHit m' e = true) → List.Sublist (tfFrom m i L) (tfFrom m' i L)
 | [], _, _ => List.Sublist.slnil
 | e :: es, i, h => by
  have ih := tfFrom_sub es (i + 1) (fun x hx => h x (List.mem_cons_of_mem _ hx))
  unfold tfFrom
  by_cases h1 : tfHit m e = true
  ·
   rw [if_pos h1, if_pos (h e (List.mem_cons_self ..) h1)]
   exact ih.cons_cons i
  ·
   rw [if_neg h1]
   split
   ·
    exact ih.cons i
   ·
    exact ih
theorem tfFrom_eq {m m' : List S90} : ∀ (L : List S38) (i : Int), (∀ e ∈ L, tfHit m e = tfHit m' e) → tfFrom m i L = tfFrom m' i L
 | [], _, _ => rfl
 | e :: es, i, h => by
  have ih := tfFrom_eq es (i + 1) (fun x hx => h x (List.mem_cons_of_mem _ hx))
  unfold tfFrom
  rw [h e (List.mem_cons_self ..), ih]
/-- What stands in the list of hits. -/
theorem tfFrom_mem {m : List S90} : ∀ (L : List S38) (i x : Int), x ∈ tfFrom m i L → ∃ j : Nat, x = i + j ∧ j < L.length ∧ tfHit m (L.getD j z38) = true
 | [], _, x, h => by cases h
 | e :: es, i, x, h => by
  unfold tfFrom at h
  have rec_ : x ∈ tfFrom m (i + 1) es → ∃ j : Nat, x = i + j ∧ j < (e :: es).length ∧ tfHit m ((e :: es).getD j z38) = true := by
   intro h
   obtain ⟨j, h1, h2, h3⟩ := tfFrom_mem es (i + 1) x h
   exact ⟨j + 1, by omega, by simp only [List.length_cons]; omega, by rw [List.getD_cons_succ]; exact h3⟩
  split at h
  ·
   rename_i hh
   rcases List.mem_cons.1 h with rfl | h
   ·
    exact ⟨0, by omega, by simp, by rw [List.getD_cons_zero]; exact hh⟩
   ·
    exact rec_ h
  ·
   exact rec_ h
theorem tfFrom_pair {m : List S90} : ∀ (L : List S38) (i : Int), (tfFrom m i L).Pairwise (· < ·)
 | [], _ => List.Pairwise.nil
 | e :: es, i => by
  have ih := tfFrom_pair (m := m) es (i + 1)
  unfold tfFrom
  split
  ·
   refine List.Pairwise.cons (fun x hx => ?_) ih
   obtain ⟨j, h1, _, _⟩ := tfFrom_mem es (i + 1) x hx
   omega
  ·
   exact ih
theorem sub_ne {x y : Int} {xs ys : List Int} (h : List.Sublist (x :: xs) (y :: ys)) (hne : ¬ y = x) : List.Sublist (x :: xs) ys := by
 cases h with
 | cons _ h => exact h
 | cons_cons _ h => exact absurd rfl hne
theorem FnTonaryFind_core (l0 l1 : List Int) (hw : ∀ x ∈ l0, (Lit.int .u8 x).wf = true) (hl1 : (l1.length : Int) ≤ 9223372036854775807) : ∃ k, laws_FnTonaryFind.f k l0 l1 = some true := by
 have key : Ev (fun k => laws_FnTonaryFind.f k l0 l1) true := by
  unfold laws_FnTonaryFind.f
  have triv : Ev (fun k => laws_FnTonaryFind.j0 k l0 l1 true) true := by
   refine Ev.succ ?_
   simp only [laws_FnTonaryFind.j0]
   exact Ev.pos (by simp) (Ev.now _)
  by_cases c0 : (l0.length : Int) > 1048576
  ·
   exact Ev.pos c0 triv
  refine Ev.neg c0 ?_
  cases decide ((l1.length : Int) > 1048576)
  ·
   skip
   clear triv
   obtain ⟨⟨L, m⟩, hd, hL, hm⟩ := drawTonFind_ev l0 hw
   have hL : tonB 6 L := hL
   have hm : m.length ≤ 24 := hm
   have hLl := hL.1
   have hz := hL.sz
   have hTi := fun m' (h : m'.length ≤ 24) => impl_TonaryFind_ev L m' (by omega) hz (by omega)
   have hTs := spec_TonaryFind_ev L m (by omega) hz (by omega)
   obtain ⟨O, hO⟩ : ∃ O, O = tonFind L m := ⟨_, rfl⟩
   have hOl : O.length ≤ 6 := by rw [hO]; have := tonFind_len L m; omega
   have hsame : ∀ X : List Int, X.length ≤ 6 → Ev (fun k => laws_sameInts.f k X X) true := fun X hX => sameInts_ev X (by omega)
   have hTm := hTi m hm
   rw [← hO] at hTm hTs
   refine Ev.succ ?_
   simp only [laws_FnTonaryFind.j0]
   refine Ev.neg (by simp) (Ev.bind hd (Ev.bind hTm (Ev.bind hTs (Ev.bind (hsame O hOl) (Ev.pos rfl ?_)))))
   refine Ev.succ ?_
   simp only [laws_FnTonaryFind.j1]
   by_cases hO0 : O.length = 0
   ·
    rw [show ((O.length : Int) == 0) = true by simp [hO0]]
    exact Ev.pos (by simp) (Ev.bind (hsame O hOl) (Ev.now _))
   rw [show ((O.length : Int) == 0) = false by simp [hO0]]
   refine Ev.neg (by simp) ?_
   obtain ⟨hok, hmel⟩ : tonOk L = true ∧ melOk m = true := by
    by_cases h : (tonOk L && melOk m) = true
    ·
     simpa using h
    ·
     rw [hO] at hO0
     unfold tonFind at hO0
     rw [if_neg h] at hO0
     exact absurd rfl hO0
   have htf : ∀ m', melOk m' = true → tonFind L m' = tfFrom m' 0 L := fun m' h => by unfold tonFind; rw [hok, h]; rfl
   have hOt : O = tfFrom m 0 L := by rw [hO, htf m hmel]
   have hpair : O.Pairwise (· < ·) := by rw [hOt]; exact tfFrom_pair L 0
   have hmem : ∀ x ∈ O, 0 ≤ x ∧ x < (L.length : Int) ∧ tfHit m (rd_T38 L x) = true := by
    intro x hx
    rw [hOt] at hx
    obtain ⟨j, h1, h2, h3⟩ := tfFrom_mem L 0 x hx
    refine ⟨by omega, by omega, ?_⟩
    unfold rd_T38
    rw [show x.toNat = j by omega]; exact h3
   obtain ⟨k, hk⟩ : ∃ k : Nat, ((l1.length : Int) % ((m.length : Int) + 1)) = k := ⟨((l1.length : Int) % ((m.length : Int) + 1)).toNat, by have := Int.emod_nonneg (l1.length : Int) (show (m.length : Int) + 1 ≠ 0 by omega); omega⟩
   have hkm : k ≤ m.length := by have := Int.emod_lt_of_pos (l1.length : Int) (show 0 < (m.length : Int) + 1 by omega); omega
   have hFk := hTi (m.take k) (by rw [List.length_take]; omega)
   obtain ⟨F, hF⟩ : ∃ F, F = tonFind L (m.take k) := ⟨_, rfl⟩
   have hFl : F.length ≤ 6 := by rw [hF]; have := tonFind_len L (m.take k); omega
   rw [← hF] at hFk
   have hsub : List.Sublist O F := by
    rw [hF, hOt, htf _ (melOk_take hmel k)]
    exact tfFrom_sub L 0 (fun e _ h => tfHit_take h k hkm)
   -- the end
   have fin : Ev (fun n => (impl_MelodyMove.f m 3).bind fun bt => (if True then (if bt.2 = true then ((impl_TonaryFind.f n L bt.1).bind fun t => ((laws_sameInts.f n t O).bind fun u => (some u))) else (some true)) else (some false))) true := by
    refine Ev.conb (show impl_MelodyMove.f m 3 = some (mmove m 3) from if_pos (by omega)) (Ev.pos trivial ?_)
    obtain ⟨⟨M, p⟩, hM⟩ : ∃ r, mmove m 3 = r := ⟨_, rfl⟩
    have hMl : M.length ≤ 24 := by have := mmove_len m 3; rw [hM] at this; exact this
    rw [hM]
    cases p
    ·
     exact Ev.neg (by simp) (Ev.now _)
    refine Ev.pos rfl (Ev.bind (hTi M hMl) ?_)
    have hMO : tonFind L M = O := by
     obtain ⟨_, h⟩ := mmove_spec hM
     have hs : msame m M = true := by
      rcases h with ⟨rfl, rfl⟩ | ⟨_, _, s, h⟩
      ·
       rfl
      ·
       exact MV_same hmel h
     obtain ⟨_, h2, h3, _, _⟩ := msame_is hs
     rw [htf M h2, hOt]
     refine tfFrom_eq L 0 (fun e _ => ?_)
     unfold tfHit
     rw [h3, msame_eq (x := e.f2.take M.length) hs]
    rw [hMO]
    exact Ev.bind (hsame O hOl) (Ev.now _)
   -- the greedy match
   have greedy : ∀ (d i a : Nat), i + d = F.length → a ≤ O.length → List.Sublist (O.drop a) (F.drop i) → Ev (fun n => laws_FnTonaryFind.l1 n L m O F (a : Int) (i : Int)) true := by
    intro d
    have done_ : ∀ i : Nat, Ev (fun n => laws_FnTonaryFind.j4 n L m O F (O.length : Int) (i : Int) false) true := by
     intro i
     refine Ev.succ ?_
     simp only [laws_FnTonaryFind.j4]
     exact Ev.neg (by simp) fin
    induction d with
    | zero =>
     intro i a hi ha hs
     rw [List.drop_of_length_le (show F.length ≤ i by omega)] at hs
     have := List.sublist_nil.1 hs
     have := congrArg List.length this
     rw [List.length_drop] at this
     obtain rfl : a = O.length := by simp at this; omega
     refine Ev.succ ?_
     simp only [laws_FnTonaryFind.l1]
     exact Ev.neg (by omega) (done_ i)
    | succ d ih =>
     intro i a hi ha hs
     refine Ev.succ ?_
     simp only [laws_FnTonaryFind.l1]
     refine Ev.pos (by omega) ?_
     by_cases hae : a = O.length
     ·
      subst hae
      rw [decide_eq_false (by omega)]
      exact done_ i
     rw [decide_eq_true (by omega)]
     refine Ev.succ ?_
     simp only [laws_FnTonaryFind.j4]
     have hiF : i < F.length := by omega
     have haO : a < O.length := by omega
     have e1 : rd F (i : Int) = F[i] := by unfold rd; rw [Int.toNat_natCast, List.getD_eq_getElem?_getD, List.getElem?_eq_getElem hiF]; rfl
     have e2 : rd O (a : Int) = O[a] := by unfold rd; rw [Int.toNat_natCast, List.getD_eq_getElem?_getD, List.getElem?_eq_getElem haO]; rfl
     rw [w64 (x := (i : Int) + 1) (by omega) (by omega), w64 (x := (a : Int) + 1) (by omega) (by omega), e1, e2]
     rw [List.drop_eq_getElem_cons hiF, List.drop_eq_getElem_cons haO] at hs
     refine Ev.pos (by simp) (Ev.pos (by omega) (Ev.pos (by omega) (Ev.pos (by omega) (Ev.pos (by omega) ?_))))
     by_cases heq : F[i] = O[a]
     ·
      refine Ev.pos heq ?_
      rw [heq] at hs
      exact ih (i + 1) (a + 1) (by omega) (by omega) (List.cons_sublist_cons.1 hs)
     ·
      refine Ev.neg heq ?_
      refine ih (i + 1) a (by omega) ha ?_
      rw [List.drop_eq_getElem_cons haO]
      exact sub_ne hs heq
   -- each hit
   have each : ∀ (d i : Nat), i + d = O.length → Ev (fun n => laws_FnTonaryFind.l0 n l1 L m O (i : Int)) true := by
    intro d
    induction d with
    | zero =>
     intro i hi
     refine Ev.succ ?_
     simp only [laws_FnTonaryFind.l0]
     rw [w64 (x := (m.length : Int) + 1) (by omega) (by omega), hk, Int.toNat_natCast]
     refine Ev.neg (by omega) (Ev.neg (by omega) (Ev.pos (by omega) (Ev.pos (by omega) (Ev.bind hFk ?_))))
     exact greedy F.length 0 0 (by omega) (by omega) (by simpa using hsub)
    | succ d ih =>
     intro i hi
     have hiO : i < O.length := by omega
     have e1 : rd O (i : Int) = O[i] := by unfold rd; rw [Int.toNat_natCast, List.getD_eq_getElem?_getD, List.getElem?_eq_getElem hiO]; rfl
     obtain ⟨h1, h2, h3⟩ := hmem O[i] (List.getElem_mem hiO)
     have h4 : m.length ≤ (rd_T38 L O[i]).f2.length ∧ msame ((rd_T38 L O[i]).f2.take m.length) m = true := by
      unfold tfHit at h3; simpa using h3
     have h5 := hL.2 (rd_T38 L O[i]) (by
      have hlt : (O[i]).toNat < L.length := by omega
      unfold rd_T38
      rw [List.getD_eq_getElem?_getD, List.getElem?_eq_getElem hlt]
      exact List.getElem_mem hlt)
     unfold entB at h5
     have ih1 := ih (i + 1) (by omega)
     rw [show ((i + 1 : Nat) : Int) = (i : Int) + 1 by omega] at ih1
     refine Ev.succ ?_
     simp only [laws_FnTonaryFind.l0]
     rw [w64 (x := (i : Int) + 1) (by omega) (by omega), e1, Int.toNat_natCast]
     have hms : impl_MelodySame.f ((rd_T38 L O[i]).f2.take m.length) m = some true := by
      rw [← h4.2]; exact if_pos ⟨by rw [List.length_take]; omega, by omega⟩
     refine Ev.pos (by omega) (Ev.pos (by omega) (Ev.pos h1 (Ev.pos h2 (Ev.neg (by omega) (Ev.pos (by omega) (Ev.pos (by omega) (Ev.conb hms (Ev.pos rfl ?_))))))))
     by_cases hi0 : (i : Int) > 0
     ·
      have hj : i - 1 < O.length := by omega
      have e2 : rd O ((i : Int) - 1) = O[i - 1] := by unfold rd; rw [show ((i : Int) - 1).toNat = i - 1 by omega, List.getD_eq_getElem?_getD, List.getElem?_eq_getElem hj]; rfl
      rw [w64 (x := (i : Int) - 1) (by omega) (by omega), e2]
      have hlt := List.pairwise_iff_getElem.1 hpair (i - 1) i hj hiO (by omega)
      exact Ev.pos hi0 (Ev.pos (by omega) (Ev.pos (by omega) (Ev.neg (by omega) ih1)))
     ·
      exact Ev.neg hi0 ih1
   exact each O.length 0 (by omega)
  ·
   exact triv
 exact Ev.rounds key
theorem FnTonaryFind_walk (l0 l1 : List Int) (A0 : Option Addr) (c0 : Nat) (A1 : Option Addr) (c1 : Nat) (w : World) (ht : DTab w) (hr0 : Kd.C (Kd.int .u8) w A0 l0.length l0) (hc0 : l0.length ≤ c0) (hw0 : ∀ x ∈ l0, (Lit.int .u8 x).wf = true) (hm0 : l0.length ≤ maxLen) (hr1 : Kd.C (Kd.int .u8) w A1 l1.length l1) (hc1 : l1.length ≤ c1) (hw1 : ∀ x ∈ l1, (Lit.int .u8 x).wf = true) (hm1 : l1.length ≤ maxLen) :
 Calls Tryd.prog 10 #[.slice A0 l0.length c0, .slice A1 l1.length c1] w fun e w' => e = .returned (.bool true) ∧ Below w.heap.size w w' := by
 unfold maxLen at hm1
 obtain ⟨k, h⟩ := FnTonaryFind_core l0 l1 hw0 (by omega)
 exact laws_FnTonaryFind.calls k A0 c0 l0 A1 c1 l1 true w ht hr0 hc0 hr1 hc1 rfl h

def Opn {α : Type} (P : Program) (t : TypeId) (d : Kd α) (ok : α → Prop) : Prop :=
 P.cellsOf t = d.sz ∧ ∀ {H : Type} (enc : TypeId × Value → H) (w : World) (base : Nat) (held : Bool) (fuel : Nat) (cs : List Value) (x : DataW H × List MemPlace), DataW.trod enc P w base (fun _ => true) held fuel t cs = some x → ∃ p, d.K w p cs ∧ ok p
theorem opn_int {P : Program} {t : TypeId} (k : IntKind) (ht : P.underlying t = some (.int k)) (hc : P.cellsOf t = 1) : Opn P t (Kd.int k) (fun n => (Lit.int k n).wf = true) :=
 ⟨hc, fun enc w base held fuel cs x h => by obtain ⟨n, rfl, _, hw⟩ := DataW.trod_int ht h; exact ⟨n, rfl, hw⟩⟩
theorem opn_slice {α : Type} {P : Program} {t e : TypeId} {d : Kd α} {ok : α → Prop} (ht : P.underlying t = some (.slice e)) (hc : P.cellsOf t = 1) (he : Opn P e d ok) : Opn P t (Kd.slice e d) (fun l => (∀ x ∈ l, ok x) ∧ l.length ≤ maxLen) := by
 refine ⟨hc, fun enc w base held fuel cs x h => ?_⟩
 rcases Go.Deep.open_slice ht h with ⟨rfl, _⟩ | ⟨a, len, cap, m, n, D, Pl, rfl, _, hl, hm, hmm, _, hi⟩
 ·
  exact ⟨[], ⟨none, 0, rfl, Nat.le_refl _, rfl, by simp, fun h => by simp at h⟩, by simp, by simp⟩
 ·
  have hmc : m = cap := by simpa using hmm
  clear hmm
  have key : ∀ k, k ≤ len → ∃ l : List α, l.length = k ∧ (∀ x ∈ l, ok x) ∧ ∀ j p, l[j]? = some p → ∃ c, c.length = d.sz ∧ d.K w p c ∧ ∀ i u, c[i]? = some u → w.cell? (a.add (j * d.sz + i)) = some u := by
   intro k
   induction k with
   | zero => intro _; exact ⟨[], rfl, by simp, by simp⟩
   | succ k ih =>
    intro hk
    obtain ⟨l, hll, hlo, hlc⟩ := ih (by omega)
    obtain ⟨cs', hcs, ht'⟩ := hi k (by omega)
    rw [he.1] at hcs
    obtain ⟨p, hp, hop⟩ := he.2 enc w base held n cs' _ ht'
    obtain ⟨_, hcl, hat⟩ := World.cells?_some hcs
    refine ⟨l ++ [p], by simp [hll], ?_, ?_⟩
    ·
     intro x hx
     rcases List.mem_append.1 hx with hx | hx
     ·
      exact hlo x hx
     ·
      rw [List.mem_singleton.1 hx]; exact hop
    ·
     intro j q hq
     by_cases hj : j < l.length
     ·
      rw [List.getElem?_append_left hj] at hq
      exact hlc j q hq
     ·
      have hj2 : j = l.length := by
       have := (List.getElem?_eq_some_iff.1 hq).1
       simp at this; omega
      subst hj2
      rw [List.getElem?_append_right (Nat.le_refl _)] at hq
      simp at hq
      subst hq
      refine ⟨cs', hcl, hp, fun i u hu => ?_⟩
      have hil : i < d.sz := by rw [← hcl]; exact (List.getElem?_eq_some_iff.1 hu).1
      rw [hll, ← Go.Deep.add_add, hat i hil, hu]
  obtain ⟨l, hll, hlo, hlc⟩ := key len (Nat.le_refl _)
  subst hll
  exact ⟨l, ⟨some a, cap, rfl, hl, rfl, by unfold maxLen at hm; omega, fun _ => ⟨a, rfl, hlc⟩⟩, hlo, by omega⟩
/-- A slice argument. -/
theorem opn_arg {α : Type} {P : Program} {t e : TypeId} {d : Kd α} {ok : List α → Prop} (h : Opn P t (Kd.slice e d) ok) {H : Type} {enc : TypeId × Value → H} {w : World} {base : Nat} {held : Bool} {a : Option Addr} {len cap : Nat} {x : DataW H} {p : List MemPlace} (hr : DataW.Trod enc P w base (fun _ => true) held t (.slice a len cap) x p) :
 ∃ l : List α, len = l.length ∧ l.length ≤ cap ∧ d.C w a l.length l ∧ ok l := by
 obtain ⟨fuel, hf⟩ := hr
 obtain ⟨l, ⟨A, c, he, hc, hC⟩, ho⟩ := h.2 enc w base held fuel _ _ hf
 simp [Value.cells] at he
 obtain ⟨rfl, rfl, rfl⟩ := he
 exact ⟨l, rfl, hc, hC, ho⟩

end Go.Proofs.YtmacedbpdhkagaaDoor.Pure
