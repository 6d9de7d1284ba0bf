/- Lemmas for the law FnExactPsalmMove. -/
import Derived.Test.YtpcohkffbjdmfaaDoorSFnExactPsalmMoves5
namespace Go.Proofs.YtpcohkffbjdmfaaDoor.Pure
set_option linter.unusedVariables false
set_option linter.unusedSimpArgs false
open Go Go.RowKit Go.Proofs.YtpcohkffbjdmfaaDoor.PFnExactPsalmMove Go.Proofs.YtpcohkffbjdmfaaDoorW.PrintWords Go.Proofs.YtpcohkffbjdmfaaDoorW.PrintLast Go.Proofs.YtpcohkffbjdmfaaDoorW.PrintMore

theorem impl_tonesValid_ev (l : List S29) (a b : Int) : Ev (fun n => impl_tonesValid.f n l a b) (decide (a ≤ (l.length : Int) ∧ (l.length : Int) ≤ b) && melOk l) := by
 unfold impl_tonesValid.f
 by_cases h1 : (l.length : Int) ≥ a
 ·
  refine Ev.pos h1 ?_
  by_cases h2 : (l.length : Int) ≤ b
  ·
   refine Ev.pos h2 (Ev.bind (impl_MelodyValid_ev l) (Ev.eqr (Ev.now _) ?_))
   rw [decide_eq_true ⟨h1, h2⟩, Bool.true_and]
  ·
   exact Ev.neg h2 (Ev.eqr (Ev.now _) (by rw [decide_eq_false (fun h => h2 h.2), Bool.false_and]))
 ·
  exact Ev.neg h1 (Ev.eqr (Ev.now _) (by rw [decide_eq_false (fun h => h1 h.1), Bool.false_and]))
theorem impl_PsalmValid_ev (S : List S29) (t : S29) (M E : List S29) : Ev (fun n => impl_PsalmValid.f n S t.f0 t.f1 M E) (psOk S t M E) := by
 unfold impl_PsalmValid.f psOk
 have e1 := impl_tonesValid_ev S 0 3
 have e2 := impl_tonesValid_ev M 1 4
 have e3 := impl_tonesValid_ev E 1 4
 rw [show (decide ((0 : Int) ≤ (S.length : Int) ∧ (S.length : Int) ≤ 3)) = decide (S.length ≤ 3) from decide_eq_decide.2 (by omega)] at e1
 rw [show (decide ((1 : Int) ≤ (M.length : Int) ∧ (M.length : Int) ≤ 4)) = decide (1 ≤ M.length ∧ M.length ≤ 4) from decide_eq_decide.2 (by omega)] at e2
 rw [show (decide ((1 : Int) ≤ (E.length : Int) ∧ (E.length : Int) ≤ 4)) = decide (1 ≤ E.length ∧ E.length ≤ 4) from decide_eq_decide.2 (by omega)] at e3
 refine Ev.bind e1 ?_
 cases decide (S.length ≤ 3) && melOk S
 ·
  exact Ev.neg (by simp) (Ev.now _)
 refine Ev.pos rfl (Ev.conb (impl_Tone_valid_eq t.f0 t.f1) ?_)
 show Ev _ (true && (toneOk ⟨t.f0, t.f1⟩ && _))
 cases toneOk ⟨t.f0, t.f1⟩
 ·
  exact Ev.neg (by simp) (Ev.now _)
 refine Ev.pos rfl (Ev.bind e2 ?_)
 cases decide (1 ≤ M.length ∧ M.length ≤ 4) && melOk M
 ·
  exact Ev.neg (by simp) (Ev.now _)
 refine Ev.pos rfl (Ev.bind e3 (Ev.eqr (Ev.now _) ?_))
 simp
theorem impl_PsalmMove_ev (S : List S29) (t : S29) (M E : List S29) (k : Int) : Ev (fun n => impl_PsalmMove.f n S t.f0 t.f1 M E k) (psMv S t M E k) := by
 unfold impl_PsalmMove.f psMv
 refine Ev.bind (impl_PsalmValid_ev S t M E) ?_
 cases hok : psOk S t M E
 ·
  exact Ev.neg (by simp) (Ev.now _)
 obtain ⟨h1, h2, h3⟩ := psOk_len hok
 rw [if_pos rfl]
 have ct : ∀ l : List S29, l.length ≤ 1000 → impl_copiedTones.f l = some l := fun l h => by unfold impl_copiedTones.f; rw [if_pos (by omega)]
 simp only [eq_self_iff_true, if_true]
 refine Ev.conb (ct S (by omega)) ?_
 refine Ev.someb ?_
 refine Ev.pos (by simp only [List.length_singleton]; omega) ?_
 refine Ev.someb ?_
 refine Ev.pos (by simp only [List.length_append, List.length_singleton]; omega) ?_
 refine Ev.someb ?_
 refine Ev.pos (by simp only [List.length_append, List.length_singleton]; omega) ?_
 have hall : S ++ [(⟨t.f0, t.f1⟩ : S29)] ++ M ++ E = psAll S t M E := rfl
 have hlen : (psAll S t M E).length = S.length + 1 + M.length + E.length := by unfold psAll; simp only [List.length_append, List.length_singleton]
 have hmv : impl_MelodyMove.f (S ++ [(⟨t.f0, t.f1⟩ : S29)] ++ M ++ E) k = some (mmove (psAll S t M E) k) := by
  rw [hall]; unfold impl_MelodyMove.f; rw [if_pos (by omega)]
 refine Ev.conb hmv ?_
 by_cases hm : (mmove (psAll S t M E) k).2 = true
 ·
  have hX := mmove_len_ok hm
  obtain ⟨X, hXe⟩ : ∃ X, X = (mmove (psAll S t M E) k).1 := ⟨_, rfl⟩
  rw [← hXe] at hX ⊢
  rw [if_pos hm, if_pos hm, w64 (x := (S.length : Int) + 1) (by omega) (by omega), w64 (x := (S.length : Int) + 1 + (M.length : Int)) (by omega) (by omega)]
  have n1 : ((S.length : Int) : Int).toNat = S.length := by omega
  have n2 : ((S.length : Int) + 1 + (M.length : Int)).toNat = S.length + 1 + M.length := by omega
  have n3 : ((S.length : Int) + 1).toNat = S.length + 1 := by omega
  rw [n1, n2, n3]
  refine (Ev.pos (by omega) (Ev.pos (by omega) (Ev.conb (ct _ (by rw [List.length_take]; omega)) (Ev.pos (by omega) (Ev.pos (by omega) (Ev.pos (by omega) (Ev.pos (by omega) (Ev.conb (ct _ (by rw [List.length_drop, List.length_take]; omega)) (Ev.pos (by omega) (Ev.conb (ct _ (by rw [List.length_drop]; omega)) (Ev.now _)))))))))))
 ·
  rw [if_neg hm, if_neg hm]
  exact Ev.now _

end Go.Proofs.YtpcohkffbjdmfaaDoor.Pure
namespace Go.Proofs.YtpcohkffbjdmfaaDoor.Pure
set_option linter.unusedVariables false
set_option linter.unusedSimpArgs false
open Go Go.RowKit Go.Proofs.YtpcohkffbjdmfaaDoor.PFnExactPsalmMove Go.Proofs.YtpcohkffbjdmfaaDoorW.PrintWords Go.Proofs.YtpcohkffbjdmfaaDoorW.PrintLast Go.Proofs.YtpcohkffbjdmfaaDoorW.PrintMore

section
variable {α : Type} {d : Kd α} {e : Nat} {W W' w0 : World} {B a b n c : Nat} {v : Value} {A : Option Addr} {xs ys : List α} {S : Nat → Prop}
end
section
variable {α : Type} {d : Kd α} {e : Nat} {W W' w0 : World} {B a b n c : Nat} {v : Value} {A : Option Addr} {xs ys : List α} {S : Nat → Prop}
end

def convTone (x : S24) : S29 := ⟨x.f0, x.f1⟩
theorem szToneS_eq (l : List S24) (left : Int) (h0 : 0 ≤ left) (h1 : left ≤ 1000000000000) (hl : (l.length : Int) ≤ 9223372036854775807) : laws_szToneS.f l left = some (if left - (l.length : Int) < 0 then -1 else left - (l.length : Int)) := by
 unfold laws_szToneS.f
 rw [w64 (by omega) (by omega)]
 split <;> rfl
theorem toToneS_ev (l : List S24) (hl : l.length ≤ 1000000000000) : Ev (fun k => laws_toToneS.f k l) (l.map convTone) := by
 unfold laws_toToneS.f
 refine Ev.pos (by omega) (Ev.pos (by simp; omega) ?_)
 have := Ev.over z24 l (fun k (s : List S29) i => laws_toToneS.l0 k l s i) (fun s rest => s.take (l.length - rest.length) ++ rest.map convTone) (fun _ s => s.length = l.length) (by
  intro s hs
  refine Ev.succ ?_
  simp only [laws_toToneS.l0]
  refine Ev.eqr (Ev.neg (by omega) (Ev.now _)) ?_
  simp [← hs]) (by
  intro s i rest hs hi hdr ih
  have hrl : rest.length + 1 + i = l.length := by
   have := congrArg List.length hdr
   simp at this; omega
  refine Ev.succ ?_
  simp only [laws_toToneS.l0]
  refine Ev.pos (by omega) (Ev.pos (by omega) (Ev.conb (a := ((rd_T24 l i).f0, (rd_T24 l i).f1)) rfl (Ev.pos (by omega) ?_)))
  rw [w64 (by omega) (by omega)]
  refine Ev.eqr (ih _ (by simpa using hs)) ?_
  have e1 : l.length - rest.length = i + 1 := by omega
  have e2 : l.length - (l.getD i z24 :: rest).length = i := by simp; omega
  rw [e1, e2]
  simp only [Int.toNat_natCast, List.map_cons]
  rw [List.take_set, List.take_succ_eq_append_getElem (by omega), List.set_append_right _ _ (by simp; omega)]
  have e3 : i - (s.take i).length = 0 := by simp; omega
  rw [e3]
  simp [convTone, rd_T24]) 0 (List.replicate l.length z29) (Nat.zero_le _) (by simp)
 simpa using this
theorem eqToneS_ev (l : List S29) (hl : l.length ≤ 1000000000000000) : Ev (fun k => laws_eqToneS.f k l l) true := by
 unfold laws_eqToneS.f
 refine Ev.pos rfl ?_
 have := Ev.over z29 l (fun k (_ : Unit) i => laws_eqToneS.l0 k l l i) (fun _ _ => true) (fun _ _ => True) (by
  intro s _
  refine Ev.succ ?_
  simp only [laws_eqToneS.l0]
  exact Ev.neg (by omega) (Ev.now _)) (by
  intro s i rest _ hi _ ih
  refine Ev.succ ?_
  simp only [laws_eqToneS.l0]
  refine Ev.pos (by omega) (Ev.pos (by omega) (Ev.pos (by omega) (Ev.conb (a := true) (by simp [laws_eqTone.f]) (Ev.pos rfl ?_))))
  rw [w64 (by omega) (by omega)]
  exact ih () trivial) 0 () (Nat.zero_le _) trivial
 simpa using this
def markTone : Nat → Int → List S29
 | 0, _ => []
 | n + 1, a => ⟨a, Int.tmod (a + 1) 3 == 0⟩ :: markTone n (a + 2)
theorem markTone_len : ∀ n a, (markTone n a).length = n
 | 0, _ => rfl
 | n + 1, a => by simp [markTone, markTone_len n]
theorem markTone_get : ∀ (n : Nat) (a : Int) (i : Nat), i < n → (markTone n a).getD i z29 = ⟨a + 2 * i, Int.tmod (a + 2 * i + 1) 3 == 0⟩
 | 0, _, _, h => by omega
 | n + 1, a, 0, _ => by simp [markTone]
 | n + 1, a, i + 1, h => by
  have := markTone_get n (a + 2) i (by omega)
  simp only [markTone, List.getD_cons_succ]
  rw [this]
  have e : a + 2 + 2 * (i : Int) = a + 2 * ((i + 1 : Nat) : Int) := by omega
  rw [e]
theorem markToneS_ev (l : List S29) (a : Int) (ha : 0 ≤ a) (ha' : a ≤ 1000000000000000) (hl : l.length ≤ 1000000000000000) : Ev (fun k => laws_markToneS.f k l a) (a + 2 * l.length, markTone l.length a) := by
 unfold laws_markToneS.f
 have := Ev.over z29 l (fun k (s : List S29 × Int) i => laws_markToneS.l0 k s.1 s.2 i) (fun s rest => (s.2 + 2 * (rest.length : Int), s.1.take (l.length - rest.length) ++ markTone rest.length s.2)) (fun i s => s.1.length = l.length ∧ s.2 = a + 2 * i) (by
  intro s hs
  refine Ev.succ ?_
  simp only [laws_markToneS.l0]
  refine Ev.eqr (Ev.neg (by omega) (Ev.now _)) ?_
  simp [← hs.1, markTone]) (by
  intro s i rest hs hi hdr ih
  have hrl : rest.length + 1 + i = l.length := by
   have := congrArg List.length hdr
   simp at this; omega
  refine Ev.succ ?_
  simp only [laws_markToneS.l0]
  refine Ev.pos (by omega) (Ev.pos (by omega) (Ev.someb ?_))
  have h2 := hs.2
  rw [w64 (x := s.2 + 1) (by omega) (by omega), w64 (x := s.2 + 1 + 1) (by omega) (by omega), w64 (by omega) (by omega)]
  refine Ev.eqr (ih (_, s.2 + 1 + 1) ⟨by simpa using hs.1, by simp only []; omega⟩) ?_
  have e1 : l.length - rest.length = i + 1 := by omega
  have e2 : l.length - (l.getD i z29 :: rest).length = i := by simp; omega
  rw [e1, e2]
  simp only [Int.toNat_natCast, List.length_cons, markTone, List.set_set]
  refine Prod.ext (by simp only []; omega) ?_
  simp only []
  rw [List.take_set, List.take_succ_eq_append_getElem (by omega), List.set_append_right _ _ (by simp; omega)]
  have e3 : i - (s.1.take i).length = 0 := by simp; omega
  have e4 : s.2 + 1 + 1 = s.2 + 2 := by omega
  have e5 : (rd_T29 (s.1.set i ⟨s.2, (rd_T29 s.1 i).f1⟩) i).f0 = s.2 := by
   simp [rd_T29, List.getD_eq_getElem?_getD, List.getElem?_set_self (show i < s.1.length by omega)]
  rw [e3, e4, e5]
  simp) 0 (l, a) (Nat.zero_le _) ⟨rfl, by simp⟩
 simpa using this
theorem heldToneS_ev (n : Nat) (a : Int) (ha : 0 ≤ a) (ha' : a ≤ 1000000000000000) (hl : n ≤ 1000000000000000) : Ev (fun k => laws_heldToneS.f k (markTone n a) a) (a + 2 * n) := by
 unfold laws_heldToneS.f
 have := Ev.over z29 (markTone n a) (fun k (s : Int) i => laws_heldToneS.l0 k (markTone n a) s i) (fun s rest => s + 2 * (rest.length : Int)) (fun i s => s = a + 2 * i) (by
  intro s hs
  refine Ev.succ ?_
  simp only [laws_heldToneS.l0]
  refine Ev.eqr (Ev.neg (by omega) (Ev.now _)) ?_
  simp) (by
  intro s i rest hs hi hdr ih
  rw [markTone_len] at hi
  have hg : rd_T29 (markTone n a) i = ⟨a + 2 * i, Int.tmod (a + 2 * i + 1) 3 == 0⟩ := markTone_get n a i hi
  refine Ev.succ ?_
  simp only [laws_heldToneS.l0]
  rw [hg, markTone_len]
  subst hs
  rw [w64 (x := a + 2 * i + 1) (by omega) (by omega), w64 (x := a + 2 * i + 1 + 1) (by omega) (by omega), w64 (by omega) (by omega)]
  refine Ev.pos (by omega) (Ev.pos (by omega) (Ev.pos rfl (Ev.neg (by simp) ?_)))
  refine Ev.eqr (ih _ (by omega)) ?_
  simp only [List.length_cons]; omega) 0 a (Nat.zero_le _) (by simp)
 simpa [markTone_len] using this
end Go.Proofs.YtpcohkffbjdmfaaDoor.Pure
namespace Go.Proofs.YtpcohkffbjdmfaaDoor.Pure
set_option linter.unusedVariables false
set_option linter.unusedSimpArgs false
open Go Go.RowKit Go.Proofs.YtpcohkffbjdmfaaDoor.PFnExactPsalmMove Go.Proofs.YtpcohkffbjdmfaaDoorW.PrintWords Go.Proofs.YtpcohkffbjdmfaaDoorW.PrintLast Go.Proofs.YtpcohkffbjdmfaaDoorW.PrintMore

theorem szPsalm_eq (S : List S24) (x : Int) (s : Bool) (M E : List S24) (hS : (S.length : Int) ≤ 9223372036854775807) (hM : (M.length : Int) ≤ 9223372036854775807) (hE : (E.length : Int) ≤ 9223372036854775807) : ∃ r, laws_szPsalm.f S x s M E 1048576 = some r ∧ (r < 0 ∨ (S.length ≤ 1048576 ∧ M.length ≤ 1048576 ∧ E.length ≤ 1048576)) := by
 unfold laws_szPsalm.f
 rw [szToneS_eq S 1048576 (by omega) (by omega) hS]
 simp only [Option.bind_some]
 by_cases h1 : (1048576 : Int) - (S.length : Int) < 0
 ·
  rw [if_pos h1]; exact ⟨-1, rfl, .inl (by omega)⟩
 rw [if_neg h1, if_neg h1, szToneS_eq M _ (by omega) (by omega) hM]
 simp only [Option.bind_some]
 by_cases h2 : (1048576 : Int) - (S.length : Int) - (M.length : Int) < 0
 ·
  rw [if_pos h2]; exact ⟨-1, rfl, .inl (by omega)⟩
 rw [if_neg h2, if_neg h2, szToneS_eq E _ (by omega) (by omega) hE]
 simp only [Option.bind_some]
 by_cases h3 : (1048576 : Int) - (S.length : Int) - (M.length : Int) - (E.length : Int) < 0
 ·
  rw [if_pos h3]; exact ⟨-1, rfl, .inl (by omega)⟩
 rw [if_neg h3, if_neg h3]
 exact ⟨_, rfl, .inr ⟨by omega, by omega, by omega⟩⟩
theorem toPsalm_ev (S : List S24) (x : Int) (s : Bool) (M E : List S24) (hS : S.length ≤ 1048576) (hM : M.length ≤ 1048576) (hE : E.length ≤ 1048576) : Ev (fun n => laws_toPsalm.f n S x s M E) (S.map convTone, x, s, M.map convTone, E.map convTone) := by
 unfold laws_toPsalm.f
 exact Ev.bind (toToneS_ev S (by omega)) (Ev.conb (a := (x, s)) rfl (Ev.bind (toToneS_ev M (by omega)) (Ev.bind (toToneS_ev E (by omega)) (Ev.now _))))
theorem eqPsalm_ev (S : List S29) (x : Int) (s : Bool) (M E : List S29) (hS : S.length ≤ 1048576) (hM : M.length ≤ 1048576) (hE : E.length ≤ 1048576) : Ev (fun n => laws_eqPsalm.f n S x s M E S x s M E) true := by
 unfold laws_eqPsalm.f
 exact Ev.bind (eqToneS_ev S (by omega)) (Ev.pos rfl (Ev.conb (a := true) (by simp [laws_eqTone.f]) (Ev.pos rfl (Ev.bind (eqToneS_ev M (by omega)) (Ev.pos rfl (Ev.bind (eqToneS_ev E (by omega)) (Ev.pos rfl (Ev.now _))))))))
theorem markPsalm_ev (S : List S29) (x : Int) (s : Bool) (M E : List S29) (hS : S.length ≤ 1048576) (hM : M.length ≤ 1048576) (hE : E.length ≤ 1048576) :
 Ev (fun n => laws_markPsalm.f n S x s M E 1) (1 + 2 * (S.length : Int) + 2 * (M.length : Int) + 2 * (E.length : Int), markTone S.length 1, markTone M.length (1 + 2 * (S.length : Int)), markTone E.length (1 + 2 * (S.length : Int) + 2 * (M.length : Int))) := by
 unfold laws_markPsalm.f
 exact Ev.bind (markToneS_ev S 1 (by omega) (by omega) (by omega)) (Ev.bind (markToneS_ev M (1 + 2 * (S.length : Int)) (by omega) (by omega) (by omega)) (Ev.bind (markToneS_ev E (1 + 2 * (S.length : Int) + 2 * (M.length : Int)) (by omega) (by omega) (by omega)) (Ev.now _)))
theorem heldPsalm_ev (a b c : Nat) (x : Int) (s : Bool) (ha : a ≤ 1048576) (hb : b ≤ 1048576) (hc : c ≤ 1048576) :
 Ev (fun n => laws_heldPsalm.f n (markTone a 1) x s (markTone b (1 + 2 * (a : Int))) (markTone c (1 + 2 * (a : Int) + 2 * (b : Int))) 1) (1 + 2 * (a : Int) + 2 * (b : Int) + 2 * (c : Int)) := by
 unfold laws_heldPsalm.f
 exact Ev.bind (heldToneS_ev a 1 (by omega) (by omega) (by omega)) (Ev.neg (by omega) (Ev.bind (heldToneS_ev b (1 + 2 * (a : Int)) (by omega) (by omega) (by omega)) (Ev.neg (by omega) (Ev.bind (heldToneS_ev c (1 + 2 * (a : Int) + 2 * (b : Int)) (by omega) (by omega) (by omega)) (Ev.neg (by omega) (Ev.now _))))))
theorem FnExactPsalmMove_core (S : List S24) (x : Int) (s : Bool) (M E : List S24) (k : Int) (hS : S.length ≤ maxLen) (hM : M.length ≤ maxLen) (hE : E.length ≤ maxLen) : ∃ n, laws_FnExactPsalmMove.f n S x s M E k = some true := by
 unfold maxLen at hS hM hE
 have key : Ev (fun n => laws_FnExactPsalmMove.f n S x s M E k) true := by
  unfold laws_FnExactPsalmMove.f
  obtain ⟨r, hr, hc⟩ := szPsalm_eq S x s M E (by omega) (by omega) (by omega)
  refine Ev.conb hr ?_
  by_cases h0 : r < 0
  ·
   exact Ev.pos h0 (Ev.now _)
  refine Ev.neg h0 ?_
  obtain ⟨lS, lM, lE⟩ := hc.resolve_left h0
  have hto := toPsalm_ev S x s M E lS lM lE
  obtain ⟨S', hS'⟩ : ∃ l, l = S.map convTone := ⟨_, rfl⟩
  obtain ⟨M', hM'⟩ : ∃ l, l = M.map convTone := ⟨_, rfl⟩
  obtain ⟨E', hE'⟩ : ∃ l, l = E.map convTone := ⟨_, rfl⟩
  rw [← hS', ← hM', ← hE'] at hto
  have lS' : S'.length ≤ 1048576 := by rw [hS', List.length_map]; exact lS
  have lM' : M'.length ≤ 1048576 := by rw [hM', List.length_map]; exact lM
  have lE' : E'.length ≤ 1048576 := by rw [hE', List.length_map]; exact lE
  have hi := impl_PsalmMove_ev S' ⟨x, s⟩ M' E' k
  have hs : spec_PsalmMove.f S' x s M' E' k = some (psMv S' ⟨x, s⟩ M' E' k) := by
   unfold spec_PsalmMove.f
   rw [if_pos (by omega)]
  obtain ⟨pl1, pl2, pl3⟩ := psMv_len S' ⟨x, s⟩ M' E' k
  obtain ⟨⟨R1, R2, R3, R4, R5, R6⟩, hR⟩ : ∃ R, R = psMv S' ⟨x, s⟩ M' E' k := ⟨_, rfl⟩
  rw [← hR] at hi hs pl1 pl2 pl3
  have pl1 : R1.length ≤ 24 := pl1
  have pl2 : R4.length ≤ 24 := pl2
  have pl3 : R5.length ≤ 24 := pl3
  have heR := eqPsalm_ev R1 R2 R3 R4 R5 (by omega) (by omega) (by omega)
  have heA := eqPsalm_ev S' x s M' E' lS' lM' lE'
  have hmA := markPsalm_ev S' x s M' E' lS' lM' lE'
  have hmR := markPsalm_ev R1 R2 R3 R4 R5 (by omega) (by omega) (by omega)
  have hhR := heldPsalm_ev R1.length R4.length R5.length R2 R3 (by omega) (by omega) (by omega)
  refine Ev.bind hto (Ev.conb hs (Ev.bind hto (Ev.bind hi (Ev.bind heR (Ev.pos rfl (Ev.succ ?_))))))
  simp only [laws_FnExactPsalmMove.j0]
  refine Ev.neg (by simp) (Ev.bind hto (Ev.bind heA (Ev.pos rfl (Ev.bind hmA (Ev.neg (by omega) (Ev.bind heR (Ev.pos rfl (Ev.succ ?_))))))))
  simp only [laws_FnExactPsalmMove.j1]
  refine Ev.neg (by simp) (Ev.bind hmR (Ev.bind hhR (Ev.neg (by omega) (Ev.pos rfl (Ev.bind hto (Ev.bind hi (Ev.bind heR (Ev.pos rfl (Ev.succ ?_)))))))))
  simp only [laws_FnExactPsalmMove.j2]
  exact Ev.neg (by simp) (Ev.bind hhR (Ev.neg (by omega) (Ev.pos rfl (Ev.now _))))
 exact Ev.rounds key
theorem FnExactPsalmMove_walk (S : List S24) (x : Int) (s : Bool) (M E : List S24) (k : Int) (A0 : Option Addr) (c0 : Nat) (A3 : Option Addr) (c3 : Nat) (A4 : Option Addr) (c4 : Nat) (w : World) (ht : HTab w) (hr0 : Kd.C k24 w A0 S.length S) (hc0 : S.length ≤ c0) (hm0 : S.length ≤ maxLen) (hr3 : Kd.C k24 w A3 M.length M) (hc3 : M.length ≤ c3) (hm3 : M.length ≤ maxLen) (hr4 : Kd.C k24 w A4 E.length E) (hc4 : E.length ≤ c4) (hm4 : E.length ≤ maxLen) :
 Calls Tryd.prog 3 #[.agg #[.slice A0 S.length c0, .int .i64 x, .bool s, .slice A3 M.length c3, .slice A4 E.length c4], .int .i64 k] w fun e w' => e = .returned (.bool true) ∧ Below w.heap.size w w' := by
 obtain ⟨n, h⟩ := FnExactPsalmMove_core S x s M E k hm0 hm3 hm4
 exact laws_FnExactPsalmMove.calls n A0 c0 S x s A3 c3 M A4 c4 E k true w ht hr0 hc0 hr3 hc3 hr4 hc4 rfl h

def Opn {α : Type} (P : Program) (t : TypeId) (d : Kd α) (ok : α → Prop) : Prop :=
 P.cellsOf t = d.sz ∧ ∀ {H : Type} (enc : TypeId × Value → H) (w : World) (base : Nat) (held : Bool) (fuel : Nat) (cs : List Value) (x : DataW H × List MemPlace), DataW.trod enc P w base (fun _ => true) held fuel t cs = some x → ∃ p, d.K w p cs ∧ ok p
theorem opn_int {P : Program} {t : TypeId} (k : IntKind) (ht : P.underlying t = some (.int k)) (hc : P.cellsOf t = 1) : Opn P t (Kd.int k) (fun n => (Lit.int k n).wf = true) :=
 ⟨hc, fun enc w base held fuel cs x h => by obtain ⟨n, rfl, _, hw⟩ := DataW.trod_int ht h; exact ⟨n, rfl, hw⟩⟩
theorem opn_bool {P : Program} {t : TypeId} (ht : P.underlying t = some .bool) (hc : P.cellsOf t = 1) : Opn P t Kd.bool (fun _ => True) :=
 ⟨hc, fun enc w base held fuel cs x h => by obtain ⟨n, rfl, _⟩ := DataW.trod_bool ht h; exact ⟨n, rfl, trivial⟩⟩
theorem opn_slice {α : Type} {P : Program} {t e : TypeId} {d : Kd α} {ok : α → Prop} (ht : P.underlying t = some (.slice e)) (hc : P.cellsOf t = 1) (he : Opn P e d ok) : Opn P t (Kd.slice e d) (fun l => (∀ x ∈ l, ok x) ∧ l.length ≤ maxLen) := by
 refine ⟨hc, fun enc w base held fuel cs x h => ?_⟩
 rcases Go.Deep.open_slice ht h with ⟨rfl, _⟩ | ⟨a, len, cap, m, n, D, Pl, rfl, _, hl, hm, hmm, _, hi⟩
 ·
  exact ⟨[], ⟨none, 0, rfl, Nat.le_refl _, rfl, by simp, fun h => by simp at h⟩, by simp, by simp⟩
 ·
  have hmc : m = cap := by simpa using hmm
  clear hmm
  have key : ∀ k, k ≤ len → ∃ l : List α, l.length = k ∧ (∀ x ∈ l, ok x) ∧ ∀ j p, l[j]? = some p → ∃ c, c.length = d.sz ∧ d.K w p c ∧ ∀ i u, c[i]? = some u → w.cell? (a.add (j * d.sz + i)) = some u := by
   intro k
   induction k with
   | zero => intro _; exact ⟨[], rfl, by simp, by simp⟩
   | succ k ih =>
    intro hk
    obtain ⟨l, hll, hlo, hlc⟩ := ih (by omega)
    obtain ⟨cs', hcs, ht'⟩ := hi k (by omega)
    rw [he.1] at hcs
    obtain ⟨p, hp, hop⟩ := he.2 enc w base held n cs' _ ht'
    obtain ⟨_, hcl, hat⟩ := World.cells?_some hcs
    refine ⟨l ++ [p], by simp [hll], ?_, ?_⟩
    ·
     intro x hx
     rcases List.mem_append.1 hx with hx | hx
     ·
      exact hlo x hx
     ·
      rw [List.mem_singleton.1 hx]; exact hop
    ·
     intro j q hq
     by_cases hj : j < l.length
     ·
      rw [List.getElem?_append_left hj] at hq
      exact hlc j q hq
     ·
      have hj2 : j = l.length := by
       have := (List.getElem?_eq_some_iff.1 hq).1
       simp at this; omega
      subst hj2
      rw [List.getElem?_append_right (Nat.le_refl _)] at hq
      simp at hq
      subst hq
      refine ⟨cs', hcl, hp, fun i u hu => ?_⟩
      have hil : i < d.sz := by rw [← hcl]; exact (List.getElem?_eq_some_iff.1 hu).1
      rw [hll, ← Go.Deep.add_add, hat i hil, hu]
  obtain ⟨l, hll, hlo, hlc⟩ := key len (Nat.le_refl _)
  subst hll
  exact ⟨l, ⟨some a, cap, rfl, hl, rfl, by unfold maxLen at hm; omega, fun _ => ⟨a, rfl, hlc⟩⟩, hlo, by omega⟩
theorem opn_iso {α β : Type} {P : Program} {t : TypeId} {d : Kd α} {ok : α → Prop} (h : Opn P t d ok) (f : β → α) (g : α → β) (hfg : ∀ x, f (g x) = x) : Opn P t (Kd.iso d f) (fun y => ok (f y)) :=
 ⟨h.1, fun enc w base held fuel cs x hx => by
  obtain ⟨p, hp, ho⟩ := h.2 enc w base held fuel cs x hx
  exact ⟨g p, by show d.K w (f (g p)) cs; rw [hfg]; exact hp, by show ok (f (g p)); rw [hfg]; exact ho⟩⟩
theorem opn_struct2 {α β : Type} {P : Program} {t : TypeId} {f0 f1 : Field} {a : Kd α} {b : Kd β} {oka : α → Prop} {okb : β → Prop} (ht : P.underlying t = some (.struct #[f0, f1])) (h0 : Opn P f0.type a oka) (h1 : Opn P f1.type b okb)
 (o0 : f0.offset = 0) (o1 : f1.offset = a.sz) (hc : P.cellsOf t = a.sz + b.sz) : Opn P t (Kd.pair a b) (fun p => oka p.1 ∧ okb p.2) := by
 refine ⟨hc, fun enc w base held fuel cs x h => ?_⟩
 obtain ⟨xs, n, _, _, hl, hxl, hg⟩ := DataW.trod_struct ht h
 have g0 := hg 0 f0 rfl
 have g1 := hg 1 f1 rfl
 rw [o0, h0.1, List.drop_zero] at g0
 rw [o1, h1.1] at g1
 rw [List.getElem?_eq_getElem (by rw [hxl]; simp)] at g0 g1
 obtain ⟨p, hp, hop⟩ := h0.2 enc w base held n _ _ g0
 obtain ⟨q, hq, hoq⟩ := h1.2 enc w base held n _ _ g1
 refine ⟨(p, q), ⟨cs.take a.sz, (cs.drop a.sz).take b.sz, ?_, hp, hq⟩, hop, hoq⟩
 rw [List.take_of_length_le (l := cs.drop a.sz) (by rw [List.length_drop, hl, hc]; omega), List.take_append_drop]
theorem opn_struct4 {α β γ δ : Type} {P : Program} {t : TypeId} {f0 f1 f2 f3 : Field} {a : Kd α} {b : Kd β} {c : Kd γ} {d : Kd δ} {oka : α → Prop} {okb : β → Prop} {okc : γ → Prop} {okd : δ → Prop} (ht : P.underlying t = some (.struct #[f0, f1, f2, f3])) (h0 : Opn P f0.type a oka) (h1 : Opn P f1.type b okb) (h2 : Opn P f2.type c okc) (h3 : Opn P f3.type d okd)
 (o0 : f0.offset = 0) (o1 : f1.offset = a.sz) (o2 : f2.offset = a.sz + b.sz) (o3 : f3.offset = a.sz + b.sz + c.sz) (hc : P.cellsOf t = a.sz + (b.sz + (c.sz + d.sz))) : Opn P t (Kd.pair a (Kd.pair b (Kd.pair c d))) (fun p => oka p.1 ∧ okb p.2.1 ∧ okc p.2.2.1 ∧ okd p.2.2.2) := by
 refine ⟨hc, fun enc w base held fuel cs x h => ?_⟩
 obtain ⟨xs, n, _, _, hl, hxl, hg⟩ := DataW.trod_struct ht h
 have g0 := hg 0 f0 rfl
 have g1 := hg 1 f1 rfl
 have g2 := hg 2 f2 rfl
 have g3 := hg 3 f3 rfl
 rw [o0, h0.1, List.drop_zero] at g0
 rw [o1, h1.1] at g1
 rw [o2, h2.1] at g2
 rw [o3, h3.1] at g3
 rw [List.getElem?_eq_getElem (by rw [hxl]; simp)] at g0 g1 g2 g3
 obtain ⟨p, hp, hop⟩ := h0.2 enc w base held n _ _ g0
 obtain ⟨q, hq, hoq⟩ := h1.2 enc w base held n _ _ g1
 obtain ⟨r, hr, hor⟩ := h2.2 enc w base held n _ _ g2
 obtain ⟨s, hs, hos⟩ := h3.2 enc w base held n _ _ g3
 refine ⟨(p, q, r, s), ⟨cs.take a.sz, cs.drop a.sz, by rw [List.take_append_drop], hp, (cs.drop a.sz).take b.sz, cs.drop (a.sz + b.sz), by rw [← List.drop_drop, List.take_append_drop], hq, (cs.drop (a.sz + b.sz)).take c.sz, (cs.drop (a.sz + b.sz + c.sz)).take d.sz, ?_, hr, hs⟩, hop, hoq, hor, hos⟩
 rw [List.take_of_length_le (l := cs.drop (a.sz + b.sz + c.sz)) (by rw [List.length_drop, hl, hc]; omega)]
 exact (List.take_append_drop c.sz (cs.drop (a.sz + b.sz))).symm.trans (by rw [List.drop_drop])
theorem opn_aggPsalm {P : Program} {t : TypeId} {e : Nat} {ok : List S24 × S24 × List S24 × List S24 → Prop} (h : Opn P t (Kd.pair (Kd.slice e k24) (Kd.pair k24 (Kd.pair (Kd.slice e k24) (Kd.slice e k24)))) ok) {H : Type} {enc : TypeId × Value → H} {w : World} {base : Nat} {held : Bool} {cs : Array Value} {x : DataW H} {p : List MemPlace} (hr : DataW.Trod enc P w base (fun _ => true) held t (.agg cs) x p) :
 ∃ (S : List S24) (y : S24) (M E : List S24) (A0 : Option Addr) (c0 : Nat) (A3 : Option Addr) (c3 : Nat) (A4 : Option Addr) (c4 : Nat), cs = #[.slice A0 S.length c0, .int .i64 y.f0, .bool y.f1, .slice A3 M.length c3, .slice A4 E.length c4] ∧ ok (S, y, M, E) ∧ S.length ≤ c0 ∧ Kd.C k24 w A0 S.length S ∧ M.length ≤ c3 ∧ Kd.C k24 w A3 M.length M ∧ E.length ≤ c4 ∧ Kd.C k24 w A4 E.length E := by
 obtain ⟨fuel, hf⟩ := hr
 obtain ⟨⟨S, y, M, E⟩, ⟨l0, r0, e0, ⟨A0, c0, h0, g0, C0⟩, l1, r1, e1, ⟨_, _, h1, hx, hy⟩, l2, r2, e2, ⟨A3, c3, h2, g2, C2⟩, A4, c4, h3, g3, C3⟩, ho⟩ := h.2 enc w base held fuel _ _ hf
 subst h0 h2 h3 e2
 cases hx
 cases hy
 subst h1 e1
 exact ⟨S, y, M, E, A0, c0, A3, c3, A4, c4, Array.ext' e0, ho, g0, C0, g2, C2, g3, C3⟩

end Go.Proofs.YtpcohkffbjdmfaaDoor.Pure
