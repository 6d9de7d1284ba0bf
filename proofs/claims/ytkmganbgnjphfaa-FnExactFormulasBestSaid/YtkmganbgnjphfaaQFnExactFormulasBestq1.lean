/- Lemmas on the printed functions for the law FnExactFormulasBest. -/
import Derived.Test.YtkmganbgnjphfaaQFnExactFormulasBestq0
import Derived.Deep.RegionHeld3
import Derived.BigRegion
import Derived.Deep.Slices
import Derived.Laws.CopyOwn
namespace Go.Proofs.Ytkmganbgnjphfaa.Pure
set_option linter.unusedVariables false
set_option linter.unusedSimpArgs false
open Go Go.RowKit Go.Proofs.Ytkmganbgnjphfaa.PFnExactFormulasBest Go.Proofs.YtkmganbgnjphfaaW.PrintWords Go.Proofs.YtkmganbgnjphfaaW.PrintLast Go.Proofs.YtkmganbgnjphfaaW.PrintMore

/-! mark over slices of formulas -/
def markFormula : List S37 → Int → List S37
  | [], _ => []
  | x :: xs, a => ⟨markInt x.f0.length a, a + x.f0.length⟩ :: markFormula xs (a + x.f0.length + 1)
theorem markFormula_len : ∀ l a, (markFormula l a).length = l.length
  | [], _ => rfl
  | x :: xs, a => by simp [markFormula, markFormula_len xs]
theorem FormulaSz_cons (x : S37) (xs : List S37) : FormulaSz (x :: xs) = 1 + (x.f0.length : Int) + FormulaSz xs := by
  unfold FormulaSz; simp only [isz, List.length_cons]; omega
theorem FormulaSz_app : ∀ a b, FormulaSz (a ++ b) = FormulaSz a + FormulaSz b
  | [], b => by simp [FormulaSz, isz]
  | x :: xs, b => by
    rw [List.cons_append, FormulaSz_cons, FormulaSz_cons, FormulaSz_app xs b]; omega
theorem markFormula_app : ∀ (A : List S37) (B : List S37) a, markFormula (A ++ B) a = markFormula A a ++ markFormula B (a + FormulaSz A)
  | [], B, a => by simp [markFormula, FormulaSz, isz]
  | x :: xs, B, a => by
    simp only [List.cons_append, markFormula]
    rw [markFormula_app xs B, FormulaSz_cons]
    congr 3; omega
theorem markFormula_sz : ∀ l a, FormulaSz (markFormula l a) = FormulaSz l
  | [], _ => rfl
  | x :: xs, a => by simp only [markFormula]; rw [FormulaSz_cons, FormulaSz_cons, markFormula_sz xs, markInt_len]
theorem form_split {l : List S37} {i : Nat} (hi : i < l.length) : ∃ A x B, l = A ++ x :: B ∧ A.length = i :=
  ⟨l.take i, l[i], l.drop (i + 1), by rw [← List.drop_eq_getElem_cons hi, List.take_append_drop], by rw [List.length_take]; omega⟩
set_option maxHeartbeats 4000000 in
set_option maxRecDepth 100000 in
theorem FormulaS_mark (l : List S37) (a : Int) (s t : Nat) (v : Value) (w0 w : World) (ha : 0 ≤ a) (ha' : a ≤ 1000000000000) (hl : FormulaSz l ≤ 1000000000000) (hB : Below w0.heap.size w0 w) (ho : OwnS k37 37 w w0.heap.size s t v l) :
    Calls Try.prog 30 #[v, .int .i64 a] w fun e w' => ∃ r, e = .returned (.int .i64 r) ∧ r = a + FormulaSz l ∧ OwnS k37 37 w' w0.heap.size s t v (markFormula l a) ∧ Below w0.heap.size w0 w' ∧ Kept w w' (fun k => s ≤ k ∧ k < t) := by
  unfold OwnS at ho ⊢
  have HB := Aside0.mk hB
  have HO := Aside0.mk ho
  obtain ⟨A, c, rfl⟩ := Kd.S_slice ho
  clear hB ho
  have hll := FormulaSz_len l
  go_enter Try.func30, Try.ntmps30
  go_wp2
  go_loopg [1, 5] l.length (fun kq v1 v5 w' => ∃ (i : Nat) (K : Int) (J : List S37), v5 = .int .i64 (i : Int) ∧ v1 = .int .i64 K ∧ Aside0 (kq = l.length - i ∧ i ≤ l.length ∧ K = a + FormulaSz (l.take i) ∧ J = markFormula (l.take i) a ++ l.drop i) ∧ Aside0 (Kd.S k37 37 w' w0.heap.size (fun k => s ≤ k ∧ k < t) (.slice A l.length c) J) ∧ Aside0 (Kept w w' (fun k => s ≤ k ∧ k < t)) ∧ Aside0 (Below w0.heap.size w0 w'))
  case atStart => exact ⟨0, a, l, rfl, rfl, ⟨by simp [FormulaSz, isz, markFormula]⟩, ⟨by (with_reducible repeat (first | apply Kd.S_alloc | apply Kd.S_drewN | apply Kd.S_drew)); exact HO.out⟩, ⟨by repeat (first | exact Kept.refl _ _ | apply Kept.drewN | apply Kept.drew)⟩, ⟨by repeat (first | (with_reducible first | exact HB.out | apply below_alloc | apply pw_below_drewN | apply below_drew1) | exact HB.out)⟩⟩
  case round =>
    obtain ⟨i, K, J, rfl, rfl, HX, HO1, HK, HB1⟩ := hrel
    obtain ⟨hkq, hil, hK, hJ⟩ := HX.out
    by_cases hi : (i : Int) < (l.length : Int)
    · have d1 : decide ((i : Int) < (l.length : Int)) = true := decide_eq_true hi
      obtain ⟨P, x, B, hsp, hPl⟩ := form_split (show i < l.length by omega)
      have hPt : l.take i = P := by rw [hsp, ← hPl]; simp
      have hPd : l.drop i = x :: B := by rw [hsp, ← hPl]; simp
      have hPt1 : l.take (i + 1) = P ++ [x] := by rw [hsp, ← hPl, List.take_append]; simp [List.take_of_length_le]
      have hPd1 : l.drop (i + 1) = B := by rw [hsp, ← hPl, List.drop_append]; simp
      rw [hPt] at hK
      rw [hPt, hPd] at hJ
      have hsz : FormulaSz l = FormulaSz P + (1 + (x.f0.length : Int)) + FormulaSz B := by rw [hsp, FormulaSz_app, FormulaSz_cons]; omega
      have hPn := FormulaSz_nn P
      have hBn := FormulaSz_nn B
      have hJl : J.length = l.length := by rw [hJ, hsp]; simp [markFormula_len]
      have hJx : J.getD (i : Int).toNat z37 = x := by
        rw [hJ, Int.toNat_natCast, List.getD_eq_getElem?_getD, List.getElem?_append_right (by rw [markFormula_len]; omega), markFormula_len, hPl]; simp
      obtain ⟨kk, hmk⟩ := Ev.rounds (markIntS_ev x.f0 K (by omega) (by omega) (by omega))
      obtain ⟨L, hL⟩ : ∃ L : Int, L = K + (x.f0.length : Int) := ⟨_, rfl⟩
      obtain ⟨M, hM⟩ : ∃ M, M = markInt x.f0.length K := ⟨_, rfl⟩
      rw [← hL, ← hM] at hmk
      have HMK := Aside0.mk hmk
      obtain ⟨J2, hJ2⟩ : ∃ J2, J2 = (J.set (i : Int).toNat ⟨M, x.f1⟩).set (i : Int).toNat ⟨M, L⟩ := ⟨_, rfl⟩
      have NX : Aside0 (l.length - (i + 1) < gk ∧ i + 1 ≤ l.length ∧ L + 1 = a + FormulaSz (l.take (i + 1)) ∧ J2 = markFormula (l.take (i + 1)) a ++ l.drop (i + 1)) := by
        refine ⟨by omega, by omega, ?_, ?_⟩
        · rw [hPt1, FormulaSz_app, FormulaSz_cons]
          have : FormulaSz ([] : List S37) = 0 := by simp [FormulaSz, isz]
          omega
        · rw [hJ2, hPt1, hPd1, markFormula_app, List.set_set, hJ, Int.toNat_natCast, List.set_append_right _ _ (by rw [markFormula_len]; omega), markFormula_len, hPl, Nat.sub_self]
          simp only [List.set_cons_zero, markFormula, List.append_assoc, List.singleton_append]
          rw [hM, hL, hK]
      have HJ2 := Aside0.mk hJ2
      have bL : 0 ≤ L ∧ L ≤ 2000000000000 := by omega
      have bi : i ≤ 1000000000000 := by omega
      obtain ⟨g, cap, e0, _, _, _⟩ := Kd.S_form HO1.out (by omega)
      injection e0 with e1 e2 e3
      subst e1
      clear e2 e3
      have p0 : (0 : Int) ≤ (i : Int) := by omega
      have p1 : (i : Int) < ((l.length : Nat) : Int) := hi
      obtain ⟨oki, ce, _, hM0, hcc0, _, hoki, hH0⟩ := Kd.S_elem HO1.out z37 (i : Int) p0 p1
      rw [hJx] at hM0
      obtain ⟨v0, rfl, hR0⟩ := k37_openM hM0
      obtain ⟨A2, c2, rfl⟩ := Kd.R_slice hR0
      have HR := Aside0.mk hR0
      have HH := Aside0.mk hH0
      have HOK := Aside0.mk hoki
      have hx0 := hcc0 0 _ rfl
      simp only [show (k37).sz = 2 from rfl, Nat.add_zero, Int.toNat_natCast] at hx0
      have HJl := Aside0.mk hJl
      clear hL hcc0 hM0 hR0 hH0 hoki hmk hJ2 hJx hJl hJ hsz hsp hPt hPd hPt1 hPd1 hPl hK hM hPn hBn
      have q0 := eq_true p0
      have q1 := eq_true p1
      go_wp2_with (first
        | (go_at_call 31; go_loud (refine (laws_markIntS.calls kk oki _ x.f0 K _ _ w0 _ HB1.out HR.out HMK.out).mono ?_; rintro e w1 ⟨rfl, hr1, hb1, hk1⟩; have hS1 := Kd.H_back (Kd.H_kept HH.out hk1 (fun k _ hn => hn)) (x' := (⟨M, x.f1⟩ : S37)) (k37_mkM _ _ _ (⟨M, x.f1⟩ : S37) (Kd.R_reok rfl hr1 (fun k hk => HR.out.1 k hk))) (fun _ hk => hk); obtain ⟨oki2, ce2, _, hM2, hcc2, hfr2, hoki2, hH2⟩ := Kd.S_elem hS1 z37 (i : Int) p0 p1; have e9 : (J.set (i : Int).toNat (⟨M, x.f1⟩ : S37)).getD (i : Int).toNat z37 = ⟨M, x.f1⟩ := (by rw [List.getD_eq_getElem?_getD, List.getElem?_set_self (by have := HJl.out; omega)]; rfl); rw [e9] at hM2; obtain ⟨v2, rfl, hR2⟩ := k37_openM hM2; have hseg := Kd.S_seg0 hH2 p0 p1 (seg := [.int .i64 L]) (j := 1) (show 2 ≤ 2 from by decide) (x' := (⟨M, L⟩ : S37)) (k37_mkM _ _ _ (⟨M, L⟩ : S37) hR2) (fun _ h => h); have hx1 := hcc2 1 _ rfl; have hf1 := hfr2 1; simp only [show (k37).sz = 2 from rfl, Int.toNat_natCast] at hx1 hf1; have HS := Aside0.mk hseg; have HK1 := Aside0.mk (HK.out.then_ hk1 (fun k hk => .inl (HOK.out k hk).1)); have HB2 := Aside0.mk hb1; clear hseg hH2 hoki2 hcc2 hfr2 hM2 e9 hS1 hk1 hr1 hb1 hR2))
        | ((with_reducible refine gate_store (t := 3) (p := 23) rfl ?_); go_loud (refine store_event (t := 3) (p := 23) (v := ?vo_w) (w1 := (w1.setCell ⟨g, i * 2 + 1, none⟩ (.int .i64 L))) ?hg ?ho ?hn ?hr ?_; (case ho => rfl); (case hg => rfl); (case hn => rfl); (case hr => first | (go_simp; done) | (go_simp; rfl)); intro w2 hw; have HO2 := Aside0.mk (show Kd.S k37 37 w2 w0.heap.size (fun k => s ≤ k ∧ k < t) (.slice (some ⟨g, 0, none⟩) l.length c) J2 from (by rw [hw, HJ2.out]; exact HS.out.1)); have HB3 := Aside0.mk (show Below w0.heap.size w0 w2 from (by rw [hw]; exact below_set HB2.out (by assumption))); have HK2 := Aside0.mk (show Kept w w2 (fun k => s ≤ k ∧ k < t) from (by rw [hw]; exact Kept.of_grown HS.out.2 HK1.out (by rintro k rfl'; injection rfl' with e; subst e; exact .inl ((Kd.S_R HO1.out).1 _ rfl)))); clear hw)))
      go_roundg (l.length - (i + 1))
      case measure => exact NX.out.1
      case rel => exact ⟨i + 1, L + 1, J2, by simp, rfl, ⟨rfl, NX.out.2⟩, HO2, HK2, HB3⟩
    · have d1 : decide ((i : Int) < (l.length : Int)) = false := decide_eq_false hi
      obtain rfl : i = l.length := by omega
      rw [List.take_length] at hK
      rw [List.take_length, List.drop_length, List.append_nil] at hJ
      subst hK; subst hJ
      go_wp2
      go_ret
      exact ⟨_, rfl, rfl, HO1.out, HB1.out, HK.out⟩

end Go.Proofs.Ytkmganbgnjphfaa.Pure
