/- Lemmas on the printed functions for the law FnMelodySame. -/
import Derived.Test.YtclpnaaagajhiaaDoorGFnMelodySameg31
import Derived.Test.YtclpnaaagajhiaaDoorGFnMelodySameg30
import Derived.Test.YtclpnaaagajhiaaDoorQFnMelodySameq0
import Derived.Test.YtclpnaaagajhiaaDoorQFnMelodySameq1
import Derived.Test.YtclpnaaagajhiaaDoorQFnMelodySameq2
import Derived.Test.YtclpnaaagajhiaaDoorQFnMelodySameq3
import Derived.Test.YtclpnaaagajhiaaDoorQFnMelodySameq6
import Derived.Deep.RegionHeld3
import Derived.BigRegion
import Derived.Deep.Slices
import Derived.Laws.CopyOwn
namespace Go.Proofs.YtclpnaaagajhiaaDoor.Pure
set_option linter.unusedVariables false
set_option linter.unusedSimpArgs false
open Go Go.RowKit Go.Proofs.YtclpnaaagajhiaaDoor.PFnMelodySame Go.Proofs.YtclpnaaagajhiaaDoorW.PrintWords Go.Proofs.YtclpnaaagajhiaaDoorW.PrintLast Go.Proofs.YtclpnaaagajhiaaDoorW.PrintMore

theorem impl_MelodyBack_ev (m : List S29) (hok : melOk m = true) : Ev (fun k => impl_MelodyBack.f k m) (m.reverse, true) := by
  have hl := melOk_len hok
  unfold impl_MelodyBack.f
  refine Ev.bind (impl_MelodyValid_ev m) ?_
  rw [hok]
  refine Ev.pos rfl (Ev.pos (by omega) (Ev.pos (by omega) ?_))
  have := Ev.over z29 m (fun k (Y : List S29) i => impl_MelodyBack.l0 k m Y m m.length i) (fun _ _ => (m.reverse, true)) (fun i Y => Y.length = m.length ∧ ∀ j, j < i → Y.getD (m.length - 1 - j) z29 = m.getD j z29) (by
    rintro Y ⟨h1, h2⟩
    refine Ev.succ ?_
    simp only [impl_MelodyBack.l0]
    refine Ev.neg (by omega) (Ev.eqr (Ev.now _) ?_)
    have : Y = m.reverse := by
      refine List.ext_getElem (by rw [h1, List.length_reverse]) (fun n a b => ?_)
      have hn : n < m.length := by omega
      have := h2 (m.length - 1 - n) (by omega)
      rw [show m.length - 1 - (m.length - 1 - n) = n by omega, List.getD_eq_getElem?_getD, List.getD_eq_getElem?_getD, List.getElem?_eq_getElem a, List.getElem?_eq_getElem (show m.length - 1 - n < m.length by omega)] at this
      rw [List.getElem_reverse]
      exact this
    rw [this]) (by
    rintro Y i rest ⟨h1, h2⟩ hi hdr ih
    refine Ev.succ ?_
    simp only [impl_MelodyBack.l0]
    rw [w64 (x := (m.length : Int) - 1) (by omega) (by omega), w64 (x := (m.length : Int) - 1 - (i : Int)) (by omega) (by omega), w64 (x := (i : Int) + 1) (by omega) (by omega)]
    refine Ev.pos (by omega) (Ev.pos (by omega) (Ev.pos (by omega) (Ev.pos (by omega) (Ev.pos (by omega) ?_))))
    rw [show ((m.length : Int) - 1 - (i : Int)).toNat = m.length - 1 - i by omega]
    refine ih _ ⟨by rw [List.length_set]; exact h1, fun j hj => ?_⟩
    rw [List.getD_eq_getElem?_getD, List.getElem?_set]
    by_cases hji : j = i
    · subst hji
      rw [if_pos rfl, if_pos (by omega)]
      rfl
    · rw [if_neg (by omega), ← List.getD_eq_getElem?_getD]
      exact h2 j (by omega)) 0 (List.replicate ((m.length : Int) : Int).toNat z29) (Nat.zero_le _) ⟨by simp, fun j hj => absurd hj (Nat.not_lt_zero _)⟩
  simpa using this
theorem drawMelodySame_ev (l0 : List Int) (hw : ∀ x ∈ l0, (Lit.int .u8 x).wf = true) :
    ∃ m c, Ev (fun n => spec_DrawMelodySame.f n l0) (m, c) ∧ m.length ≤ 600 ∧ c.length ≤ 600 := by
  obtain ⟨s, ho, hc⟩ := open_ev l0 hw
  suffices h : Evx (fun n => spec_DrawMelodySame.f n l0) (fun r => r.1.length ≤ 600 ∧ r.2.length ≤ 600) by
    obtain ⟨⟨m, k⟩, h1, h2⟩ := h
    exact ⟨m, k, h1, h2⟩
  unfold spec_DrawMelodySame.f
  refine Evx.conb ho ?_
  refine Evx.bind (drawMelody_ev hc 0 6 (by omega) (by omega) (by omega) (by omega)) ?_
  rintro ⟨m, q⟩ ⟨h1, h2, h3, _⟩
  have h1 : (m.length : Int) ≤ 6 := h1
  have h2 : 0 ≤ q := h2
  have h3 : q ≤ 0 + 2000 := h3
  refine Evx.conb rfl ?_
  refine Evx.bind (pick_ev hc q 7 (by omega) (by omega)) ?_
  rintro ⟨u, q'⟩ ⟨hu0, hu1, hq⟩
  have hq : q' = q + 1 := hq
  subst hq
  have hu0 : 0 ≤ u := hu0
  have hu1 : u < 7 ∨ u = 0 := hu1
  refine Evx.pos hu0 (Evx.pos (by show u < (7 : Int); omega) ?_)
  refine Evx.bind1 (spec_MelodyMove_ev m _ (by omega)) ?_
  have hml := mmove_len m (rd [(-7), (-4), (-3), 0, 3, 4, 7] u)
  have other : ∀ p : Int, 0 ≤ p → p ≤ 1000000 → Evx (fun k => (spec_l91Melody.f k s p 6).bind fun bt => some (m, bt.1)) (fun r => r.1.length ≤ 600 ∧ r.2.length ≤ 600) := by
    intro p hp hp'
    refine Evx.bind (drawMelody_ev hc p 6 hp hp' (by omega) (by omega)) ?_
    rintro ⟨c, z⟩ ⟨g1, _, _, _⟩
    have g1 : (c.length : Int) ≤ 6 := g1
    exact Evx.now ⟨by show m.length ≤ 600; omega, by show c.length ≤ 600; omega⟩
  refine Evx.ite (fun _ => ?_) (fun _ => other _ (by show 0 ≤ q + 1; omega) (by show q + 1 ≤ 1000000; omega))
  refine Evx.bind (pick_ev hc (q + 1) 4 (by omega) (by omega)) ?_
  rintro ⟨v, q2⟩ ⟨_, _, hq2⟩
  have hq2 : q2 = q + 1 + 1 := hq2
  subst hq2
  exact Evx.ite (fun _ => Evx.now ⟨by show m.length ≤ 600; omega, Nat.le_trans (mmove_len m _) (by decide)⟩) (fun _ => other _ (by show 0 ≤ q + 1 + 1; omega) (by show q + 1 + 1 ≤ 1000000; omega))
theorem FnMelodySame_core (l0 : List Int) (hm0 : l0.length ≤ maxLen) (hw : ∀ x ∈ l0, (Lit.int .u8 x).wf = true) : ∃ k, laws_FnMelodySame.f k l0 = some true := by
  unfold maxLen at hm0
  have key : Ev (fun k => laws_FnMelodySame.f k l0) true := by
    unfold laws_FnMelodySame.f
    by_cases hb : (l0.length : Int) > 1048576
    · exact Ev.pos hb (Ev.now _)
    refine Ev.neg hb ?_
    obtain ⟨m, c, hd, hm, hc⟩ := drawMelodySame_ev l0 hw
    have sm : ∀ a b : List S29, a.length ≤ 1000 → b.length ≤ 1000 → impl_MelodySame.f a b = some (msame a b) := by
      intro a b h1 h2
      unfold impl_MelodySame.f
      rw [if_pos ⟨by omega, by omega⟩]
    refine Ev.bind hd (Ev.conb (sm m c (by omega) (by omega)) (Ev.bind (spec_MelodySame_ev m c (by omega) (by omega)) (Ev.neg (by simp) (Ev.succ ?_))))
    simp only [laws_FnMelodySame.j0]
    cases hs : msame m c
    · exact Ev.pos rfl (Ev.eqr (Ev.now _) rfl)
    obtain ⟨h1, h2, h3, h4, h5⟩ := msame_is hs
    have a1 := melOk_all h1
    have a2 := melOk_all h2
    refine Ev.neg (by simp) (Ev.bind (impl_MelodyBack_ev m h1) (Ev.bind (impl_MelodyBack_ev c h2) (Ev.pos rfl (Ev.pos rfl ?_))))
    have hrev : ∀ {a : List S29}, melOk a = true → melOk a.reverse = true := by
      intro a h
      unfold melOk at h ⊢
      rw [List.length_reverse, List.all_reverse]; exact h
    obtain ⟨k, s, hMV⟩ : ∃ k s, MV k s m c := by
      match m, c, a1, a2, h3, h4, h5 with
      | [], [], _, _, _, _, _ => exact ⟨0, 0, trivial⟩
      | x :: xs, y :: ys, a1, a2, h3, h4, h5 => exact ⟨_, _, diffs_MV xs ys x y a1 a2 (by simpa using h3) h4 h5⟩
    have t1 : impl_MelodySame.f c m = some true := by rw [sm _ _ (by omega) (by omega), MV_same h2 (MV_symm hMV a1)]
    have t2 : impl_MelodySame.f m.reverse c.reverse = some true := by rw [sm _ _ (by rw [List.length_reverse]; omega) (by rw [List.length_reverse]; omega), MV_same (hrev h1) (MV_reverse hMV)]
    have t3 : impl_MelodySame.f m m = some true := by rw [sm _ _ (by omega) (by omega), MV_same h1 (MV_refl a1)]
    refine Ev.conb t1 (Ev.pos rfl (Ev.conb t2 (Ev.pos rfl (Ev.conb t3 (Ev.succ ?_)))))
    simp only [laws_FnMelodySame.j1]
    refine Ev.neg (by simp) ?_
    match m, c, a1, a2, h1, h2, h3, h4, h5, hm, hc with
    | [], [], _, _, _, _, _, _, _, _, _ => exact Ev.pos rfl (Ev.eqr (Ev.now _) rfl)
    | x :: xs, y :: ys, a1, a2, h1, h2, h3, h4, h5, hm, hc =>
      have hMV := diffs_MV xs ys x y a1 a2 (by simpa using h3) h4 h5
      have b1 := a1
      have b2 := a2
      rw [List.all_cons, Bool.and_eq_true] at b1 b2
      have q1 := toneOk_bd b1.1
      have q2 := toneOk_bd b2.1
      obtain ⟨B, hB⟩ := mmove_of_MV h1 (show -20 ≤ y.f0 - x.f0 ∧ y.f0 - x.f0 ≤ 20 by omega) hMV
      obtain ⟨_, hcB⟩ := mmove_spec hB
      rcases hcB with ⟨h0, _⟩ | ⟨_, _, s', hBV⟩
      · cases h0
      have hBL := MV_len hBV
      have hokB : melOk B = true := by
        have := melOk_len h1
        unfold melOk
        rw [MV_ok hBV, decide_eq_true (by rw [hBL]; exact this)]; rfl
      have hmm : impl_MelodyMove.f (x :: xs) (wrap64 ((rd_T29 (y :: ys) 0).f0 - (rd_T29 (x :: xs) 0).f0)) = some (B, true) := by
        have ex : rd_T29 (x :: xs) 0 = x := rfl
        have ey : rd_T29 (y :: ys) 0 = y := rfl
        rw [ex, ey, w64 (x := y.f0 - x.f0) (by omega) (by omega)]
        unfold impl_MelodyMove.f
        rw [if_pos (by omega), hB]
      have t4 : impl_MelodySame.f B (y :: ys) = some true := by rw [sm _ _ (by omega) (by omega), MV_same hokB (MV_trans (MV_symm hBV a1) hMV)]
      refine Ev.neg (by simp only [List.length_cons]; omega) (Ev.pos (by simp only [List.length_cons]; omega) (Ev.pos (by simp only [List.length_cons]; omega) (Ev.conb hmm (Ev.pos rfl (Ev.conb t4 (Ev.now _))))))
  exact Ev.rounds key
theorem FnMelodySame_walk (l0 : List Int) (A0 : Option Addr) (c0 : Nat) (w : World) (ht : HTab w) (hr0 : Kd.C (Kd.int .u8) w A0 l0.length l0) (hc0 : l0.length ≤ c0) (hw0 : ∀ x ∈ l0, (Lit.int .u8 x).wf = true) (hm0 : l0.length ≤ maxLen) :
    Calls Tryd.prog 7 #[.slice A0 l0.length c0] w fun e w' => e = .returned (.bool true) ∧ Below w.heap.size w w' := by
  obtain ⟨k, h⟩ := FnMelodySame_core l0 hm0 hw0
  exact laws_FnMelodySame.calls k A0 c0 l0 true w ht hr0 hc0 h

/-! arguments that are read as data, as kinds -/
def Opn {α : Type} (P : Program) (t : TypeId) (d : Kd α) (ok : α → Prop) : Prop :=
  P.cellsOf t = d.sz ∧ ∀ {H : Type} (enc : TypeId × Value → H) (w : World) (base : Nat) (held : Bool) (fuel : Nat) (cs : List Value) (x : DataW H × List MemPlace), DataW.trod enc P w base (fun _ => true) held fuel t cs = some x → ∃ p, d.K w p cs ∧ ok p
theorem opn_int {P : Program} {t : TypeId} (k : IntKind) (ht : P.underlying t = some (.int k)) (hc : P.cellsOf t = 1) : Opn P t (Kd.int k) (fun n => (Lit.int k n).wf = true) :=
  ⟨hc, fun enc w base held fuel cs x h => by obtain ⟨n, rfl, _, hw⟩ := DataW.trod_int ht h; exact ⟨n, rfl, hw⟩⟩
theorem opn_bool {P : Program} {t : TypeId} (ht : P.underlying t = some .bool) (hc : P.cellsOf t = 1) : Opn P t Kd.bool (fun _ => True) :=
  ⟨hc, fun enc w base held fuel cs x h => by obtain ⟨n, rfl, _⟩ := DataW.trod_bool ht h; exact ⟨n, rfl, trivial⟩⟩
theorem opn_string {P : Program} {t : TypeId} (ht : P.underlying t = some .string) (hc : P.cellsOf t = 1) : Opn P t Kd.string (fun s => s.size ≤ maxLen) :=
  ⟨hc, fun enc w base held fuel cs x h => by obtain ⟨n, rfl, _, hs⟩ := DataW.trod_string ht h; exact ⟨n, rfl, hs⟩⟩
theorem opn_slice {α : Type} {P : Program} {t e : TypeId} {d : Kd α} {ok : α → Prop} (ht : P.underlying t = some (.slice e)) (hc : P.cellsOf t = 1) (he : Opn P e d ok) : Opn P t (Kd.slice e d) (fun l => (∀ x ∈ l, ok x) ∧ l.length ≤ maxLen) := by
  refine ⟨hc, fun enc w base held fuel cs x h => ?_⟩
  rcases Go.Deep.open_slice ht h with ⟨rfl, _⟩ | ⟨a, len, cap, m, n, D, Pl, rfl, _, hl, hm, hmm, _, hi⟩
  · exact ⟨[], ⟨none, 0, rfl, Nat.le_refl _, rfl, by simp, fun h => by simp at h⟩, by simp, by simp⟩
  · have hmc : m = cap := by simpa using hmm
    clear hmm
    have key : ∀ k, k ≤ len → ∃ l : List α, l.length = k ∧ (∀ x ∈ l, ok x) ∧ ∀ j p, l[j]? = some p → ∃ c, c.length = d.sz ∧ d.K w p c ∧ ∀ i u, c[i]? = some u → w.cell? (a.add (j * d.sz + i)) = some u := by
      intro k
      induction k with
      | zero => intro _; exact ⟨[], rfl, by simp, by simp⟩
      | succ k ih =>
        intro hk
        obtain ⟨l, hll, hlo, hlc⟩ := ih (by omega)
        obtain ⟨cs', hcs, ht'⟩ := hi k (by omega)
        rw [he.1] at hcs
        obtain ⟨p, hp, hop⟩ := he.2 enc w base held n cs' _ ht'
        obtain ⟨_, hcl, hat⟩ := World.cells?_some hcs
        refine ⟨l ++ [p], by simp [hll], ?_, ?_⟩
        · intro x hx
          rcases List.mem_append.1 hx with hx | hx
          · exact hlo x hx
          · rw [List.mem_singleton.1 hx]; exact hop
        · intro j q hq
          by_cases hj : j < l.length
          · rw [List.getElem?_append_left hj] at hq
            exact hlc j q hq
          · have hj2 : j = l.length := by
              have := (List.getElem?_eq_some_iff.1 hq).1
              simp at this; omega
            subst hj2
            rw [List.getElem?_append_right (Nat.le_refl _)] at hq
            simp at hq
            subst hq
            refine ⟨cs', hcl, hp, fun i u hu => ?_⟩
            have hil : i < d.sz := by rw [← hcl]; exact (List.getElem?_eq_some_iff.1 hu).1
            rw [hll, ← Go.Deep.add_add, hat i hil, hu]
    obtain ⟨l, hll, hlo, hlc⟩ := key len (Nat.le_refl _)
    subst hll
    exact ⟨l, ⟨some a, cap, rfl, hl, rfl, by unfold maxLen at hm; omega, fun _ => ⟨a, rfl, hlc⟩⟩, hlo, by omega⟩
theorem opn_iso {α β : Type} {P : Program} {t : TypeId} {d : Kd α} {ok : α → Prop} (h : Opn P t d ok) (f : β → α) (g : α → β) (hfg : ∀ x, f (g x) = x) : Opn P t (Kd.iso d f) (fun y => ok (f y)) :=
  ⟨h.1, fun enc w base held fuel cs x hx => by
    obtain ⟨p, hp, ho⟩ := h.2 enc w base held fuel cs x hx
    exact ⟨g p, by show d.K w (f (g p)) cs; rw [hfg]; exact hp, by show ok (f (g p)); rw [hfg]; exact ho⟩⟩
theorem opn_struct2 {α β : Type} {P : Program} {t : TypeId} {f0 f1 : Field} {a : Kd α} {b : Kd β} {oka : α → Prop} {okb : β → Prop} (ht : P.underlying t = some (.struct #[f0, f1])) (h0 : Opn P f0.type a oka) (h1 : Opn P f1.type b okb)
    (o0 : f0.offset = 0) (o1 : f1.offset = a.sz) (hc : P.cellsOf t = a.sz + b.sz) : Opn P t (Kd.pair a b) (fun p => oka p.1 ∧ okb p.2) := by
  refine ⟨hc, fun enc w base held fuel cs x h => ?_⟩
  obtain ⟨xs, n, _, _, hl, hxl, hg⟩ := DataW.trod_struct ht h
  have g0 := hg 0 f0 rfl
  have g1 := hg 1 f1 rfl
  rw [o0, h0.1, List.drop_zero] at g0
  rw [o1, h1.1] at g1
  rw [List.getElem?_eq_getElem (by rw [hxl]; simp)] at g0 g1
  obtain ⟨p, hp, hop⟩ := h0.2 enc w base held n _ _ g0
  obtain ⟨q, hq, hoq⟩ := h1.2 enc w base held n _ _ g1
  refine ⟨(p, q), ⟨cs.take a.sz, (cs.drop a.sz).take b.sz, ?_, hp, hq⟩, hop, hoq⟩
  rw [List.take_of_length_le (l := cs.drop a.sz) (by rw [List.length_drop, hl, hc]; omega), List.take_append_drop]
theorem opn_struct3 {α β γ : Type} {P : Program} {t : TypeId} {f0 f1 f2 : Field} {a : Kd α} {b : Kd β} {c : Kd γ} {oka : α → Prop} {okb : β → Prop} {okc : γ → Prop} (ht : P.underlying t = some (.struct #[f0, f1, f2])) (h0 : Opn P f0.type a oka) (h1 : Opn P f1.type b okb) (h2 : Opn P f2.type c okc)
    (o0 : f0.offset = 0) (o1 : f1.offset = a.sz) (o2 : f2.offset = a.sz + b.sz) (hc : P.cellsOf t = a.sz + (b.sz + c.sz)) : Opn P t (Kd.pair a (Kd.pair b c)) (fun p => oka p.1 ∧ okb p.2.1 ∧ okc p.2.2) := by
  refine ⟨hc, fun enc w base held fuel cs x h => ?_⟩
  obtain ⟨xs, n, _, _, hl, hxl, hg⟩ := DataW.trod_struct ht h
  have g0 := hg 0 f0 rfl
  have g1 := hg 1 f1 rfl
  have g2 := hg 2 f2 rfl
  rw [o0, h0.1, List.drop_zero] at g0
  rw [o1, h1.1] at g1
  rw [o2, h2.1] at g2
  rw [List.getElem?_eq_getElem (by rw [hxl]; simp)] at g0 g1 g2
  obtain ⟨p, hp, hop⟩ := h0.2 enc w base held n _ _ g0
  obtain ⟨q, hq, hoq⟩ := h1.2 enc w base held n _ _ g1
  obtain ⟨r, hr, hor⟩ := h2.2 enc w base held n _ _ g2
  refine ⟨(p, q, r), ⟨cs.take a.sz, cs.drop a.sz, by rw [List.take_append_drop], hp, (cs.drop a.sz).take b.sz, (cs.drop (a.sz + b.sz)).take c.sz, ?_, hq, hr⟩, hop, hoq, hor⟩
  rw [List.take_of_length_le (l := cs.drop (a.sz + b.sz)) (by rw [List.length_drop, hl, hc]; omega), ← List.drop_drop, List.take_append_drop]
theorem opn_struct4 {α β γ δ : Type} {P : Program} {t : TypeId} {f0 f1 f2 f3 : Field} {a : Kd α} {b : Kd β} {c : Kd γ} {d : Kd δ} {oka : α → Prop} {okb : β → Prop} {okc : γ → Prop} {okd : δ → Prop} (ht : P.underlying t = some (.struct #[f0, f1, f2, f3])) (h0 : Opn P f0.type a oka) (h1 : Opn P f1.type b okb) (h2 : Opn P f2.type c okc) (h3 : Opn P f3.type d okd)
    (o0 : f0.offset = 0) (o1 : f1.offset = a.sz) (o2 : f2.offset = a.sz + b.sz) (o3 : f3.offset = a.sz + b.sz + c.sz) (hc : P.cellsOf t = a.sz + (b.sz + (c.sz + d.sz))) : Opn P t (Kd.pair a (Kd.pair b (Kd.pair c d))) (fun p => oka p.1 ∧ okb p.2.1 ∧ okc p.2.2.1 ∧ okd p.2.2.2) := by
  refine ⟨hc, fun enc w base held fuel cs x h => ?_⟩
  obtain ⟨xs, n, _, _, hl, hxl, hg⟩ := DataW.trod_struct ht h
  have g0 := hg 0 f0 rfl
  have g1 := hg 1 f1 rfl
  have g2 := hg 2 f2 rfl
  have g3 := hg 3 f3 rfl
  rw [o0, h0.1, List.drop_zero] at g0
  rw [o1, h1.1] at g1
  rw [o2, h2.1] at g2
  rw [o3, h3.1] at g3
  rw [List.getElem?_eq_getElem (by rw [hxl]; simp)] at g0 g1 g2 g3
  obtain ⟨p, hp, hop⟩ := h0.2 enc w base held n _ _ g0
  obtain ⟨q, hq, hoq⟩ := h1.2 enc w base held n _ _ g1
  obtain ⟨r, hr, hor⟩ := h2.2 enc w base held n _ _ g2
  obtain ⟨s, hs, hos⟩ := h3.2 enc w base held n _ _ g3
  refine ⟨(p, q, r, s), ⟨cs.take a.sz, cs.drop a.sz, by rw [List.take_append_drop], hp, (cs.drop a.sz).take b.sz, cs.drop (a.sz + b.sz), by rw [← List.drop_drop, List.take_append_drop], hq, (cs.drop (a.sz + b.sz)).take c.sz, (cs.drop (a.sz + b.sz + c.sz)).take d.sz, ?_, hr, hs⟩, hop, hoq, hor, hos⟩
  rw [List.take_of_length_le (l := cs.drop (a.sz + b.sz + c.sz)) (by rw [List.length_drop, hl, hc]; omega)]
  exact (List.take_append_drop c.sz (cs.drop (a.sz + b.sz))).symm.trans (by rw [List.drop_drop])
/-- A slice argument. -/
theorem opn_arg {α : Type} {P : Program} {t e : TypeId} {d : Kd α} {ok : List α → Prop} (h : Opn P t (Kd.slice e d) ok) {H : Type} {enc : TypeId × Value → H} {w : World} {base : Nat} {held : Bool} {a : Option Addr} {len cap : Nat} {x : DataW H} {p : List MemPlace} (hr : DataW.Trod enc P w base (fun _ => true) held t (.slice a len cap) x p) :
    ∃ l : List α, len = l.length ∧ l.length ≤ cap ∧ d.C w a l.length l ∧ ok l := by
  obtain ⟨fuel, hf⟩ := hr
  obtain ⟨l, ⟨A, c, he, hc, hC⟩, ho⟩ := h.2 enc w base held fuel _ _ hf
  simp [Value.cells] at he
  obtain ⟨rfl, rfl, rfl⟩ := he
  exact ⟨l, rfl, hc, hC, ho⟩

end Go.Proofs.YtclpnaaagajhiaaDoor.Pure
