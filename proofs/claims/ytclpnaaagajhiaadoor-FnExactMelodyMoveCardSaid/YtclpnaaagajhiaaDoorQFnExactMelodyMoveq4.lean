/- Lemmas on the printed functions for the law FnExactMelodyMove. -/
import Derived.Test.YtclpnaaagajhiaaDoorPFnExactMelodyMovex1
import Derived.Test.YtclpnaaagajhiaaDoorPFnExactMelodyMovex10
import Derived.Test.YtclpnaaagajhiaaDoorPFnExactMelodyMovex19
import Derived.Test.YtclpnaaagajhiaaDoorPFnExactMelodyMovex20
import Derived.Test.YtclpnaaagajhiaaDoorPFnExactMelodyMovex21
import Derived.Test.YtclpnaaagajhiaaDoorQFnExactMelodyMoveq0
import Derived.Test.YtclpnaaagajhiaaDoorQFnExactMelodyMoveq1
import Derived.Test.YtclpnaaagajhiaaDoorQFnExactMelodyMoveq2
import Derived.Test.YtclpnaaagajhiaaDoorQFnExactMelodyMoveq3
import Derived.Deep.RegionHeld3
import Derived.BigRegion
import Derived.Deep.Slices
import Derived.Laws.CopyOwn
namespace Go.Proofs.YtclpnaaagajhiaaDoor.Pure
set_option linter.unusedVariables false
set_option linter.unusedSimpArgs false
open Go Go.RowKit Go.Proofs.YtclpnaaagajhiaaDoor.PFnExactMelodyMove Go.Proofs.YtclpnaaagajhiaaDoorW.PrintWords Go.Proofs.YtclpnaaagajhiaaDoorW.PrintLast Go.Proofs.YtclpnaaagajhiaaDoorW.PrintMore

/-! a row of one's own between two block numbers -/
def Own {α : Type} (d : Kd α) (e : Nat) (W : World) (B a b : Nat) (v : Value) (xs : List α) : Prop := d.R e W B (fun k => a ≤ k ∧ k < b) v xs
section
variable {α : Type} {d : Kd α} {e : Nat} {W W' w0 : World} {B a b n c : Nat} {v : Value} {A : Option Addr} {xs ys : List α} {S : Nat → Prop}
theorem Own.make (h : d.R e W' W.heap.size (fun _ => True) v xs) (hB : B ≤ W.heap.size) : Own d e W' B W.heap.size W'.heap.size v xs := Kd.R_lower (Kd.R_mono (Kd.R_bound h) (fun k hk => ⟨hk.2.1, hk.2.2.1⟩)) hB
theorem Own.below (h : Own d e W B a b v xs) (hb : Below W.heap.size W W') : Own d e W' B a b v xs := Kd.R_below h hb
theorem Own.kept (h : Own d e W B a b v xs) (hk : Kept W W' S) (hS : ∀ k, a ≤ k → k < b → ¬ S k) : Own d e W' B a b v xs := Kd.R_kept h hk (fun k hk => hS k hk.1 hk.2)
theorem Own.C (h : Own d e W B a b (.slice A xs.length c) xs) : d.C W A xs.length xs := (Kd.R_reads' h).2.2
theorem Own.cap (h : Own d e W B a b (.slice A n c) xs) : n ≤ c := (Kd.R_reads' h).2.1
/-- What is back from a call that wrote the row. -/
theorem Own.back (hs : d.E = []) (h : Own d e W B a b v xs) (hr : d.R e W' B (fun k => (a ≤ k ∧ k < b) ∨ W.heap.size ≤ k) v ys) : Own d e W' B a b v ys := Kd.R_reok hs hr (fun k hk => h.1 k hk)
theorem Own.len (h : Own d e W B a b (.slice A n c) xs) : n = xs.length := (Kd.R_reads' h).1
end
def OwnS {α : Type} (d : Kd α) (e : Nat) (W : World) (B a b : Nat) (v : Value) (xs : List α) : Prop := Kd.S d e W B (fun k => a ≤ k ∧ k < b) v xs
section
variable {α : Type} {d : Kd α} {e : Nat} {W W' w0 : World} {B a b n c : Nat} {v : Value} {A : Option Addr} {xs ys : List α} {S : Nat → Prop}
theorem OwnS.make (h : Kd.S d e W' W.heap.size (fun _ => True) v xs) (hB : B ≤ W.heap.size) : OwnS d e W' B W.heap.size W'.heap.size v xs := Kd.S_lower (Kd.S_mono (Kd.S_bound h) (fun k hk => ⟨hk.2.1, hk.2.2.1⟩)) hB
theorem OwnS.below (h : OwnS d e W B a b v xs) (hb : Below W.heap.size W W') : OwnS d e W' B a b v xs := Kd.S_below h hb
theorem OwnS.kept (h : OwnS d e W B a b v xs) (hk : Kept W W' S) (hS : ∀ k, a ≤ k → k < b → ¬ S k) : OwnS d e W' B a b v xs := Kd.S_kept h hk (fun k hk => hS k hk.1 hk.2)
theorem OwnS.C (h : OwnS d e W B a b (.slice A xs.length c) xs) : d.C W A xs.length xs := (Kd.S_reads' h).2.2
theorem OwnS.cap (h : OwnS d e W B a b (.slice A n c) xs) : n ≤ c := (Kd.S_reads' h).2.1
theorem OwnS.len (h : OwnS d e W B a b (.slice A n c) xs) : n = xs.length := (Kd.S_reads' h).1
end

/-! the laws' helpers over slices of Tone -/
def convTone (x : S50) : S29 := ⟨x.f0, x.f1⟩
theorem szToneS_eq (l : List S50) (left : Int) (h0 : 0 ≤ left) (h1 : left ≤ 1000000000000) (hl : (l.length : Int) ≤ 9223372036854775807) : laws_szToneS.f l left = some (if left - (l.length : Int) < 0 then -1 else left - (l.length : Int)) := by
  unfold laws_szToneS.f
  rw [w64 (by omega) (by omega)]
  split <;> rfl
theorem toToneS_ev (l : List S50) (hl : l.length ≤ 1000000000000) : Ev (fun k => laws_toToneS.f k l) (l.map convTone) := by
  unfold laws_toToneS.f
  refine Ev.pos (by omega) (Ev.pos (by simp; omega) ?_)
  have := Ev.over z50 l (fun k (s : List S29) i => laws_toToneS.l0 k l s i) (fun s rest => s.take (l.length - rest.length) ++ rest.map convTone) (fun _ s => s.length = l.length) (by
    intro s hs
    refine Ev.succ ?_
    simp only [laws_toToneS.l0]
    refine Ev.eqr (Ev.neg (by omega) (Ev.now _)) ?_
    simp [← hs]) (by
    intro s i rest hs hi hdr ih
    have hrl : rest.length + 1 + i = l.length := by
      have := congrArg List.length hdr
      simp at this; omega
    refine Ev.succ ?_
    simp only [laws_toToneS.l0]
    refine Ev.pos (by omega) (Ev.pos (by omega) (Ev.conb (a := ((rd_T50 l i).f0, (rd_T50 l i).f1)) rfl (Ev.pos (by omega) ?_)))
    rw [w64 (by omega) (by omega)]
    refine Ev.eqr (ih _ (by simpa using hs)) ?_
    have e1 : l.length - rest.length = i + 1 := by omega
    have e2 : l.length - (l.getD i z50 :: rest).length = i := by simp; omega
    rw [e1, e2]
    simp only [Int.toNat_natCast, List.map_cons]
    rw [List.take_set, List.take_succ_eq_append_getElem (by omega), List.set_append_right _ _ (by simp; omega)]
    have e3 : i - (s.take i).length = 0 := by simp; omega
    rw [e3]
    simp [convTone, rd_T50]) 0 (List.replicate l.length z29) (Nat.zero_le _) (by simp)
  simpa using this
theorem eqToneS_ev (l : List S29) (hl : l.length ≤ 1000000000000000) : Ev (fun k => laws_eqToneS.f k l l) true := by
  unfold laws_eqToneS.f
  refine Ev.pos rfl ?_
  have := Ev.over z29 l (fun k (_ : Unit) i => laws_eqToneS.l0 k l l i) (fun _ _ => true) (fun _ _ => True) (by
    intro s _
    refine Ev.succ ?_
    simp only [laws_eqToneS.l0]
    exact Ev.neg (by omega) (Ev.now _)) (by
    intro s i rest _ hi _ ih
    refine Ev.succ ?_
    simp only [laws_eqToneS.l0]
    refine Ev.pos (by omega) (Ev.pos (by omega) (Ev.pos (by omega) (Ev.conb (a := true) (by simp [laws_eqTone.f]) (Ev.pos rfl ?_))))
    rw [w64 (by omega) (by omega)]
    exact ih () trivial) 0 () (Nat.zero_le _) trivial
  simpa using this
def markTone : Nat → Int → List S29
  | 0, _ => []
  | n + 1, a => ⟨a, Int.tmod (a + 1) 3 == 0⟩ :: markTone n (a + 2)
theorem markTone_len : ∀ n a, (markTone n a).length = n
  | 0, _ => rfl
  | n + 1, a => by simp [markTone, markTone_len n]
theorem markTone_get : ∀ (n : Nat) (a : Int) (i : Nat), i < n → (markTone n a).getD i z29 = ⟨a + 2 * i, Int.tmod (a + 2 * i + 1) 3 == 0⟩
  | 0, _, _, h => by omega
  | n + 1, a, 0, _ => by simp [markTone]
  | n + 1, a, i + 1, h => by
    have := markTone_get n (a + 2) i (by omega)
    simp only [markTone, List.getD_cons_succ]
    rw [this]
    have e : a + 2 + 2 * (i : Int) = a + 2 * ((i + 1 : Nat) : Int) := by omega
    rw [e]
theorem markToneS_ev (l : List S29) (a : Int) (ha : 0 ≤ a) (ha' : a ≤ 1000000000000000) (hl : l.length ≤ 1000000000000000) : Ev (fun k => laws_markToneS.f k l a) (a + 2 * l.length, markTone l.length a) := by
  unfold laws_markToneS.f
  have := Ev.over z29 l (fun k (s : List S29 × Int) i => laws_markToneS.l0 k s.1 s.2 i) (fun s rest => (s.2 + 2 * (rest.length : Int), s.1.take (l.length - rest.length) ++ markTone rest.length s.2)) (fun i s => s.1.length = l.length ∧ s.2 = a + 2 * i) (by
    intro s hs
    refine Ev.succ ?_
    simp only [laws_markToneS.l0]
    refine Ev.eqr (Ev.neg (by omega) (Ev.now _)) ?_
    simp [← hs.1, markTone]) (by
    intro s i rest hs hi hdr ih
    have hrl : rest.length + 1 + i = l.length := by
      have := congrArg List.length hdr
      simp at this; omega
    refine Ev.succ ?_
    simp only [laws_markToneS.l0]
    refine Ev.pos (by omega) (Ev.pos (by omega) (Ev.someb ?_))
    have h2 := hs.2
    rw [w64 (x := s.2 + 1) (by omega) (by omega), w64 (x := s.2 + 1 + 1) (by omega) (by omega), w64 (by omega) (by omega)]
    refine Ev.eqr (ih (_, s.2 + 1 + 1) ⟨by simpa using hs.1, by simp only []; omega⟩) ?_
    have e1 : l.length - rest.length = i + 1 := by omega
    have e2 : l.length - (l.getD i z29 :: rest).length = i := by simp; omega
    rw [e1, e2]
    simp only [Int.toNat_natCast, List.length_cons, markTone, List.set_set]
    refine Prod.ext (by simp only []; omega) ?_
    simp only []
    rw [List.take_set, List.take_succ_eq_append_getElem (by omega), List.set_append_right _ _ (by simp; omega)]
    have e3 : i - (s.1.take i).length = 0 := by simp; omega
    have e4 : s.2 + 1 + 1 = s.2 + 2 := by omega
    have e5 : (rd_T29 (s.1.set i ⟨s.2, (rd_T29 s.1 i).f1⟩) i).f0 = s.2 := by
      simp [rd_T29, List.getD_eq_getElem?_getD, List.getElem?_set_self (show i < s.1.length by omega)]
    rw [e3, e4, e5]
    simp) 0 (l, a) (Nat.zero_le _) ⟨rfl, by simp⟩
  simpa using this
theorem ToneS_sz (l : List S50) (left : Int) (A : Option Addr) (c : Nat) (w : World) (h0 : 0 ≤ left) (h1 : left ≤ 1000000000000) (hl : (l.length : Int) ≤ 9223372036854775807) (hr : Kd.C k50 w A l.length l) (hc : l.length ≤ c) :
    Calls Tryd.prog 18 #[.slice A l.length c, .int .i64 left] w fun e w' => ∃ r, e = .returned (.int .i64 r) ∧ (r = if left - (l.length : Int) < 0 then -1 else left - (l.length : Int)) ∧ Below w.heap.size w w' := by
  refine (laws_szToneS.calls A c l left _ w hr hc (szToneS_eq l left h0 h1 hl)).mono ?_
  rintro e w' ⟨rfl, hd⟩
  exact ⟨_, rfl, rfl, hd.below⟩
theorem ToneS_to (l : List S50) (A : Option Addr) (c : Nat) (w : World) (hl : l.length ≤ 1000000000000) (hr : Kd.C k50 w A l.length l) (hc : l.length ≤ c) :
    Calls Tryd.prog 20 #[.slice A l.length c] w fun e w' => ∃ v, e = .returned v ∧ Kd.R k29 29 w' w.heap.size (fun _ => True) v (l.map convTone) ∧ Below w.heap.size w w' := by
  obtain ⟨k, h⟩ := Ev.rounds (toToneS_ev l hl)
  exact (laws_toToneS.calls k A c l _ w hr hc h).mono (fun e w' h => h)
theorem ToneS_eq (l : List S29) (A0 A1 : Option Addr) (c0 c1 : Nat) (w : World) (hl : l.length ≤ 1000000000000) (hr0 : Kd.C k29 w A0 l.length l) (hc0 : l.length ≤ c0) (hr1 : Kd.C k29 w A1 l.length l) (hc1 : l.length ≤ c1) :
    Calls Tryd.prog 22 #[.slice A0 l.length c0, .slice A1 l.length c1] w fun e w' => e = .returned (.bool true) ∧ Below w.heap.size w w' := by
  obtain ⟨k, h⟩ := Ev.rounds (eqToneS_ev l (by omega))
  exact (laws_eqToneS.calls k A0 c0 l A1 c1 l true w hr0 hc0 hr1 hc1 h).mono (fun e w' h => h)
theorem ToneS_mark (l : List S29) (a : Int) (s t : Nat) (v : Value) (w0 w : World) (ha : 0 ≤ a) (ha' : a ≤ 1000000000000) (hl : l.length ≤ 1000000000000) (hB : Below w0.heap.size w0 w) (ho : Own k29 29 w w0.heap.size s t v l) :
    Calls Tryd.prog 23 #[v, .int .i64 a] w fun e w' => ∃ r, e = .returned (.int .i64 r) ∧ r = a + 2 * (l.length : Int) ∧ Own k29 29 w' w0.heap.size s t v (markTone l.length a) ∧ Below w0.heap.size w0 w' ∧ Kept w w' (fun k => s ≤ k ∧ k < t) := by
  obtain ⟨k, h⟩ := Ev.rounds (markToneS_ev l a ha (by omega) (by omega))
  refine (laws_markToneS.calls k (fun k => s ≤ k ∧ k < t) v l a _ _ w0 w hB ho h).mono ?_
  rintro e w' ⟨rfl, hr, hb, hk⟩
  exact ⟨_, rfl, rfl, Own.back rfl ho hr, hb, hk⟩

theorem heldToneS_ev (n : Nat) (a : Int) (ha : 0 ≤ a) (ha' : a ≤ 1000000000000000) (hl : n ≤ 1000000000000000) : Ev (fun k => laws_heldToneS.f k (markTone n a) a) (a + 2 * n) := by
  unfold laws_heldToneS.f
  have := Ev.over z29 (markTone n a) (fun k (s : Int) i => laws_heldToneS.l0 k (markTone n a) s i) (fun s rest => s + 2 * (rest.length : Int)) (fun i s => s = a + 2 * i) (by
    intro s hs
    refine Ev.succ ?_
    simp only [laws_heldToneS.l0]
    refine Ev.eqr (Ev.neg (by omega) (Ev.now _)) ?_
    simp) (by
    intro s i rest hs hi hdr ih
    rw [markTone_len] at hi
    have hg : rd_T29 (markTone n a) i = ⟨a + 2 * i, Int.tmod (a + 2 * i + 1) 3 == 0⟩ := markTone_get n a i hi
    refine Ev.succ ?_
    simp only [laws_heldToneS.l0]
    rw [hg, markTone_len]
    subst hs
    rw [w64 (x := a + 2 * i + 1) (by omega) (by omega), w64 (x := a + 2 * i + 1 + 1) (by omega) (by omega), w64 (by omega) (by omega)]
    refine Ev.pos (by omega) (Ev.pos (by omega) (Ev.pos rfl (Ev.neg (by simp) ?_)))
    refine Ev.eqr (ih _ (by omega)) ?_
    simp only [List.length_cons]; omega) 0 a (Nat.zero_le _) (by simp)
  simpa [markTone_len] using this
theorem ToneS_held (n : Nat) (a : Int) (A : Option Addr) (c : Nat) (w : World) (ha : 0 ≤ a) (ha' : a ≤ 1000000000000) (hl : n ≤ 1000000000000) (hr : Kd.C k29 w A n (markTone n a)) (hc : n ≤ c) :
    Calls Tryd.prog 24 #[.slice A n c, .int .i64 a] w fun e w' => ∃ r, e = .returned (.int .i64 r) ∧ r = a + 2 * (n : Int) ∧ Below w.heap.size w w' := by
  obtain ⟨k, h⟩ := Ev.rounds (heldToneS_ev n a ha (by omega) (by omega))
  have hm := markTone_len n a
  have hr' : Kd.C k29 w A (markTone n a).length (markTone n a) := by rw [hm]; exact hr
  have := laws_heldToneS.calls k A c (markTone n a) a _ w hr' (by omega) h
  rw [hm] at this
  refine this.mono ?_
  rintro e w' ⟨rfl, hd⟩
  exact ⟨_, rfl, rfl, hd.below⟩

/-! arguments that are read as data, as kinds -/
def Opn {α : Type} (P : Program) (t : TypeId) (d : Kd α) (ok : α → Prop) : Prop :=
  P.cellsOf t = d.sz ∧ ∀ {H : Type} (enc : TypeId × Value → H) (w : World) (base : Nat) (held : Bool) (fuel : Nat) (cs : List Value) (x : DataW H × List MemPlace), DataW.trod enc P w base (fun _ => true) held fuel t cs = some x → ∃ p, d.K w p cs ∧ ok p
theorem opn_int {P : Program} {t : TypeId} (k : IntKind) (ht : P.underlying t = some (.int k)) (hc : P.cellsOf t = 1) : Opn P t (Kd.int k) (fun n => (Lit.int k n).wf = true) :=
  ⟨hc, fun enc w base held fuel cs x h => by obtain ⟨n, rfl, _, hw⟩ := DataW.trod_int ht h; exact ⟨n, rfl, hw⟩⟩
theorem opn_bool {P : Program} {t : TypeId} (ht : P.underlying t = some .bool) (hc : P.cellsOf t = 1) : Opn P t Kd.bool (fun _ => True) :=
  ⟨hc, fun enc w base held fuel cs x h => by obtain ⟨n, rfl, _⟩ := DataW.trod_bool ht h; exact ⟨n, rfl, trivial⟩⟩
theorem opn_string {P : Program} {t : TypeId} (ht : P.underlying t = some .string) (hc : P.cellsOf t = 1) : Opn P t Kd.string (fun s => s.size ≤ maxLen) :=
  ⟨hc, fun enc w base held fuel cs x h => by obtain ⟨n, rfl, _, hs⟩ := DataW.trod_string ht h; exact ⟨n, rfl, hs⟩⟩
theorem opn_slice {α : Type} {P : Program} {t e : TypeId} {d : Kd α} {ok : α → Prop} (ht : P.underlying t = some (.slice e)) (hc : P.cellsOf t = 1) (he : Opn P e d ok) : Opn P t (Kd.slice e d) (fun l => (∀ x ∈ l, ok x) ∧ l.length ≤ maxLen) := by
  refine ⟨hc, fun enc w base held fuel cs x h => ?_⟩
  rcases Go.Deep.open_slice ht h with ⟨rfl, _⟩ | ⟨a, len, cap, m, n, D, Pl, rfl, _, hl, hm, hmm, _, hi⟩
  · exact ⟨[], ⟨none, 0, rfl, Nat.le_refl _, rfl, by simp, fun h => by simp at h⟩, by simp, by simp⟩
  · have hmc : m = cap := by simpa using hmm
    clear hmm
    have key : ∀ k, k ≤ len → ∃ l : List α, l.length = k ∧ (∀ x ∈ l, ok x) ∧ ∀ j p, l[j]? = some p → ∃ c, c.length = d.sz ∧ d.K w p c ∧ ∀ i u, c[i]? = some u → w.cell? (a.add (j * d.sz + i)) = some u := by
      intro k
      induction k with
      | zero => intro _; exact ⟨[], rfl, by simp, by simp⟩
      | succ k ih =>
        intro hk
        obtain ⟨l, hll, hlo, hlc⟩ := ih (by omega)
        obtain ⟨cs', hcs, ht'⟩ := hi k (by omega)
        rw [he.1] at hcs
        obtain ⟨p, hp, hop⟩ := he.2 enc w base held n cs' _ ht'
        obtain ⟨_, hcl, hat⟩ := World.cells?_some hcs
        refine ⟨l ++ [p], by simp [hll], ?_, ?_⟩
        · intro x hx
          rcases List.mem_append.1 hx with hx | hx
          · exact hlo x hx
          · rw [List.mem_singleton.1 hx]; exact hop
        · intro j q hq
          by_cases hj : j < l.length
          · rw [List.getElem?_append_left hj] at hq
            exact hlc j q hq
          · have hj2 : j = l.length := by
              have := (List.getElem?_eq_some_iff.1 hq).1
              simp at this; omega
            subst hj2
            rw [List.getElem?_append_right (Nat.le_refl _)] at hq
            simp at hq
            subst hq
            refine ⟨cs', hcl, hp, fun i u hu => ?_⟩
            have hil : i < d.sz := by rw [← hcl]; exact (List.getElem?_eq_some_iff.1 hu).1
            rw [hll, ← Go.Deep.add_add, hat i hil, hu]
    obtain ⟨l, hll, hlo, hlc⟩ := key len (Nat.le_refl _)
    subst hll
    exact ⟨l, ⟨some a, cap, rfl, hl, rfl, by unfold maxLen at hm; omega, fun _ => ⟨a, rfl, hlc⟩⟩, hlo, by omega⟩
theorem opn_iso {α β : Type} {P : Program} {t : TypeId} {d : Kd α} {ok : α → Prop} (h : Opn P t d ok) (f : β → α) (g : α → β) (hfg : ∀ x, f (g x) = x) : Opn P t (Kd.iso d f) (fun y => ok (f y)) :=
  ⟨h.1, fun enc w base held fuel cs x hx => by
    obtain ⟨p, hp, ho⟩ := h.2 enc w base held fuel cs x hx
    exact ⟨g p, by show d.K w (f (g p)) cs; rw [hfg]; exact hp, by show ok (f (g p)); rw [hfg]; exact ho⟩⟩
theorem opn_struct2 {α β : Type} {P : Program} {t : TypeId} {f0 f1 : Field} {a : Kd α} {b : Kd β} {oka : α → Prop} {okb : β → Prop} (ht : P.underlying t = some (.struct #[f0, f1])) (h0 : Opn P f0.type a oka) (h1 : Opn P f1.type b okb)
    (o0 : f0.offset = 0) (o1 : f1.offset = a.sz) (hc : P.cellsOf t = a.sz + b.sz) : Opn P t (Kd.pair a b) (fun p => oka p.1 ∧ okb p.2) := by
  refine ⟨hc, fun enc w base held fuel cs x h => ?_⟩
  obtain ⟨xs, n, _, _, hl, hxl, hg⟩ := DataW.trod_struct ht h
  have g0 := hg 0 f0 rfl
  have g1 := hg 1 f1 rfl
  rw [o0, h0.1, List.drop_zero] at g0
  rw [o1, h1.1] at g1
  rw [List.getElem?_eq_getElem (by rw [hxl]; simp)] at g0 g1
  obtain ⟨p, hp, hop⟩ := h0.2 enc w base held n _ _ g0
  obtain ⟨q, hq, hoq⟩ := h1.2 enc w base held n _ _ g1
  refine ⟨(p, q), ⟨cs.take a.sz, (cs.drop a.sz).take b.sz, ?_, hp, hq⟩, hop, hoq⟩
  rw [List.take_of_length_le (l := cs.drop a.sz) (by rw [List.length_drop, hl, hc]; omega), List.take_append_drop]
theorem opn_struct3 {α β γ : Type} {P : Program} {t : TypeId} {f0 f1 f2 : Field} {a : Kd α} {b : Kd β} {c : Kd γ} {oka : α → Prop} {okb : β → Prop} {okc : γ → Prop} (ht : P.underlying t = some (.struct #[f0, f1, f2])) (h0 : Opn P f0.type a oka) (h1 : Opn P f1.type b okb) (h2 : Opn P f2.type c okc)
    (o0 : f0.offset = 0) (o1 : f1.offset = a.sz) (o2 : f2.offset = a.sz + b.sz) (hc : P.cellsOf t = a.sz + (b.sz + c.sz)) : Opn P t (Kd.pair a (Kd.pair b c)) (fun p => oka p.1 ∧ okb p.2.1 ∧ okc p.2.2) := by
  refine ⟨hc, fun enc w base held fuel cs x h => ?_⟩
  obtain ⟨xs, n, _, _, hl, hxl, hg⟩ := DataW.trod_struct ht h
  have g0 := hg 0 f0 rfl
  have g1 := hg 1 f1 rfl
  have g2 := hg 2 f2 rfl
  rw [o0, h0.1, List.drop_zero] at g0
  rw [o1, h1.1] at g1
  rw [o2, h2.1] at g2
  rw [List.getElem?_eq_getElem (by rw [hxl]; simp)] at g0 g1 g2
  obtain ⟨p, hp, hop⟩ := h0.2 enc w base held n _ _ g0
  obtain ⟨q, hq, hoq⟩ := h1.2 enc w base held n _ _ g1
  obtain ⟨r, hr, hor⟩ := h2.2 enc w base held n _ _ g2
  refine ⟨(p, q, r), ⟨cs.take a.sz, cs.drop a.sz, by rw [List.take_append_drop], hp, (cs.drop a.sz).take b.sz, (cs.drop (a.sz + b.sz)).take c.sz, ?_, hq, hr⟩, hop, hoq, hor⟩
  rw [List.take_of_length_le (l := cs.drop (a.sz + b.sz)) (by rw [List.length_drop, hl, hc]; omega), ← List.drop_drop, List.take_append_drop]
theorem opn_struct4 {α β γ δ : Type} {P : Program} {t : TypeId} {f0 f1 f2 f3 : Field} {a : Kd α} {b : Kd β} {c : Kd γ} {d : Kd δ} {oka : α → Prop} {okb : β → Prop} {okc : γ → Prop} {okd : δ → Prop} (ht : P.underlying t = some (.struct #[f0, f1, f2, f3])) (h0 : Opn P f0.type a oka) (h1 : Opn P f1.type b okb) (h2 : Opn P f2.type c okc) (h3 : Opn P f3.type d okd)
    (o0 : f0.offset = 0) (o1 : f1.offset = a.sz) (o2 : f2.offset = a.sz + b.sz) (o3 : f3.offset = a.sz + b.sz + c.sz) (hc : P.cellsOf t = a.sz + (b.sz + (c.sz + d.sz))) : Opn P t (Kd.pair a (Kd.pair b (Kd.pair c d))) (fun p => oka p.1 ∧ okb p.2.1 ∧ okc p.2.2.1 ∧ okd p.2.2.2) := by
  refine ⟨hc, fun enc w base held fuel cs x h => ?_⟩
  obtain ⟨xs, n, _, _, hl, hxl, hg⟩ := DataW.trod_struct ht h
  have g0 := hg 0 f0 rfl
  have g1 := hg 1 f1 rfl
  have g2 := hg 2 f2 rfl
  have g3 := hg 3 f3 rfl
  rw [o0, h0.1, List.drop_zero] at g0
  rw [o1, h1.1] at g1
  rw [o2, h2.1] at g2
  rw [o3, h3.1] at g3
  rw [List.getElem?_eq_getElem (by rw [hxl]; simp)] at g0 g1 g2 g3
  obtain ⟨p, hp, hop⟩ := h0.2 enc w base held n _ _ g0
  obtain ⟨q, hq, hoq⟩ := h1.2 enc w base held n _ _ g1
  obtain ⟨r, hr, hor⟩ := h2.2 enc w base held n _ _ g2
  obtain ⟨s, hs, hos⟩ := h3.2 enc w base held n _ _ g3
  refine ⟨(p, q, r, s), ⟨cs.take a.sz, cs.drop a.sz, by rw [List.take_append_drop], hp, (cs.drop a.sz).take b.sz, cs.drop (a.sz + b.sz), by rw [← List.drop_drop, List.take_append_drop], hq, (cs.drop (a.sz + b.sz)).take c.sz, (cs.drop (a.sz + b.sz + c.sz)).take d.sz, ?_, hr, hs⟩, hop, hoq, hor, hos⟩
  rw [List.take_of_length_le (l := cs.drop (a.sz + b.sz + c.sz)) (by rw [List.length_drop, hl, hc]; omega)]
  exact (List.take_append_drop c.sz (cs.drop (a.sz + b.sz))).symm.trans (by rw [List.drop_drop])
/-- A slice argument. -/
theorem opn_arg {α : Type} {P : Program} {t e : TypeId} {d : Kd α} {ok : List α → Prop} (h : Opn P t (Kd.slice e d) ok) {H : Type} {enc : TypeId × Value → H} {w : World} {base : Nat} {held : Bool} {a : Option Addr} {len cap : Nat} {x : DataW H} {p : List MemPlace} (hr : DataW.Trod enc P w base (fun _ => true) held t (.slice a len cap) x p) :
    ∃ l : List α, len = l.length ∧ l.length ≤ cap ∧ d.C w a l.length l ∧ ok l := by
  obtain ⟨fuel, hf⟩ := hr
  obtain ⟨l, ⟨A, c, he, hc, hC⟩, ho⟩ := h.2 enc w base held fuel _ _ hf
  simp [Value.cells] at he
  obtain ⟨rfl, rfl, rfl⟩ := he
  exact ⟨l, rfl, hc, hC, ho⟩

end Go.Proofs.YtclpnaaagajhiaaDoor.Pure
