/- Lemmas on the printed functions for the law FnExactFormulasBest. -/
import Derived.Test.YtkmganbgnjphfaaPFnExactFormulasBestx23
import Derived.Test.YtkmganbgnjphfaaPFnExactFormulasBestx12
import Derived.Test.YtkmganbgnjphfaaPFnExactFormulasBestx27
import Derived.Test.YtkmganbgnjphfaaPFnExactFormulasBestx22
import Derived.Test.YtkmganbgnjphfaaPFnExactFormulasBestx25
import Derived.Test.YtkmganbgnjphfaaPFnExactFormulasBestx28
import Derived.Test.YtkmganbgnjphfaaPFnExactFormulasBestx30
import Derived.Test.YtkmganbgnjphfaaPFnExactFormulasBestx4
import Derived.Test.YtkmganbgnjphfaaPFnExactFormulasBestx1
import Derived.Test.YtkmganbgnjphfaaPFnExactFormulasBestx16
import Derived.Test.YtkmganbgnjphfaaPFnExactFormulasBestx17
import Derived.Test.YtkmganbgnjphfaaPFnExactFormulasBestx18
import Derived.Deep.RegionHeld3
import Derived.BigRegion
import Derived.Deep.Slices
import Derived.Laws.CopyOwn
namespace Go.Proofs.Ytkmganbgnjphfaa.Pure
set_option linter.unusedVariables false
set_option linter.unusedSimpArgs false
open Go Go.RowKit Go.Proofs.Ytkmganbgnjphfaa.PFnExactFormulasBest Go.Proofs.YtkmganbgnjphfaaW.PrintWords Go.Proofs.YtkmganbgnjphfaaW.PrintLast Go.Proofs.YtkmganbgnjphfaaW.PrintMore

/-! words: Ev, wrap64, lists -/
theorem Ev.succ {α : Type} {g : Nat → Option α} {r : α} (h : Ev (fun k => g (k + 1)) r) : Ev g r := Ev.step (fun _ => rfl) h
theorem Ev.pos {α : Type} {c : Prop} [Decidable c] {f g : Nat → Option α} {r : α} (hc : c) (h : Ev f r) : Ev (fun k => if c then f k else g k) r := by
  simp only [if_pos hc]; exact h
theorem Ev.neg {α : Type} {c : Prop} [Decidable c] {f g : Nat → Option α} {r : α} (hc : ¬ c) (h : Ev g r) : Ev (fun k => if c then f k else g k) r := by
  simp only [if_neg hc]; exact h
theorem Ev.uniq {α : Type} {g : Nat → Option α} {r r' : α} (h : Ev g r) (h' : Ev g r') : r = r' := by
  obtain ⟨K, h⟩ := h; obtain ⟨K', h'⟩ := h'
  have a := h (max K K') (Nat.le_max_left _ _)
  have b := h' (max K K') (Nat.le_max_right _ _)
  exact Option.some.inj (a.symm.trans b)
theorem Ev.someb {α β : Type} {a : α} {f : Nat → α → Option β} {r : β} (h : Ev (fun n => f n a) r) : Ev (fun n => (some a).bind (f n)) r := h
theorem Ev.conb {α β : Type} {x : Option α} {a : α} {f : Nat → α → Option β} {r : β} (hx : x = some a) (h : Ev (fun n => f n a) r) : Ev (fun n => x.bind (f n)) r := by subst hx; exact h
theorem Ev.eqr {α : Type} {g : Nat → Option α} {r r' : α} (h : Ev g r) (e : r = r') : Ev g r' := e ▸ h
theorem Ev.eqg {α : Type} {g g' : Nat → Option α} {r : α} (h : Ev g r) (e : g' = g) : Ev g' r := e ▸ h
/-- A loop over the places of a list, from the front. -/
theorem Ev.over {α ρ σ : Type} (d : α) (xs : List α) (L : Nat → σ → Int → Option ρ) (F : σ → List α → ρ) (I : Nat → σ → Prop)
    (hend : ∀ s, I xs.length s → Ev (fun k => L k s (xs.length : Int)) (F s []))
    (hstep : ∀ s (i : Nat) rest, I i s → i < xs.length → xs.drop i = xs.getD i d :: rest → (∀ s', I (i + 1) s' → Ev (fun k => L k s' ((i : Int) + 1)) (F s' rest)) → Ev (fun k => L k s (i : Int)) (F s (xs.getD i d :: rest))) :
    ∀ (i : Nat) (s : σ), i ≤ xs.length → I i s → Ev (fun k => L k s (i : Int)) (F s (xs.drop i)) := by
  intro i s hi hI
  obtain ⟨n, hn⟩ : ∃ n, n = xs.length - i := ⟨_, rfl⟩
  induction n generalizing i s with
  | zero =>
    have e : i = xs.length := by omega
    subst e
    rw [List.drop_length]
    exact hend s hI
  | succ n ih =>
    have hlt : i < xs.length := by omega
    have e : xs.drop i = xs.getD i d :: xs.drop (i + 1) := by
      rw [List.drop_eq_getElem_cons hlt, List.getD_eq_getElem?_getD, List.getElem?_eq_getElem hlt]; rfl
    rw [e]
    refine hstep s i _ hI hlt e (fun s' hs' => ?_)
    have := ih (i + 1) s' (by omega) hs' (by omega)
    simpa using this
theorem w64 {x : Int} (h : -9223372036854775808 ≤ x) (h' : x ≤ 9223372036854775807) : wrap64 x = x := by unfold wrap64; omega
theorem xor_bd (x y : Int) (hx : 0 ≤ x) (hx' : x < 4611686018427387904) (hy : 0 ≤ y) (hy' : y < 4611686018427387904) : 0 ≤ Go.bits .xor .i64 x y := by
  obtain ⟨a, rfl⟩ := Int.eq_ofNat_of_zero_le hx
  obtain ⟨b, rfl⟩ := Int.eq_ofNat_of_zero_le hy
  have ha : a < 2 ^ 62 := by omega
  have hb : b < 2 ^ 62 := by omega
  have hc : a ^^^ b < 2 ^ 62 := Nat.xor_lt_two_pow ha hb
  have ha' : a % 2 ^ IntKind.i64.bits = a := Nat.mod_eq_of_lt (Nat.lt_of_lt_of_le ha (by decide))
  have hb' : b % 2 ^ IntKind.i64.bits = b := Nat.mod_eq_of_lt (Nat.lt_of_lt_of_le hb (by decide))
  have e : Go.bits .xor .i64 (a : Int) (b : Int) = ((a ^^^ b : Nat) : Int) := by
    simp only [Go.bits, BitVec.ofInt_natCast, BitVec.toNat_xor, BitVec.toNat_ofNat, ha', hb']
    rw [Go.IntKind.wrap_i64]; omega
  rw [e]; omega
theorem rd_nat (xs : List Int) (i : Nat) : rd xs (i : Int) = xs.getD i 0 := rfl
theorem mx_le (a b : Int) : a ≤ mx a b ∧ b ≤ mx a b ∧ (mx a b = a ∨ mx a b = b) := by unfold mx; split <;> omega
theorem mn_le (a b : Int) : mn a b ≤ a ∧ mn a b ≤ b ∧ (mn a b = a ∨ mn a b = b) := by unfold mn; split <;> omega
/-- From some number of rounds on there is an answer, and it is such a one. -/
def Evx {α : Type} (g : Nat → Option α) (P : α → Prop) : Prop := ∃ r, Ev g r ∧ P r
theorem Evx.now {α : Type} {P : α → Prop} {r : α} (h : P r) : Evx (fun _ => some r) P := ⟨r, Ev.now r, h⟩
theorem Evx.ev {α : Type} {g : Nat → Option α} {P : α → Prop} {r : α} (h : Ev g r) (hP : P r) : Evx g P := ⟨r, h, hP⟩
theorem Evx.mono {α : Type} {g : Nat → Option α} {P Q : α → Prop} (h : Evx g P) (hPQ : ∀ r, P r → Q r) : Evx g Q := by
  obtain ⟨r, h, hP⟩ := h; exact ⟨r, h, hPQ r hP⟩
theorem Evx.bind {α β : Type} {g : Nat → Option α} {f : Nat → α → Option β} {P : α → Prop} {Q : β → Prop} (h : Evx g P) (k : ∀ a, P a → Evx (fun n => f n a) Q) : Evx (fun n => (g n).bind (f n)) Q := by
  obtain ⟨a, h, hP⟩ := h
  obtain ⟨r, h', hQ⟩ := k a hP
  exact ⟨r, Ev.bind h h', hQ⟩
theorem Evx.succ {α : Type} {g : Nat → Option α} {P : α → Prop} (h : Evx (fun k => g (k + 1)) P) : Evx g P := by
  obtain ⟨r, h, hP⟩ := h; exact ⟨r, Ev.succ h, hP⟩
theorem Evx.pos {α : Type} {c : Prop} [Decidable c] {f g : Nat → Option α} {P : α → Prop} (hc : c) (h : Evx f P) : Evx (fun k => if c then f k else g k) P := by
  simp only [if_pos hc]; exact h
theorem Evx.neg {α : Type} {c : Prop} [Decidable c] {f g : Nat → Option α} {P : α → Prop} (hc : ¬ c) (h : Evx g P) : Evx (fun k => if c then f k else g k) P := by
  simp only [if_neg hc]; exact h
theorem Evx.ite {α : Type} {c : Prop} [Decidable c] {f g : Nat → Option α} {P : α → Prop} (h : c → Evx f P) (h' : ¬ c → Evx g P) : Evx (fun k => if c then f k else g k) P := by
  by_cases hc : c
  · exact Evx.pos hc (h hc)
  · exact Evx.neg hc (h' hc)
theorem Evx.someb {α β : Type} {a : α} {f : Nat → α → Option β} {P : β → Prop} (h : Evx (fun n => f n a) P) : Evx (fun n => (some a).bind (f n)) P := h
theorem Evx.conb {α β : Type} {x : Option α} {a : α} {f : Nat → α → Option β} {P : β → Prop} (hx : x = some a) (h : Evx (fun n => f n a) P) : Evx (fun n => x.bind (f n)) P := by subst hx; exact h
theorem Evx.bind1 {α β : Type} {g : Nat → Option α} {f : Nat → α → Option β} {a : α} {Q : β → Prop} (h : Ev g a) (k : Evx (fun n => f n a) Q) : Evx (fun n => (g n).bind (f n)) Q := by
  obtain ⟨r, h', hQ⟩ := k
  exact ⟨r, Ev.bind h h', hQ⟩
theorem rd_bd {s : List Int} (hs : ∀ x ∈ s, 0 ≤ x ∧ x ≤ 255) (i : Int) : 0 ≤ rd s i ∧ rd s i ≤ 255 := by
  unfold rd
  rw [List.getD_eq_getElem?_getD]
  cases h : s[i.toNat]? with
  | none => simp
  | some v => exact hs v (List.mem_of_getElem? h)
theorem mem_set_of {α : Type} {P : α → Prop} {l : List α} (h : ∀ x ∈ l, P x) (i : Nat) (v : α) (hv : P v) : ∀ x ∈ l.set i v, P x := by
  intro x hx
  rcases List.mem_or_eq_of_mem_set hx with hx | hx
  · exact h x hx
  · exact hx ▸ hv

/-! the reference's tones and melodies: valid -/
theorem spec_l6In_eq (a b c : Int) : spec_l6In.f a b c = some (decide (b ≤ a ∧ a ≤ c)) := by
  unfold spec_l6In.f
  by_cases h : a ≥ b
  · rw [if_pos h]; simp [show b ≤ a from h]
  · rw [if_neg h]; simp [show ¬ b ≤ a from h]

/-! a map of the call's own, keyed by ints, told as a function -/
open Go.MapKept Go.ChangeMaps in
def MapFn (w : World) (M : Nat) (F : Int → Option Value) : Prop :=
  ∃ es clock, w.heap[M]? = some (.map es clock) ∧ (es.toList.map (·.key)).Nodup ∧ (∀ e ∈ es.toList, ∃ k, e.key = .int .i64 k ∧ F k = some e.val) ∧ ∀ k v, F k = some v → ∃ e ∈ es.toList, e.key = .int .i64 k ∧ e.val = v
theorem MapFn.made {w : World} {M : Nat} (h : w.heap[M]? = some (.map #[] 0)) : MapFn w M (fun _ => none) := ⟨_, _, h, by simp, by simp, by simp⟩
theorem MapFn.lt {w : World} {M : Nat} {F : Int → Option Value} (h : MapFn w M F) : M < w.heap.size := by
  obtain ⟨es, clock, hb, _⟩ := h; exact blk_lt hb
theorem MapFn.move {w w' : World} {M : Nat} {F : Int → Option Value} (h : MapFn w M F) (hw : w'.heap[M]? = w.heap[M]?) : MapFn w' M F := by
  obtain ⟨es, clock, hb, h⟩ := h; exact ⟨es, clock, hw.trans hb, h⟩
theorem MapFn.look {P : Program} {w : World} {M : Nat} {F : Int → Option Value} (h : MapFn w M F) {t kt e : TypeId} (ht : P.underlying t = some (.map kt e)) (hk : P.underlying kt = some (.int .i64)) {z : Value} (hz : ∀ w, (zeroValue e).run P w = .ok z w) (k : Int) (c : Bool) :
    (Instr.lookup t (.map (some M)) (.int .i64 k) c).run P w = .ok (if c then .tuple #[(F k).getD z, .bool (F k).isSome] else (F k).getD z) w := by
  obtain ⟨es, clock, hb, _, h1, h2⟩ := h
  have hkey : MapKept.IsKey (.int .i64) (.int .i64 k) := by simp [MapKept.IsKey]
  have hks : ∀ x ∈ es.toList, MapKept.IsKey (.int .i64) x.key := fun x hx => by
    obtain ⟨k, hk, _⟩ := h1 x hx
    rw [hk]; simp [MapKept.IsKey]
  rcases MapKept.findNow_spec hkey es.toList 0 hks with ⟨f1, f2⟩ | ⟨j, e0, f1, f2, f3⟩
  · have hF : F k = none := by
      cases hF : F k with
      | none => rfl
      | some v =>
        obtain ⟨x, hx, hx1, _⟩ := h2 k v hF
        exact absurd hx1 (f2 x hx)
    simp [Instr.lookup, run_underlying ht, MapKept.run_getObj_map hb, MapKept.run_checkKey hk hkey, MapKept.run_findKey hk f1, hz, Result.andThen, hF]
  · have hm : e0 ∈ es.toList := List.mem_of_getElem? f2
    obtain ⟨k', hk', hF⟩ := h1 e0 hm
    have e1 : k' = k := by rw [f3] at hk'; cases hk'; rfl
    subst e1
    simp [Instr.lookup, run_underlying ht, MapKept.run_getObj_map hb, MapKept.run_checkKey hk hkey, MapKept.run_findKey hk f1, Result.andThen, hF]
theorem MapFn.put {P : Program} {w : World} {M : Nat} {F : Int → Option Value} (h : MapFn w M F) {t kt e : TypeId} (ht : P.underlying t = some (.map kt e)) (hk : P.underlying kt = some (.int .i64)) (k : Int) (v : Value) :
    ∃ es clock, (Instr.mapUpdate t (.map (some M)) (.int .i64 k) v).run P w = .ok () (ChangeMaps.setBlock w M (.map es clock)) ∧ MapFn (ChangeMaps.setBlock w M (.map es clock)) M (fun j => if j = k then some v else F j) := by
  obtain ⟨es, clock, hb, hn, h1, h2⟩ := h
  have hlt := blk_lt hb
  have hset : ∀ o, (ChangeMaps.setBlock w M o).heap[M]? = some o := fun o => by simp [ChangeMaps.setBlock, hlt]
  have hkey : MapKept.IsKey (.int .i64) (.int .i64 k) := by simp [MapKept.IsKey]
  have hks : ∀ x ∈ es.toList, MapKept.IsKey (.int .i64) x.key := fun x hx => by
    obtain ⟨k, hk, _⟩ := h1 x hx
    rw [hk]; simp [MapKept.IsKey]
  rcases MapKept.findNow_spec hkey es.toList 0 hks with ⟨f1, f2⟩ | ⟨j, e0, f1, f2, f3⟩
  · refine ⟨es.push ⟨.int .i64 k, v, clock⟩, clock + 1, ?_, _, _, hset _, ?_, ?_, ?_⟩
    · simp [Instr.mapUpdate, run_underlying ht, MapKept.run_getObj_map hb, MapKept.run_checkKey hk hkey, MapKept.run_findKey hk f1, MapKept.run_setObj_map _ hb, Result.andThen, ChangeMaps.setBlock]
    · simp only [Array.toList_push, List.map_append, List.map_cons, List.map_nil]
      rw [List.nodup_append]
      refine ⟨hn, by simp, ?_⟩
      intro a ha b hb'
      obtain ⟨x, hx, rfl⟩ := List.mem_map.1 ha
      rw [List.mem_singleton.1 hb']
      exact f2 x hx
    · intro x hx
      simp only [Array.toList_push, List.mem_append, List.mem_singleton] at hx
      rcases hx with hx | rfl
      · obtain ⟨k', hk', hF⟩ := h1 x hx
        refine ⟨k', hk', ?_⟩
        have : k' ≠ k := fun e => f2 x hx (by rw [hk', e])
        show (if k' = k then _ else _) = _
        rw [if_neg this]; exact hF
      · exact ⟨k, rfl, if_pos rfl⟩
    · intro k' v' hF
      replace hF : (if k' = k then some v else F k') = some v' := hF
      simp only [Array.toList_push, List.mem_append, List.mem_singleton]
      by_cases e : k' = k
      · subst e
        rw [if_pos rfl] at hF
        cases hF
        exact ⟨_, .inr rfl, rfl, rfl⟩
      · rw [if_neg e] at hF
        obtain ⟨x, hx, hx1⟩ := h2 k' v' hF
        exact ⟨x, .inl hx, hx1⟩
  · have hm : e0 ∈ es.toList := List.mem_of_getElem? f2
    have hjl := (List.getElem?_eq_some_iff.1 f2).1
    have hje : es[j]? = some e0 := by simpa using f2
    have hmod : (es.modify j fun e => { e with key := .int .i64 k, val := v }).toList = es.toList.set j { e0 with key := .int .i64 k, val := v } := by
      apply List.ext_getElem?
      intro i
      rw [Array.getElem?_toList, Array.getElem?_modify, List.getElem?_set]
      by_cases e : j = i
      · subst e
        rw [if_pos rfl, if_pos rfl, hje, if_pos hjl]; rfl
      · rw [if_neg e, if_neg e, Array.getElem?_toList]
    refine ⟨es.modify j fun e => { e with key := .int .i64 k, val := v }, clock, ?_, _, _, hset _, ?_, ?_, ?_⟩
    · simp [Instr.mapUpdate, run_underlying ht, MapKept.run_getObj_map hb, MapKept.run_checkKey hk hkey, MapKept.run_findKey hk f1, MapKept.run_setObj_map _ hb, hje, f3, MapKept.run_keyThatStays hkey, Result.andThen, ChangeMaps.setBlock]
    · rw [hmod, List.map_set]
      have : (es.toList.map (·.key)).set j (.int .i64 k) = es.toList.map (·.key) := by
        apply List.ext_getElem?
        intro i
        rw [List.getElem?_set]
        by_cases e : j = i
        · subst e
          rw [if_pos rfl, List.length_map, if_pos hjl, List.getElem?_map, f2]
          simp [f3]
        · rw [if_neg e]
      rw [this]; exact hn
    · intro x hx
      rw [hmod] at hx
      obtain ⟨i, hi⟩ := List.mem_iff_getElem?.1 hx
      rw [List.getElem?_set] at hi
      by_cases e : j = i
      · subst e
        rw [if_pos rfl, if_pos hjl] at hi
        cases hi
        exact ⟨k, rfl, if_pos rfl⟩
      · rw [if_neg e] at hi
        obtain ⟨k', hk', hF⟩ := h1 x (List.mem_of_getElem? hi)
        refine ⟨k', hk', ?_⟩
        have : k' ≠ k := by
          rintro rfl
          have hnn := List.nodup_iff_pairwise_ne.1 hn
          have a1 : (es.toList.map (·.key))[i]? = some (.int .i64 k') := by rw [List.getElem?_map, hi]; simp [hk']
          have a2 : (es.toList.map (·.key))[j]? = some (.int .i64 k') := by rw [List.getElem?_map, f2]; simp [f3]
          obtain ⟨i1, i2⟩ := List.getElem?_eq_some_iff.1 a1
          obtain ⟨j1, j2⟩ := List.getElem?_eq_some_iff.1 a2
          exact e ((List.getElem_inj hn).1 (j2.trans i2.symm))
        show (if k' = k then _ else _) = _
        rw [if_neg this]; exact hF
    · intro k' v' hF
      replace hF : (if k' = k then some v else F k') = some v' := hF
      rw [hmod]
      by_cases e : k' = k
      · subst e
        rw [if_pos rfl] at hF
        cases hF
        exact ⟨_, List.mem_iff_getElem?.2 ⟨j, by rw [List.getElem?_set, if_pos rfl, if_pos hjl]⟩, rfl, rfl⟩
      · rw [if_neg e] at hF
        obtain ⟨x, hx, hx1, hx2⟩ := h2 k' v' hF
        obtain ⟨i, hi⟩ := List.mem_iff_getElem?.1 hx
        have hji : j ≠ i := by
          rintro rfl
          rw [f2] at hi; cases hi
          rw [f3] at hx1; cases hx1; exact e rfl
        exact ⟨x, List.mem_iff_getElem?.2 ⟨i, by rw [List.getElem?_set, if_neg hji]; exact hi⟩, hx1, hx2⟩
theorem below_setBlock {w W : World} {B M : Nat} {o : Obj} (h : Below B w W) (hM : B ≤ M) : Below B w (ChangeMaps.setBlock W M o) :=
  h.trans ⟨rfl, rfl, rfl, by simp [ChangeMaps.setBlock], fun k hk => by simp [ChangeMaps.setBlock, show M ≠ k by omega]⟩
theorem kept_setBlock {w W : World} {S : Nat → Prop} {M : Nat} {o : Obj} (h : Kept w W S) (hM : S M ∨ w.heap.size ≤ M) : Kept w (ChangeMaps.setBlock W M o) S :=
  h.then_ (S2 := fun k => k = M) ⟨by simp [ChangeMaps.setBlock], fun i _ hn => by simp [ChangeMaps.setBlock, show M ≠ i from fun e => hn e.symm]⟩ (fun k hk => by rw [hk]; exact hM)
theorem blk_setBlock {w : World} {g M : Nat} {o o' : Obj} (h : w.heap[g]? = some o) (hne : g ≠ M) : (ChangeMaps.setBlock w M o').heap[g]? = some o := by
  simp [ChangeMaps.setBlock, show M ≠ g from fun e => hne e.symm, h]

/-! laws_toFormulaS: as the print has it, but for the value of the inner row, which is opened ahead of the store -/
def laws_toFormulaS.l0 : Nat → List (S78) → List (S37) → Int → Option ((List (S37)))
  | 0, _, _, _ => none
  | k + 1, x0, x3, x4 => if x4 < (x0.length : Int) then (if 0 ≤ x4 then ((laws_toFormula.f k ((rd_T78 x0 x4).f0) ((rd_T78 x0 x4).f1)).bind fun bt201 => (if x4 < (x3.length : Int) then (laws_toFormulaS.l0 k x0 (x3.set (x4 : Int).toNat (⟨bt201.1, bt201.2⟩ : S37)) (wrap64 (x4 + 1))) else (none))) else (none)) else (some x3)
def laws_toFormulaS.f (k : Nat) (l0 : List (S78)) : Option ((List (S37))) := if 0 ≤ (l0.length : Int) then (if ((l0.length : Int) : Int).toNat ≤ 8796093022208 then (laws_toFormulaS.l0 k l0 (List.replicate ((l0.length : Int) : Int).toNat z37) 0) else (none)) else (none)
theorem laws_toFormulaS.mono_l : ∀ k, (∀ y0 y1 y2, LeO (laws_toFormulaS.l0 k y0 y1 y2) (laws_toFormulaS.l0 (k + 1) y0 y1 y2))
  | 0 => fun _ _ _ r h => by simp [laws_toFormulaS.l0] at h
  | k + 1 => by
    have ih0 := laws_toFormulaS.mono_l k
    · intro y0 y1 y2
      unfold laws_toFormulaS.l0
      repeat' first
      | (with_reducible exact ih0 _ _ _)
      | (with_reducible exact laws_toFormula.mono _ _ _)
      | (with_reducible exact LeO.refl _)
      | (with_reducible exact LeO.none _)
      | (with_reducible refine LeO.ite ?_ ?_)
      | (with_reducible refine LeO.bind ?_ (fun _ => ?_))
      | exact ih0 _ _ _
      | exact laws_toFormula.mono _ _ _
      | exact LeO.none _
      | refine LeO.ite ?_ ?_
      | refine LeO.bind ?_ (fun _ => ?_)
theorem laws_toFormulaS.mono : ∀ a0 k, LeO (laws_toFormulaS.f k a0) (laws_toFormulaS.f (k + 1) a0) := by
  intro a0 k
  have ih0 := laws_toFormulaS.mono_l k
  unfold laws_toFormulaS.f
  repeat' first
      | (with_reducible exact ih0 _ _ _)
      | (with_reducible exact laws_toFormula.mono _ _ _)
      | (with_reducible exact LeO.refl _)
      | (with_reducible exact LeO.none _)
      | (with_reducible refine LeO.ite ?_ ?_)
      | (with_reducible refine LeO.bind ?_ (fun _ => ?_))
      | exact ih0 _ _ _
      | exact laws_toFormula.mono _ _ _
      | exact LeO.none _
      | refine LeO.ite ?_ ?_
      | refine LeO.bind ?_ (fun _ => ?_)
set_option maxHeartbeats 8000000 in
set_option maxRecDepth 100000 in
theorem laws_toFormulaS.calls (k : Nat) (A0 : Option Addr) (c0 : Nat) (l0 : List (S78)) (r : List (S37)) (w : World) (hr0 : Kd.C k78 w A0 l0.length l0) (hc0 : l0.length ≤ c0) (h : laws_toFormulaS.f k l0 = some r) :
    Calls Try.prog 26 #[.slice A0 l0.length c0] w fun e w' => ∃ v0_ : Value, e = .returned (v0_) ∧ Kd.S k37 37 w' w.heap.size (fun _ => True) v0_ r ∧ Below w.heap.size w w' := by
  have hu78 := Try.underlying78
  have hu37 := Try.underlying37
  have HR0 := Aside0.mk hr0
  have HC0 := Aside0.mk hc0
  clear hr0 hc0
  have HB := Aside0.mk (Below.refl w.heap.size w)
  have H : (if 0 ≤ (l0.length : Int) then (if ((l0.length : Int) : Int).toNat ≤ 8796093022208 then (laws_toFormulaS.l0 k l0 (List.replicate ((l0.length : Int) : Int).toNat z37) 0) else (none)) else (none)) = some r := h
  clear h
  by_cases c2 : 0 ≤ (l0.length : Int)
  · rw [if_pos c2] at H
    have c2b0 := eq_true c2
    have c2b1 : decide (0 ≤ (l0.length : Int)) = true := decide_eq_true c2
    clear c2
    by_cases c3 : ((l0.length : Int) : Int).toNat ≤ 8796093022208
    · rw [if_pos c3] at H
      have c3b0 := eq_true c3
      have c3b1 : decide (((l0.length : Int) : Int).toNat ≤ 8796093022208) = true := decide_eq_true c3
      clear c3
      obtain ⟨y197, hy197⟩ : ∃ y_ : List (S37), y_ = (List.replicate ((l0.length : Int) : Int).toNat z37) := ⟨_, rfl⟩
      replace H : (laws_toFormulaS.l0 k l0 y197 0) = some r := by first | (rw [hy197]; with_reducible exact H) | (have H2_ := (Option.bind_some _ _).symm.trans H; rw [hy197]; with_reducible exact H2_) | (have H2_ := (Option.bind_some _ _).symm.trans H; with_reducible exact H2_) | with_reducible exact H | (rw [hy197]; exact H) | exact H
      have Ny197 := Aside0.mk hy197
      clear hy197
      have H' := Aside0.mk H
      clear H
      go_enter Try.func26, Try.ntmps26
      go_wp2_with (first | ((with_reducible refine gate_dst (N := 7) rfl ?_); refine Kd.S_make k37 _ 37 rfl (N := 7) rfl 23 _ _ rfl (l0.length : Int) rfl rfl Try.underlying23 (.agg #[(.slice none 0 0), (.int .i64 0)]) 32 info37 rfl (by decide) (by omega) z37 (ok := fun _ => True) (okp := fun _ => True) (k37_mkM _ _ _ z37 (Kd.R_nil _ _ _ _ _)) (fun _ hk => hk) trivial (of_decide_eq_true (by first | (with_reducible assumption) | assumption)) (Nat.le_trans (Nat.mul_le_mul_right _ (of_decide_eq_true (by first | (with_reducible assumption) | assumption) : (l0.length : Int).toNat ≤ 8796093022208)) (by omega)) (Below.refl _ _) (Nat.le_refl _) ?_; intro v198 w4 ho5 hb hg_ hnew_; clear hg_ hnew_; (first | rw [← Ny197.out] at ho5 | (simp only [Int.reduceToNat] at ho5; rw [← Ny197.out] at ho5)); have n0_ := Aside0.mk (Kd.S_lower ho5 (below_size (by repeat (first | (with_reducible first | exact HB.out | apply below_alloc | apply pw_below_drewN | apply below_drew1) | exact HB.out)))); have n1_ := Aside0.mk (below_step (by repeat (first | (with_reducible first | exact HB.out | apply below_alloc | apply pw_below_drewN | apply below_drew1) | exact HB.out)) hb); clear HB; have HO199 := n0_; have HB := n1_; clear n0_ n1_; clear hb ho5))
      go_loopg [4] k (fun kq v4 w' => ∃ (x3_1 : List (S37)) (x4_1 : Int), v4 = .int .i64 x4_1 ∧ Aside0 (laws_toFormulaS.l0 kq l0 x3_1 x4_1 = some r) ∧ Aside0 (kq ≤ k) ∧ Aside0 (Kd.S k37 37 w' w.heap.size (fun _ => True) v198 x3_1) ∧ Aside0 (Below w.heap.size w w'))
      case atStart => exact ⟨(y197), (0), (by first | rfl | (simp; done) | (simp [*]; done)), H', ⟨Nat.le_refl _⟩, ⟨by (with_reducible repeat (first | apply Kd.S_alloc | apply Kd.S_drewN | apply Kd.S_drew)); exact HO199.out⟩, ⟨by repeat (first | (with_reducible first | exact HB.out | apply below_alloc | apply pw_below_drewN | apply below_drew1) | exact HB.out)⟩⟩
      case round =>
        clear H'
        try clear c2
        try clear c2b0
        try clear c2b1
        try clear p2
        try clear c3
        try clear c3b0
        try clear c3b1
        obtain ⟨x3_1, x4_1, rfl, HA, HK1, HO_3, HB⟩ := hrel
        cases gk with
        | zero => exact absurd HA.out (by simp [laws_toFormulaS.l0])
        | succ k1 =>
          have H := HA.out
          clear HA
          simp only [laws_toFormulaS.l0] at H
          by_cases c6 : x4_1 < (l0.length : Int)
          · rw [if_pos c6] at H
            have c6b0 : decide (x4_1 < (l0.length : Int)) = true := decide_eq_true c6
            clear c6
            by_cases c7 : 0 ≤ x4_1
            · rw [if_pos c7] at H
              have c7b0 : decide (0 ≤ x4_1) = true := decide_eq_true c7
              clear c7
              replace H := Option.bind_eq_some_iff.mp H
              obtain ⟨⟨t201, t204⟩, A80, H⟩ := H
              replace H : (if x4_1 < (x3_1.length : Int) then (laws_toFormulaS.l0 k1 l0 (x3_1.set (x4_1 : Int).toNat (⟨t201, t204⟩ : S37)) (wrap64 (x4_1 + 1))) else (none)) = some r := H
              have A8 := Aside0.mk A80
              clear A80
              by_cases c9 : x4_1 < (x3_1.length : Int)
              · rw [if_pos c9] at H
                have c9b0 : decide (x4_1 < (x3_1.length : Int)) = true := decide_eq_true c9
                clear c9
                obtain ⟨y205, hy205⟩ : ∃ y_ : List (S37), y_ = (x3_1.set (x4_1 : Int).toNat (⟨t201, t204⟩ : S37)) := ⟨_, rfl⟩
                replace H : (laws_toFormulaS.l0 k1 l0 y205 (wrap64 (x4_1 + 1))) = some r := by first | (rw [hy205]; with_reducible exact H) | (have H2_ := (Option.bind_some _ _).symm.trans H; rw [hy205]; with_reducible exact H2_) | (have H2_ := (Option.bind_some _ _).symm.trans H; with_reducible exact H2_) | with_reducible exact H | (rw [hy205]; exact H) | exact H
                have Ny205 := Aside0.mk hy205
                clear hy205
                have H' := Aside0.mk H
                clear H
                have p200 : 0 ≤ (x4_1 : Int) := of_decide_eq_true (by first | (with_reducible assumption) | assumption)
                have q200 : x4_1 < (l0.length : Int) := of_decide_eq_true (by first | (with_reducible assumption) | assumption)
                obtain ⟨ad200, A200_0, c200_0, e200, hx200_0, hx200_1, hl200_0, hi200_0⟩ := at_T78 HR0.out x4_1 p200 q200
                cases e200
                replace hx200_0 := (HB.out.cell (World.block_lt_of_cell? w _ hx200_0)).trans hx200_0
                replace hx200_1 := (HB.out.cell (World.block_lt_of_cell? w _ hx200_1)).trans hx200_1
                have HR200_0 := Aside0.mk hi200_0
                have HC200_0 := Aside0.mk hl200_0
                clear hi200_0 hl200_0
                replace p200 := eq_true p200
                replace q200 := eq_true q200
                go_wp2_with (first | ((with_reducible refine gate_callee (f := 63) rfl ?_); refine goesL_ (some 20) rfl rfl Try.func63 (by kernel_rfl) rfl #[.agg #[.slice A200_0 ((rd_T78 l0 x4_1).f0).length c200_0, .int .i64 ((rd_T78 l0 x4_1).f1)]] rfl (by (try simp only [List.map_toArray, List.map_cons, List.map_nil]); first | done | rfl | (simp only [List.length_drop, List.length_take]; rfl)) ?_; (with_reducible refine (laws_toFormula.calls k1 _ _ ((rd_T78 l0 x4_1).f0) ((rd_T78 l0 x4_1).f1) t201 t204 _ ?side1 ?side2 A8.out).mono ?_); (case side1 => repeat (first | exact (Kd.C_below HR200_0.out HB.out) | (with_reducible refine Kd.C_alloc ?_ _) | (with_reducible refine Kd.C_drewN ?_ _) | (with_reducible refine Kd.C_drew ?_))); (case side2 => exact HC200_0.out); rintro e w11 ⟨v202, rfl, ho0, hb⟩; refine ⟨_, rfl, ?_⟩; obtain ⟨av_, cv_, rfl⟩ := Kd.R_slice ho0; have n0_ := Aside0.mk (Kd.S_elder' (by (with_reducible repeat (first | apply Kd.S_alloc | apply Kd.S_drewN | apply Kd.S_drew)); exact HO_3.out) (Kd.R_base ho0) hb); have n1_ := Aside0.mk (Kd.R_lower ho0 (below_size (by repeat (first | (with_reducible first | exact HB.out | apply below_alloc | apply pw_below_drewN | apply below_drew1) | exact HB.out)))); have n2_ := Aside0.mk (below_step (by repeat (first | (with_reducible first | exact HB.out | apply below_alloc | apply pw_below_drewN | apply below_drew1) | exact HB.out)) hb); clear HO_3; clear HB; have HO_3 := n0_; have HO203 := n1_; have HB := n2_; clear n0_ n1_ n2_; (try clear hb); (try clear hb2); (try clear hk); (try clear hi); (try clear ho0); have p10 : 0 ≤ (x4_1 : Int) := of_decide_eq_true (by first | (with_reducible assumption) | assumption); have q10 : (x4_1 : Int) < ((x3_1.length : Int) : Int) := of_decide_eq_true (by first | (with_reducible assumption) | assumption); obtain ⟨go10, co10, eo10, gb10, gl10, cl10, HG10⟩ := Kd.S_form HO_3.out (by omega); (first | cases eo10 | (injection eo10 with ea_ en_ ec_; (first | subst ea_ | (injection ea_ with ea_; subst ea_)); subst ec_; clear en_)); have GB10 := Aside0.mk gb10; have GG10 := Aside0.mk HG10; clear gb10 gl10 HG10; obtain ⟨_, ce10, hcl10, hM10, hcc10, hfr10, _, _⟩ := Kd.S_elem HO_3.out z37 (x4_1 : Int) p10 q10; obtain ⟨ve10_0, rfl, ge10_0⟩ := k37_openM hM10; have hx10_0 : w11.cell? ⟨go10, (x4_1 : Int).toNat * 2, none⟩ = some (ve10_0) := hcc10 0 _ rfl; have hx10_1 : w11.cell? ⟨go10, (x4_1 : Int).toNat * 2 + 1, none⟩ = some (.int .i64 ((rd_T37 x3_1 x4_1).f1)) := hcc10 1 _ rfl; have hf10_0 : w11.frozen? ⟨go10, (x4_1 : Int).toNat * 2, none⟩ = false := hfr10 0; have hf10_1 : w11.frozen? ⟨go10, (x4_1 : Int).toNat * 2 + 1, none⟩ = false := hfr10 1; clear hcl10 hcc10 hfr10 hM10; replace p10 := eq_true p10; replace q10 := eq_true q10; have n_ := Aside0.mk (Kd.S_mono (ok' := (fun k_ => some k_ ≠ ((Value.slice av_ t201.length cv_) : Value).ownBlock)) HO_3.out (fun k_ hk => hk.2)); clear HO_3; have HO_3 := n_; clear n_; have HX12 := Aside0.mk (show Kd.S k37 37 w11 w.heap.size (fun k_ => ((fun _ => True)) k_ ∧ ¬ ((fun k_ => some k_ = ((Value.slice av_ t201.length cv_) : Value).ownBlock)) k_) (.slice (some ⟨go10, 0, none⟩) x3_1.length co10) x3_1 from (by (with_reducible repeat (first | apply Kd.S_alloc | apply Kd.S_drewN | apply Kd.S_drew)); exact Kd.S_mono HO_3.out (fun k_ hk => ⟨trivial, fun e_ => hk e_⟩))); obtain ⟨oki12, ce12, hcl12, hM12, hcc12, hfr12, hoki12, hH12⟩ := Kd.S_elem HX12.out z37 (x4_1 : Int) (of_decide_eq_true (by first | (with_reducible assumption) | assumption)) (by have h_ : (x4_1 : Int) < ((x3_1.length : Int) : Int) := of_decide_eq_true (by first | (with_reducible assumption) | assumption); first | exact h_ | (have e_ := (Kd.S_reads' HO_3.out).1; omega) | simpa using h_); obtain ⟨ve12_0, rfl, ge12_0⟩ := k37_openM hM12; have HP12 := Kd.S_seg hH12 (of_decide_eq_true (by first | (with_reducible assumption) | assumption)) (by have h_ : (x4_1 : Int) < ((x3_1.length : Int) : Int) := of_decide_eq_true (by first | (with_reducible assumption) | assumption); first | exact h_ | (have e_ := (Kd.S_reads' HO_3.out).1; omega) | simpa using h_) (seg := [(Value.slice av_ t201.length cv_), .int .i64 t204]) (j := 0) (show 2 ≤ 2 from by decide) (x' := (⟨t201, t204⟩ : S37)) (k37_mkM _ _ _ (⟨t201, t204⟩ : S37) (Kd.R_mono (Kd.R_tight rfl (Kd.R_mono (ok' := fun k_ => ((fun _ => True)) k_ ∧ k_ ≠ go10) (Kd.R_apart' (HO203.out) (Kd.S_typed HO_3.out) (by decide)) (fun k_ hk => ⟨trivial, fun e_ => (hk.2) (by rw [e_]; rfl)⟩))) (fun _ h_ => Or.inr (h_)))) (fun _ hk => hk) (fun k_ hk_ => ((Kd.R_mono (ok' := fun k_ => ((fun _ => True)) k_ ∧ k_ ≠ go10) (Kd.R_apart' (HO203.out) (Kd.S_typed HO_3.out) (by decide)) (fun k_ hk => ⟨trivial, fun e_ => (hk.2) (by rw [e_]; rfl)⟩))).1 k_ hk_.symm); have hx12_0 := hcc12 0 _ rfl; (try simp only [show (k37).sz = 2 from rfl, Nat.mul_one, Nat.add_zero] at hx12_0); have hf12_0 := hfr12 0; (try simp only [show (k37).sz = 2 from rfl, Nat.mul_one, Nat.add_zero] at hf12_0); have hx12_1 := hcc12 1 _ rfl; (try simp only [show (k37).sz = 2 from rfl, Nat.mul_one, Nat.add_zero] at hx12_1); have hf12_1 := hfr12 1; (try simp only [show (k37).sz = 2 from rfl, Nat.mul_one, Nat.add_zero] at hf12_1); clear hcl12 hcc12 hfr12 hM12 hoki12 hH12) | ((with_reducible refine gate_store (t := 37) (p := 21) rfl ?_); refine store_event (t := 37) (p := 21) (v := ?vo_w13) (w1 := ((w11.setCell ⟨go10, (x4_1 : Int).toNat * 2, none⟩ ((Value.slice av_ t201.length cv_))).setCell ⟨go10, (x4_1 : Int).toNat * 2 + 1, none⟩ (.int .i64 t204))) ?hg ?ho ?hn ?hr ?_; (case ho => rfl); (case hg => rfl); (case hn => rfl); (case hr => first | (go_simp; done) | (go_simp; rfl)); intro w13 hw; have hg : w11.grownBy w13 (some go10) := (by rw [hw]; exact HP12.2); have hp_ : Kd.S k37 37 w13 w.heap.size (fun _ => True) (.slice (some ⟨go10, 0, none⟩) x3_1.length co10) y205 := (by rw [hw, Ny205.out]; exact HP12.1); clear HP12; have n0_ := Aside0.mk (hp_); have n1_ := Aside0.mk ((by rw [hw]; exact below_set (below_set (HB.out) GB10.out) GB10.out : Below w.heap.size w w13)); clear HO_3; clear HB; clear HO203; have HO_3 := n0_; have HB := n1_; clear n0_ n1_; clear hg hw hp_))
                go_roundg k1
                case measure => have := HK1.out; omega
                case rel => exact ⟨(y205), (wrap64 (x4_1 + 1)), (by first | rfl | (simp; done) | (simp [*]; done)), H', ⟨by have := HK1.out; omega⟩, ⟨by (with_reducible repeat (first | apply Kd.S_alloc | apply Kd.S_drewN | apply Kd.S_drew)); exact HO_3.out⟩, ⟨by repeat (first | (with_reducible first | exact HB.out | apply below_alloc | apply pw_below_drewN | apply below_drew1) | exact HB.out)⟩⟩
              · rw [if_neg c9] at H
                exact absurd H (by simp)
            · rw [if_neg c7] at H
              exact absurd H (by simp)
          · rw [if_neg c6] at H
            have c6b0 : decide (x4_1 < (l0.length : Int)) = false := decide_eq_false c6
            clear c6
            obtain rfl := Option.some.inj H
            go_wp2
            go_ret
            exact ⟨_, by first | rfl | (simp [errW_none, errW_some] <;> rfl) | (simp [*, errW_none, errW_some] <;> rfl), by (with_reducible repeat (first | apply Kd.S_alloc | apply Kd.S_drewN | apply Kd.S_drew)); exact HO_3.out, by repeat (first | (with_reducible first | exact HB.out | apply below_alloc | apply pw_below_drewN | apply below_drew1) | exact HB.out)⟩
    · rw [if_neg c3] at H
      exact absurd H (by simp)
  · rw [if_neg c2] at H
    exact absurd H (by simp)

/-! a row of one's own between two block numbers -/
def Own {α : Type} (d : Kd α) (e : Nat) (W : World) (B a b : Nat) (v : Value) (xs : List α) : Prop := d.R e W B (fun k => a ≤ k ∧ k < b) v xs
section
variable {α : Type} {d : Kd α} {e : Nat} {W W' w0 : World} {B a b n c : Nat} {v : Value} {A : Option Addr} {xs ys : List α} {S : Nat → Prop}
theorem Own.make (h : d.R e W' W.heap.size (fun _ => True) v xs) (hB : B ≤ W.heap.size) : Own d e W' B W.heap.size W'.heap.size v xs := Kd.R_lower (Kd.R_mono (Kd.R_bound h) (fun k hk => ⟨hk.2.1, hk.2.2.1⟩)) hB
theorem Own.below (h : Own d e W B a b v xs) (hb : Below W.heap.size W W') : Own d e W' B a b v xs := Kd.R_below h hb
theorem Own.kept (h : Own d e W B a b v xs) (hk : Kept W W' S) (hS : ∀ k, a ≤ k → k < b → ¬ S k) : Own d e W' B a b v xs := Kd.R_kept h hk (fun k hk => hS k hk.1 hk.2)
theorem Own.C (h : Own d e W B a b (.slice A xs.length c) xs) : d.C W A xs.length xs := (Kd.R_reads' h).2.2
theorem Own.cap (h : Own d e W B a b (.slice A n c) xs) : n ≤ c := (Kd.R_reads' h).2.1
/-- What is back from a call that wrote the row. -/
theorem Own.back (hs : d.E = []) (h : Own d e W B a b v xs) (hr : d.R e W' B (fun k => (a ≤ k ∧ k < b) ∨ W.heap.size ≤ k) v ys) : Own d e W' B a b v ys := Kd.R_reok hs hr (fun k hk => h.1 k hk)
theorem Own.len (h : Own d e W B a b (.slice A n c) xs) : n = xs.length := (Kd.R_reads' h).1
end
def OwnS {α : Type} (d : Kd α) (e : Nat) (W : World) (B a b : Nat) (v : Value) (xs : List α) : Prop := Kd.S d e W B (fun k => a ≤ k ∧ k < b) v xs
section
variable {α : Type} {d : Kd α} {e : Nat} {W W' w0 : World} {B a b n c : Nat} {v : Value} {A : Option Addr} {xs ys : List α} {S : Nat → Prop}
theorem OwnS.make (h : Kd.S d e W' W.heap.size (fun _ => True) v xs) (hB : B ≤ W.heap.size) : OwnS d e W' B W.heap.size W'.heap.size v xs := Kd.S_lower (Kd.S_mono (Kd.S_bound h) (fun k hk => ⟨hk.2.1, hk.2.2.1⟩)) hB
theorem OwnS.below (h : OwnS d e W B a b v xs) (hb : Below W.heap.size W W') : OwnS d e W' B a b v xs := Kd.S_below h hb
theorem OwnS.kept (h : OwnS d e W B a b v xs) (hk : Kept W W' S) (hS : ∀ k, a ≤ k → k < b → ¬ S k) : OwnS d e W' B a b v xs := Kd.S_kept h hk (fun k hk => hS k hk.1 hk.2)
theorem OwnS.C (h : OwnS d e W B a b (.slice A xs.length c) xs) : d.C W A xs.length xs := (Kd.S_reads' h).2.2
theorem OwnS.cap (h : OwnS d e W B a b (.slice A n c) xs) : n ≤ c := (Kd.S_reads' h).2.1
theorem OwnS.len (h : OwnS d e W B a b (.slice A n c) xs) : n = xs.length := (Kd.S_reads' h).1
end

/-! the laws' helpers over slices of int -/
def convInt (x : Int) : Int := x
theorem map_convInt (l : List Int) : l.map convInt = l := List.map_id l
theorem szIntS_eq (l : List Int) (left : Int) (h0 : 0 ≤ left) (h1 : left ≤ 1000000000000) (hl : (l.length : Int) ≤ 9223372036854775807) : laws_szIntS.f l left = some (if left - (l.length : Int) < 0 then -1 else left - (l.length : Int)) := by
  unfold laws_szIntS.f
  rw [w64 (by omega) (by omega)]
  split <;> rfl
theorem toIntS_ev (l : List Int) (hl : l.length ≤ 1000000000000) : Ev (fun k => laws_toIntS.f k l) l := by
  unfold laws_toIntS.f
  refine Ev.pos (by omega) (Ev.pos (by simp; omega) ?_)
  have := Ev.over (0 : Int) l (fun k (s : List Int) i => laws_toIntS.l0 k l s i) (fun s rest => s.take (l.length - rest.length) ++ rest) (fun _ s => s.length = l.length) (by
    intro s hs
    refine Ev.succ ?_
    simp only [laws_toIntS.l0]
    refine Ev.eqr (Ev.neg (by omega) (Ev.now _)) ?_
    simp [← hs]) (by
    intro s i rest hs hi hdr ih
    have hrl : rest.length + 1 + i = l.length := by
      have := congrArg List.length hdr
      simp at this; omega
    refine Ev.succ ?_
    simp only [laws_toIntS.l0]
    refine Ev.pos (by omega) (Ev.pos (by omega) (Ev.pos (by omega) ?_))
    rw [w64 (by omega) (by omega)]
    refine Ev.eqr (ih _ (by simpa using hs)) ?_
    have e1 : l.length - rest.length = i + 1 := by omega
    have e2 : l.length - (l.getD i 0 :: rest).length = i := by simp; omega
    rw [e1, e2]
    simp only [Int.toNat_natCast]
    rw [List.take_set, List.take_succ_eq_append_getElem (by omega), List.set_append_right _ _ (by simp; omega)]
    have e3 : i - (s.take i).length = 0 := by simp; omega
    rw [e3]
    simp [rd]) 0 (List.replicate l.length 0) (Nat.zero_le _) (by simp)
  simpa using this
theorem eqIntS_ev (l : List Int) (hl : l.length ≤ 1000000000000000) : Ev (fun k => laws_eqIntS.f k l l) true := by
  unfold laws_eqIntS.f
  refine Ev.pos rfl ?_
  have := Ev.over (0 : Int) l (fun k (_ : Unit) i => laws_eqIntS.l0 k l l i) (fun _ _ => true) (fun _ _ => True) (by
    intro s _
    refine Ev.succ ?_
    simp only [laws_eqIntS.l0]
    exact Ev.neg (by omega) (Ev.now _)) (by
    intro s i rest _ hi _ ih
    refine Ev.succ ?_
    simp only [laws_eqIntS.l0]
    refine Ev.pos (by omega) (Ev.pos (by omega) (Ev.pos (by omega) (Ev.pos (by simp) ?_)))
    rw [w64 (by omega) (by omega)]
    exact ih () trivial) 0 () (Nat.zero_le _) trivial
  simpa using this
theorem IntS_to (l : List Int) (A : Option Addr) (c : Nat) (w : World) (hl : l.length ≤ 1000000000000) (hr : Kd.C (Kd.int .i64) w A l.length l) (hc : l.length ≤ c) :
    Calls Try.prog 27 #[.slice A l.length c] w fun e w' => ∃ v, e = .returned v ∧ Kd.R (Kd.int .i64) 3 w' w.heap.size (fun _ => True) v (l.map convInt) ∧ Below w.heap.size w w' := by
  obtain ⟨k, h⟩ := Ev.rounds (toIntS_ev l hl)
  rw [map_convInt]
  exact (laws_toIntS.calls k A c l _ w hr hc h).mono (fun e w' h => h)
theorem IntS_eq (l : List Int) (A0 A1 : Option Addr) (c0 c1 : Nat) (w : World) (hl : l.length ≤ 1000000000000) (hr0 : Kd.C (Kd.int .i64) w A0 l.length l) (hc0 : l.length ≤ c0) (hr1 : Kd.C (Kd.int .i64) w A1 l.length l) (hc1 : l.length ≤ c1) :
    Calls Try.prog 28 #[.slice A0 l.length c0, .slice A1 l.length c1] w fun e w' => e = .returned (.bool true) ∧ Below w.heap.size w w' := by
  obtain ⟨k, h⟩ := Ev.rounds (eqIntS_ev l (by omega))
  refine (laws_eqIntS.calls k A0 c0 l A1 c1 l true w hr0 hc0 hr1 hc1 h).mono ?_
  rintro e w' ⟨rfl, hd⟩
  exact ⟨rfl, hd.below⟩

/-! the laws' helpers over slices of formulas -/
def convFormula (x : S78) : S37 := ⟨x.f0, x.f1⟩
def isz : List S37 → Int
  | [] => 0
  | x :: xs => (x.f0.length : Int) + isz xs
def FormulaSz (l : List S37) : Int := (l.length : Int) + isz l
theorem isz_nn : ∀ l, 0 ≤ isz l
  | [] => by simp [isz]
  | x :: xs => by have := isz_nn xs; simp only [isz]; omega
theorem isz_get {l : List S37} {x : S37} (h : x ∈ l) : (x.f0.length : Int) ≤ isz l := by
  induction l with
  | nil => simp at h
  | cons y ys ih =>
    have := isz_nn ys
    simp only [isz]
    rcases List.mem_cons.1 h with rfl | h
    · omega
    · have := ih h; omega
theorem FormulaSz_len (l : List S37) : (l.length : Int) ≤ FormulaSz l := by have := isz_nn l; unfold FormulaSz; omega
theorem FormulaSz_nn (l : List S37) : 0 ≤ FormulaSz l := by have := FormulaSz_len l; omega
theorem FormulaSz_get {l : List S37} {x : S37} (h : x ∈ l) : (x.f0.length : Int) ≤ FormulaSz l := by have := isz_get h; unfold FormulaSz; omega
theorem szFormulaS_ev (l : List S78) (left : Int) (h0 : 0 ≤ left) (h1 : left ≤ 1000000000000) (hl : (l.length : Int) ≤ 9223372036854775807) (hw : ∀ x ∈ l, (x.f0.length : Int) ≤ 9223372036854775807) : Ev (fun k => laws_szFormulaS.f k l left) (if left - FormulaSz (l.map convFormula) < 0 then -1 else left - FormulaSz (l.map convFormula)) := by
  unfold laws_szFormulaS.f
  have hn := isz_nn (l.map convFormula)
  rw [w64 (by omega) (by omega)]
  by_cases hb : left - (l.length : Int) < 0
  · refine Ev.eqr (Ev.pos hb (Ev.now _)) ?_
    rw [if_pos (show left - FormulaSz (l.map convFormula) < 0 by unfold FormulaSz; rw [List.length_map]; omega)]
  · refine Ev.neg hb ?_
    have := Ev.over z78 l (fun k (s : Int) i => laws_szFormulaS.l0 k l s i) (fun s rest => if s - isz (rest.map convFormula) < 0 then -1 else s - isz (rest.map convFormula)) (fun _ s => 0 ≤ s ∧ s ≤ 1000000000000) (by
      intro s hs
      refine Ev.succ ?_
      simp only [laws_szFormulaS.l0]
      refine Ev.eqr (Ev.neg (by omega) (Ev.now _)) ?_
      simp only [List.map_nil, isz]
      rw [if_neg (by omega)]; omega) (by
      intro s i rest hs hi hdr ih
      have hm : l.getD i z78 ∈ l := by
        rw [List.getD_eq_getElem?_getD, List.getElem?_eq_getElem hi]; exact List.getElem_mem hi
      have hx := hw _ hm
      refine Ev.succ ?_
      simp only [laws_szFormulaS.l0]
      refine Ev.pos (by omega) (Ev.pos (by omega) ?_)
      show Ev _ _
      have hrd : rd_T78 l (i : Int) = l.getD i z78 := rfl
      rw [hrd]
      generalize l.getD i z78 = x at hx
      have hr := isz_nn (rest.map convFormula)
      have e : laws_szFormula.f x.f0 x.f1 s = some (if s - (x.f0.length : Int) < 0 then -1 else s - (x.f0.length : Int)) := by
        unfold laws_szFormula.f
        rw [szIntS_eq _ _ hs.1 hs.2 hx]
        by_cases h : s - (x.f0.length : Int) < 0
        · simp [if_pos h]
        · simp [if_neg h]
      refine Ev.conb e ?_
      simp only [List.map_cons, isz]
      have hc : (convFormula x).f0 = x.f0 := rfl
      rw [hc]
      by_cases h : s - (x.f0.length : Int) < 0
      · rw [if_pos h, if_pos (show s - ((x.f0.length : Int) + isz (rest.map convFormula)) < 0 by omega)]
        exact Ev.pos (by omega) (Ev.now _)
      · rw [if_neg h]
        refine Ev.neg h ?_
        rw [w64 (by omega) (by omega)]
        refine Ev.eqr (ih _ (by omega)) ?_
        rw [show s - (x.f0.length : Int) - isz (rest.map convFormula) = s - ((x.f0.length : Int) + isz (rest.map convFormula)) by omega]) 0 (left - (l.length : Int)) (Nat.zero_le _) (by omega)
    refine Ev.eqr (by simpa using this) ?_
    unfold FormulaSz
    rw [List.length_map, show left - (l.length : Int) - isz (l.map convFormula) = left - ((l.length : Int) + isz (l.map convFormula)) by omega]
theorem toFormulaS_ev (l : List S78) (hl : FormulaSz (l.map convFormula) ≤ 1000000000000) : Ev (fun k => laws_toFormulaS.f k l) (l.map convFormula) := by
  have hll := FormulaSz_len (l.map convFormula)
  rw [List.length_map] at hll
  unfold laws_toFormulaS.f
  refine Ev.pos (by omega) (Ev.pos (by simp; omega) ?_)
  have := Ev.over z78 l (fun k (s : List S37) i => laws_toFormulaS.l0 k l s i) (fun s rest => s.take (l.length - rest.length) ++ rest.map convFormula) (fun _ s => s.length = l.length) (by
    intro s hs
    refine Ev.succ ?_
    simp only [laws_toFormulaS.l0]
    refine Ev.eqr (Ev.neg (by omega) (Ev.now _)) ?_
    simp [← hs]) (by
    intro s i rest hs hi hdr ih
    have hrl : rest.length + 1 + i = l.length := by
      have := congrArg List.length hdr
      simp at this; omega
    have hm : l.getD i z78 ∈ l := by
      rw [List.getD_eq_getElem?_getD, List.getElem?_eq_getElem hi]; exact List.getElem_mem hi
    have hx : ((rd_T78 l (i : Int)).f0.length : Int) ≤ FormulaSz (l.map convFormula) := FormulaSz_get (List.mem_map_of_mem (f := convFormula) hm)
    refine Ev.succ ?_
    simp only [laws_toFormulaS.l0]
    refine Ev.pos (by omega) (Ev.pos (by omega) (Ev.bind (a := ((rd_T78 l i).f0, (rd_T78 l i).f1)) ?_ (Ev.pos (by omega) ?_)))
    · unfold laws_toFormula.f
      exact Ev.bind (toIntS_ev _ (by omega)) (Ev.now _)
    rw [w64 (by omega) (by omega)]
    refine Ev.eqr (ih _ (by simpa using hs)) ?_
    have e1 : l.length - rest.length = i + 1 := by omega
    have e2 : l.length - (l.getD i z78 :: rest).length = i := by simp; omega
    rw [e1, e2]
    simp only [Int.toNat_natCast, List.map_cons]
    rw [List.take_set, List.take_succ_eq_append_getElem (by omega), List.set_append_right _ _ (by simp; omega)]
    have e3 : i - (s.take i).length = 0 := by simp; omega
    rw [e3]
    simp [convFormula, rd_T78]) 0 (List.replicate l.length z37) (Nat.zero_le _) (by simp)
  simpa using this
theorem eqFormulaS_ev (l : List S37) (hl : FormulaSz l ≤ 1000000000000) : Ev (fun k => laws_eqFormulaS.f k l l) true := by
  have hll := FormulaSz_len l
  unfold laws_eqFormulaS.f
  refine Ev.pos rfl ?_
  have := Ev.over z37 l (fun k (_ : Unit) i => laws_eqFormulaS.l0 k l l i) (fun _ _ => true) (fun _ _ => True) (by
    intro s _
    refine Ev.succ ?_
    simp only [laws_eqFormulaS.l0]
    exact Ev.neg (by omega) (Ev.now _)) (by
    intro s i rest _ hi _ ih
    have hm : l.getD i z37 ∈ l := by
      rw [List.getD_eq_getElem?_getD, List.getElem?_eq_getElem hi]; exact List.getElem_mem hi
    have hx : ((rd_T37 l (i : Int)).f0.length : Int) ≤ FormulaSz l := FormulaSz_get hm
    refine Ev.succ ?_
    simp only [laws_eqFormulaS.l0]
    refine Ev.pos (by omega) (Ev.pos (by omega) (Ev.pos (by omega) (Ev.bind (a := true) ?_ (Ev.pos rfl ?_))))
    · unfold laws_eqFormula.f
      exact Ev.bind (eqIntS_ev _ (by omega)) (Ev.pos rfl (Ev.pos (by simp) (Ev.now _)))
    rw [w64 (by omega) (by omega)]
    exact ih () trivial) 0 () (Nat.zero_le _) trivial
  simpa using this
theorem FormulaS_sz (l : List S78) (left : Int) (A : Option Addr) (c : Nat) (w : World) (h0 : 0 ≤ left) (h1 : left ≤ 1000000000000) (hl : (l.length : Int) ≤ 9223372036854775807) (hw : ∀ x ∈ l, (x.f0.length : Int) ≤ 9223372036854775807) (hr : Kd.C k78 w A l.length l) (hc : l.length ≤ c) :
    Calls Try.prog 24 #[.slice A l.length c, .int .i64 left] w fun e w' => ∃ r, e = .returned (.int .i64 r) ∧ (r = if left - FormulaSz (l.map convFormula) < 0 then -1 else left - FormulaSz (l.map convFormula)) ∧ Below w.heap.size w w' := by
  obtain ⟨k, h⟩ := Ev.rounds (szFormulaS_ev l left h0 h1 hl hw)
  refine (laws_szFormulaS.calls k A c l left _ w hr hc h).mono ?_
  rintro e w' ⟨rfl, hd⟩
  exact ⟨_, rfl, rfl, hd⟩
theorem FormulaS_to (l : List S78) (A : Option Addr) (c : Nat) (w : World) (hl : FormulaSz (l.map convFormula) ≤ 1000000000000) (hr : Kd.C k78 w A l.length l) (hc : l.length ≤ c) :
    Calls Try.prog 26 #[.slice A l.length c] w fun e w' => ∃ v, e = .returned v ∧ Kd.S k37 37 w' w.heap.size (fun _ => True) v (l.map convFormula) ∧ Below w.heap.size w w' := by
  obtain ⟨k, h⟩ := Ev.rounds (toFormulaS_ev l hl)
  exact (laws_toFormulaS.calls k A c l _ w hr hc h).mono (fun e w' h => h)
theorem FormulaS_eq (l : List S37) (A0 A1 : Option Addr) (c0 c1 : Nat) (w : World) (hl : FormulaSz l ≤ 1000000000000) (hr0 : Kd.C k37 w A0 l.length l) (hc0 : l.length ≤ c0) (hr1 : Kd.C k37 w A1 l.length l) (hc1 : l.length ≤ c1) :
    Calls Try.prog 29 #[.slice A0 l.length c0, .slice A1 l.length c1] w fun e w' => e = .returned (.bool true) ∧ Below w.heap.size w w' := by
  obtain ⟨k, h⟩ := Ev.rounds (eqFormulaS_ev l hl)
  exact (laws_eqFormulaS.calls k A0 c0 l A1 c1 l true w hr0 hc0 hr1 hc1 h).mono (fun e w' h => h)

/-! mark and held over slices of int -/
def markInt : Nat → Int → List Int
  | 0, _ => []
  | n + 1, a => a :: markInt n (a + 1)
theorem markInt_len : ∀ n a, (markInt n a).length = n
  | 0, _ => rfl
  | n + 1, a => by simp [markInt, markInt_len n]
theorem markInt_get : ∀ (n : Nat) (a : Int) (i : Nat), i < n → (markInt n a).getD i 0 = a + i
  | 0, _, _, h => by omega
  | n + 1, a, 0, _ => by simp [markInt]
  | n + 1, a, i + 1, h => by
    have := markInt_get n (a + 1) i (by omega)
    simp only [markInt, List.getD_cons_succ]
    rw [this]; omega
theorem markIntS_ev (l : List Int) (a : Int) (ha : 0 ≤ a) (ha' : a ≤ 1000000000000000) (hl : l.length ≤ 1000000000000000) : Ev (fun k => laws_markIntS.f k l a) (a + l.length, markInt l.length a) := by
  unfold laws_markIntS.f
  have := Ev.over (0 : Int) l (fun k (s : List Int × Int) i => laws_markIntS.l0 k s.1 s.2 i) (fun s rest => (s.2 + (rest.length : Int), s.1.take (l.length - rest.length) ++ markInt rest.length s.2)) (fun i s => s.1.length = l.length ∧ s.2 = a + i) (by
    intro s hs
    refine Ev.succ ?_
    simp only [laws_markIntS.l0]
    refine Ev.eqr (Ev.neg (by omega) (Ev.now _)) ?_
    simp [← hs.1, markInt]) (by
    intro s i rest hs hi hdr ih
    have hrl : rest.length + 1 + i = l.length := by
      have := congrArg List.length hdr
      simp at this; omega
    refine Ev.succ ?_
    simp only [laws_markIntS.l0]
    refine Ev.pos (by omega) (Ev.pos (by omega) ?_)
    have h2 := hs.2
    rw [w64 (x := s.2 + 1) (by omega) (by omega), w64 (by omega) (by omega)]
    refine Ev.eqr (ih (_, s.2 + 1) ⟨by simpa using hs.1, by simp only []; omega⟩) ?_
    have e1 : l.length - rest.length = i + 1 := by omega
    have e2 : l.length - (l.getD i 0 :: rest).length = i := by simp; omega
    rw [e1, e2]
    simp only [Int.toNat_natCast, List.length_cons, markInt]
    refine Prod.ext (by simp only []; omega) ?_
    simp only []
    rw [List.take_set, List.take_succ_eq_append_getElem (by omega), List.set_append_right _ _ (by simp; omega)]
    have e3 : i - (s.1.take i).length = 0 := by simp; omega
    rw [e3]
    simp) 0 (l, a) (Nat.zero_le _) ⟨rfl, by simp⟩
  simpa using this

theorem markInt_eqlen (l : List Int) (n : Nat) (a : Int) (h : l = markInt n a) : l.length = n := by rw [h, markInt_len]
theorem IntS_mark (l : List Int) (a : Int) (s t : Nat) (v : Value) (w0 w : World) (ha : 0 ≤ a) (ha' : a ≤ 1000000000000) (hl : l.length ≤ 1000000000000) (hB : Below w0.heap.size w0 w) (ho : Own (Kd.int .i64) 3 w w0.heap.size s t v l) :
    Calls Try.prog 31 #[v, .int .i64 a] w fun e w' => ∃ r, e = .returned (.int .i64 r) ∧ r = a + (l.length : Int) ∧ Own (Kd.int .i64) 3 w' w0.heap.size s t v (markInt l.length a) ∧ Below w0.heap.size w0 w' ∧ Kept w w' (fun k => s ≤ k ∧ k < t) := by
  obtain ⟨k, h⟩ := Ev.rounds (markIntS_ev l a ha (by omega) (by omega))
  refine (laws_markIntS.calls k (fun k => s ≤ k ∧ k < t) v l a _ _ w0 w hB ho h).mono ?_
  rintro e w' ⟨rfl, hr, hb, hk⟩
  exact ⟨_, rfl, rfl, Own.back rfl ho hr, hb, hk⟩
theorem heldIntS_ev (n : Nat) (a : Int) (ha : 0 ≤ a) (ha' : a ≤ 1000000000000000) (hl : n ≤ 1000000000000000) : Ev (fun k => laws_heldIntS.f k (markInt n a) a) (a + n) := by
  unfold laws_heldIntS.f
  have := Ev.over (0 : Int) (markInt n a) (fun k (s : Int) i => laws_heldIntS.l0 k (markInt n a) s i) (fun s rest => s + (rest.length : Int)) (fun i s => s = a + i) (by
    intro s hs
    refine Ev.succ ?_
    simp only [laws_heldIntS.l0]
    refine Ev.eqr (Ev.neg (by omega) (Ev.now _)) ?_
    simp) (by
    intro s i rest hs hi hdr ih
    rw [markInt_len] at hi
    have hg : rd (markInt n a) i = a + i := markInt_get n a i hi
    refine Ev.succ ?_
    simp only [laws_heldIntS.l0]
    rw [hg, markInt_len]
    subst hs
    rw [w64 (x := a + i + 1) (by omega) (by omega), w64 (by omega) (by omega)]
    refine Ev.pos (by omega) (Ev.pos (by omega) (Ev.pos rfl ?_))
    refine Ev.eqr (ih _ (by omega)) ?_
    simp only [List.length_cons]; omega) 0 a (Nat.zero_le _) (by simp)
  simpa [markInt_len] using this
theorem IntS_held (n : Nat) (a : Int) (A : Option Addr) (c : Nat) (w : World) (ha : 0 ≤ a) (ha' : a ≤ 1000000000000) (hl : n ≤ 1000000000000) (hr : Kd.C (Kd.int .i64) w A n (markInt n a)) (hc : n ≤ c) :
    Calls Try.prog 32 #[.slice A n c, .int .i64 a] w fun e w' => ∃ r, e = .returned (.int .i64 r) ∧ r = a + (n : Int) ∧ Below w.heap.size w w' := by
  obtain ⟨k, h⟩ := Ev.rounds (heldIntS_ev n a ha (by omega) (by omega))
  have hm := markInt_len n a
  have hr' : Kd.C (Kd.int .i64) w A (markInt n a).length (markInt n a) := by rw [hm]; exact hr
  have := laws_heldIntS.calls k A c (markInt n a) a _ w hr' (by omega) h
  rw [hm] at this
  refine this.mono ?_
  rintro e w' ⟨rfl, hd⟩
  exact ⟨_, rfl, rfl, hd.below⟩

end Go.Proofs.Ytkmganbgnjphfaa.Pure
