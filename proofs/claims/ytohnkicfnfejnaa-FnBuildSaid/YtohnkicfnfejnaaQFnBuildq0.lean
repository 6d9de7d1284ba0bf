/- Lemmas on the printed functions for the law FnBuild. -/
import Derived.Test.YtohnkicfnfejnaaGFnBuildg4
import Derived.Test.YtohnkicfnfejnaaGFnBuildg1
import Derived.Test.YtohnkicfnfejnaaGFnBuildg21
import Derived.Deep.RegionHeld3
import Derived.BigRegion
import Derived.Deep.Slices
import Derived.Laws.CopyOwn
namespace Go.Proofs.Ytohnkicfnfejnaa.Pure
set_option linter.unusedVariables false
set_option linter.unusedSimpArgs false
open Go Go.RowKit Go.Proofs.Ytohnkicfnfejnaa.PFnBuild Go.Proofs.YtohnkicfnfejnaaW.PrintWords Go.Proofs.YtohnkicfnfejnaaW.PrintLast Go.Proofs.YtohnkicfnfejnaaW.PrintMore

/-! words: Ev, wrap64, lists -/
theorem Ev.succ {α : Type} {g : Nat → Option α} {r : α} (h : Ev (fun k => g (k + 1)) r) : Ev g r := Ev.step (fun _ => rfl) h
theorem Ev.pos {α : Type} {c : Prop} [Decidable c] {f g : Nat → Option α} {r : α} (hc : c) (h : Ev f r) : Ev (fun k => if c then f k else g k) r := by
  simp only [if_pos hc]; exact h
theorem Ev.neg {α : Type} {c : Prop} [Decidable c] {f g : Nat → Option α} {r : α} (hc : ¬ c) (h : Ev g r) : Ev (fun k => if c then f k else g k) r := by
  simp only [if_neg hc]; exact h
theorem Ev.uniq {α : Type} {g : Nat → Option α} {r r' : α} (h : Ev g r) (h' : Ev g r') : r = r' := by
  obtain ⟨K, h⟩ := h; obtain ⟨K', h'⟩ := h'
  have a := h (max K K') (Nat.le_max_left _ _)
  have b := h' (max K K') (Nat.le_max_right _ _)
  exact Option.some.inj (a.symm.trans b)
theorem Ev.someb {α β : Type} {a : α} {f : Nat → α → Option β} {r : β} (h : Ev (fun n => f n a) r) : Ev (fun n => (some a).bind (f n)) r := h
theorem Ev.conb {α β : Type} {x : Option α} {a : α} {f : Nat → α → Option β} {r : β} (hx : x = some a) (h : Ev (fun n => f n a) r) : Ev (fun n => x.bind (f n)) r := by subst hx; exact h
theorem Ev.eqr {α : Type} {g : Nat → Option α} {r r' : α} (h : Ev g r) (e : r = r') : Ev g r' := e ▸ h
theorem Ev.eqg {α : Type} {g g' : Nat → Option α} {r : α} (h : Ev g r) (e : g' = g) : Ev g' r := e ▸ h
/-- A loop over the places of a list, from the front. -/
theorem Ev.over {α ρ σ : Type} (d : α) (xs : List α) (L : Nat → σ → Int → Option ρ) (F : σ → List α → ρ) (I : Nat → σ → Prop)
    (hend : ∀ s, I xs.length s → Ev (fun k => L k s (xs.length : Int)) (F s []))
    (hstep : ∀ s (i : Nat) rest, I i s → i < xs.length → xs.drop i = xs.getD i d :: rest → (∀ s', I (i + 1) s' → Ev (fun k => L k s' ((i : Int) + 1)) (F s' rest)) → Ev (fun k => L k s (i : Int)) (F s (xs.getD i d :: rest))) :
    ∀ (i : Nat) (s : σ), i ≤ xs.length → I i s → Ev (fun k => L k s (i : Int)) (F s (xs.drop i)) := by
  intro i s hi hI
  obtain ⟨n, hn⟩ : ∃ n, n = xs.length - i := ⟨_, rfl⟩
  induction n generalizing i s with
  | zero =>
    have e : i = xs.length := by omega
    subst e
    rw [List.drop_length]
    exact hend s hI
  | succ n ih =>
    have hlt : i < xs.length := by omega
    have e : xs.drop i = xs.getD i d :: xs.drop (i + 1) := by
      rw [List.drop_eq_getElem_cons hlt, List.getD_eq_getElem?_getD, List.getElem?_eq_getElem hlt]; rfl
    rw [e]
    refine hstep s i _ hI hlt e (fun s' hs' => ?_)
    have := ih (i + 1) s' (by omega) hs' (by omega)
    simpa using this
theorem w64 {x : Int} (h : -9223372036854775808 ≤ x) (h' : x ≤ 9223372036854775807) : wrap64 x = x := by unfold wrap64; omega
theorem xor_bd (x y : Int) (hx : 0 ≤ x) (hx' : x < 4611686018427387904) (hy : 0 ≤ y) (hy' : y < 4611686018427387904) : 0 ≤ Go.bits .xor .i64 x y := by
  obtain ⟨a, rfl⟩ := Int.eq_ofNat_of_zero_le hx
  obtain ⟨b, rfl⟩ := Int.eq_ofNat_of_zero_le hy
  have ha : a < 2 ^ 62 := by omega
  have hb : b < 2 ^ 62 := by omega
  have hc : a ^^^ b < 2 ^ 62 := Nat.xor_lt_two_pow ha hb
  have ha' : a % 2 ^ IntKind.i64.bits = a := Nat.mod_eq_of_lt (Nat.lt_of_lt_of_le ha (by decide))
  have hb' : b % 2 ^ IntKind.i64.bits = b := Nat.mod_eq_of_lt (Nat.lt_of_lt_of_le hb (by decide))
  have e : Go.bits .xor .i64 (a : Int) (b : Int) = ((a ^^^ b : Nat) : Int) := by
    simp only [Go.bits, BitVec.ofInt_natCast, BitVec.toNat_xor, BitVec.toNat_ofNat, ha', hb']
    rw [Go.IntKind.wrap_i64]; omega
  rw [e]; omega
theorem rd_nat (xs : List Int) (i : Nat) : rd xs (i : Int) = xs.getD i 0 := rfl
theorem mx_le (a b : Int) : a ≤ mx a b ∧ b ≤ mx a b ∧ (mx a b = a ∨ mx a b = b) := by unfold mx; split <;> omega
theorem mn_le (a b : Int) : mn a b ≤ a ∧ mn a b ≤ b ∧ (mn a b = a ∨ mn a b = b) := by unfold mn; split <;> omega
/-- From some number of rounds on there is an answer, and it is such a one. -/
def Evx {α : Type} (g : Nat → Option α) (P : α → Prop) : Prop := ∃ r, Ev g r ∧ P r
theorem Evx.now {α : Type} {P : α → Prop} {r : α} (h : P r) : Evx (fun _ => some r) P := ⟨r, Ev.now r, h⟩
theorem Evx.ev {α : Type} {g : Nat → Option α} {P : α → Prop} {r : α} (h : Ev g r) (hP : P r) : Evx g P := ⟨r, h, hP⟩
theorem Evx.mono {α : Type} {g : Nat → Option α} {P Q : α → Prop} (h : Evx g P) (hPQ : ∀ r, P r → Q r) : Evx g Q := by
  obtain ⟨r, h, hP⟩ := h; exact ⟨r, h, hPQ r hP⟩
theorem Evx.bind {α β : Type} {g : Nat → Option α} {f : Nat → α → Option β} {P : α → Prop} {Q : β → Prop} (h : Evx g P) (k : ∀ a, P a → Evx (fun n => f n a) Q) : Evx (fun n => (g n).bind (f n)) Q := by
  obtain ⟨a, h, hP⟩ := h
  obtain ⟨r, h', hQ⟩ := k a hP
  exact ⟨r, Ev.bind h h', hQ⟩
theorem Evx.succ {α : Type} {g : Nat → Option α} {P : α → Prop} (h : Evx (fun k => g (k + 1)) P) : Evx g P := by
  obtain ⟨r, h, hP⟩ := h; exact ⟨r, Ev.succ h, hP⟩
theorem Evx.pos {α : Type} {c : Prop} [Decidable c] {f g : Nat → Option α} {P : α → Prop} (hc : c) (h : Evx f P) : Evx (fun k => if c then f k else g k) P := by
  simp only [if_pos hc]; exact h
theorem Evx.neg {α : Type} {c : Prop} [Decidable c] {f g : Nat → Option α} {P : α → Prop} (hc : ¬ c) (h : Evx g P) : Evx (fun k => if c then f k else g k) P := by
  simp only [if_neg hc]; exact h
theorem Evx.ite {α : Type} {c : Prop} [Decidable c] {f g : Nat → Option α} {P : α → Prop} (h : c → Evx f P) (h' : ¬ c → Evx g P) : Evx (fun k => if c then f k else g k) P := by
  by_cases hc : c
  · exact Evx.pos hc (h hc)
  · exact Evx.neg hc (h' hc)
theorem Evx.someb {α β : Type} {a : α} {f : Nat → α → Option β} {P : β → Prop} (h : Evx (fun n => f n a) P) : Evx (fun n => (some a).bind (f n)) P := h
theorem Evx.conb {α β : Type} {x : Option α} {a : α} {f : Nat → α → Option β} {P : β → Prop} (hx : x = some a) (h : Evx (fun n => f n a) P) : Evx (fun n => x.bind (f n)) P := by subst hx; exact h
theorem Evx.bind1 {α β : Type} {g : Nat → Option α} {f : Nat → α → Option β} {a : α} {Q : β → Prop} (h : Ev g a) (k : Evx (fun n => f n a) Q) : Evx (fun n => (g n).bind (f n)) Q := by
  obtain ⟨r, h', hQ⟩ := k
  exact ⟨r, Ev.bind h h', hQ⟩
theorem rd_bd {s : List Int} (hs : ∀ x ∈ s, 0 ≤ x ∧ x ≤ 255) (i : Int) : 0 ≤ rd s i ∧ rd s i ≤ 255 := by
  unfold rd
  rw [List.getD_eq_getElem?_getD]
  cases h : s[i.toNat]? with
  | none => simp
  | some v => exact hs v (List.mem_of_getElem? h)
theorem mem_set_of {α : Type} {P : α → Prop} {l : List α} (h : ∀ x ∈ l, P x) (i : Nat) (v : α) (hv : P v) : ∀ x ∈ l.set i v, P x := by
  intro x hx
  rcases List.mem_or_eq_of_mem_set hx with hx | hx
  · exact h x hx
  · exact hx ▸ hv

theorem Ev.upto {ρ σ : Type} (L : Nat → σ → Int → Option ρ) (S : Nat → σ) (n : Nat) (r : ρ) (hend : Ev (fun k => L k (S n) (n : Int)) r)
    (hstep : ∀ i < n, Ev (fun k => L k (S (i + 1)) ((i : Int) + 1)) r → Ev (fun k => L k (S i) (i : Int)) r) : ∀ i ≤ n, Ev (fun k => L k (S i) (i : Int)) r := by
  intro i hi
  obtain ⟨d, hd⟩ : ∃ d, d = n - i := ⟨_, rfl⟩
  induction d generalizing i with
  | zero => obtain rfl : i = n := by omega
            exact hend
  | succ d ih =>
    have := ih (i + 1) (by omega) (by omega)
    refine hstep i (by omega) ?_
    simpa using this

/-! the reference's tones and melodies: valid -/
theorem spec_l6In_eq (a b c : Int) : spec_l6In.f a b c = some (decide (b ≤ a ∧ a ≤ c)) := by
  unfold spec_l6In.f
  by_cases h : a ≥ b
  · rw [if_pos h]; simp [show b ≤ a from h]
  · rw [if_neg h]; simp [show ¬ b ≤ a from h]

/-! a map of the call's own, keyed by ints, told as a function -/
open Go.MapKept Go.ChangeMaps in
def MapFn (w : World) (M : Nat) (F : Int → Option Value) : Prop :=
  ∃ es clock, w.heap[M]? = some (.map es clock) ∧ (es.toList.map (·.key)).Nodup ∧ (∀ e ∈ es.toList, ∃ k, e.key = .int .i64 k ∧ F k = some e.val) ∧ ∀ k v, F k = some v → ∃ e ∈ es.toList, e.key = .int .i64 k ∧ e.val = v
theorem MapFn.made {w : World} {M : Nat} (h : w.heap[M]? = some (.map #[] 0)) : MapFn w M (fun _ => none) := ⟨_, _, h, by simp, by simp, by simp⟩
theorem MapFn.lt {w : World} {M : Nat} {F : Int → Option Value} (h : MapFn w M F) : M < w.heap.size := by
  obtain ⟨es, clock, hb, _⟩ := h; exact blk_lt hb
theorem MapFn.move {w w' : World} {M : Nat} {F : Int → Option Value} (h : MapFn w M F) (hw : w'.heap[M]? = w.heap[M]?) : MapFn w' M F := by
  obtain ⟨es, clock, hb, h⟩ := h; exact ⟨es, clock, hw.trans hb, h⟩
theorem MapFn.look {P : Program} {w : World} {M : Nat} {F : Int → Option Value} (h : MapFn w M F) {t kt e : TypeId} (ht : P.underlying t = some (.map kt e)) (hk : P.underlying kt = some (.int .i64)) {z : Value} (hz : ∀ w, (zeroValue e).run P w = .ok z w) (k : Int) (c : Bool) :
    (Instr.lookup t (.map (some M)) (.int .i64 k) c).run P w = .ok (if c then .tuple #[(F k).getD z, .bool (F k).isSome] else (F k).getD z) w := by
  obtain ⟨es, clock, hb, _, h1, h2⟩ := h
  have hkey : MapKept.IsKey (.int .i64) (.int .i64 k) := by simp [MapKept.IsKey]
  have hks : ∀ x ∈ es.toList, MapKept.IsKey (.int .i64) x.key := fun x hx => by
    obtain ⟨k, hk, _⟩ := h1 x hx
    rw [hk]; simp [MapKept.IsKey]
  rcases MapKept.findNow_spec hkey es.toList 0 hks with ⟨f1, f2⟩ | ⟨j, e0, f1, f2, f3⟩
  · have hF : F k = none := by
      cases hF : F k with
      | none => rfl
      | some v =>
        obtain ⟨x, hx, hx1, _⟩ := h2 k v hF
        exact absurd hx1 (f2 x hx)
    simp [Instr.lookup, run_underlying ht, MapKept.run_getObj_map hb, MapKept.run_checkKey hk hkey, MapKept.run_findKey hk f1, hz, Result.andThen, hF]
  · have hm : e0 ∈ es.toList := List.mem_of_getElem? f2
    obtain ⟨k', hk', hF⟩ := h1 e0 hm
    have e1 : k' = k := by rw [f3] at hk'; cases hk'; rfl
    subst e1
    simp [Instr.lookup, run_underlying ht, MapKept.run_getObj_map hb, MapKept.run_checkKey hk hkey, MapKept.run_findKey hk f1, Result.andThen, hF]
theorem MapFn.put {P : Program} {w : World} {M : Nat} {F : Int → Option Value} (h : MapFn w M F) {t kt e : TypeId} (ht : P.underlying t = some (.map kt e)) (hk : P.underlying kt = some (.int .i64)) (k : Int) (v : Value) :
    ∃ es clock, (Instr.mapUpdate t (.map (some M)) (.int .i64 k) v).run P w = .ok () (ChangeMaps.setBlock w M (.map es clock)) ∧ MapFn (ChangeMaps.setBlock w M (.map es clock)) M (fun j => if j = k then some v else F j) := by
  obtain ⟨es, clock, hb, hn, h1, h2⟩ := h
  have hlt := blk_lt hb
  have hset : ∀ o, (ChangeMaps.setBlock w M o).heap[M]? = some o := fun o => by simp [ChangeMaps.setBlock, hlt]
  have hkey : MapKept.IsKey (.int .i64) (.int .i64 k) := by simp [MapKept.IsKey]
  have hks : ∀ x ∈ es.toList, MapKept.IsKey (.int .i64) x.key := fun x hx => by
    obtain ⟨k, hk, _⟩ := h1 x hx
    rw [hk]; simp [MapKept.IsKey]
  rcases MapKept.findNow_spec hkey es.toList 0 hks with ⟨f1, f2⟩ | ⟨j, e0, f1, f2, f3⟩
  · refine ⟨es.push ⟨.int .i64 k, v, clock⟩, clock + 1, ?_, _, _, hset _, ?_, ?_, ?_⟩
    · simp [Instr.mapUpdate, run_underlying ht, MapKept.run_getObj_map hb, MapKept.run_checkKey hk hkey, MapKept.run_findKey hk f1, MapKept.run_setObj_map _ hb, Result.andThen, ChangeMaps.setBlock]
    · simp only [Array.toList_push, List.map_append, List.map_cons, List.map_nil]
      rw [List.nodup_append]
      refine ⟨hn, by simp, ?_⟩
      intro a ha b hb'
      obtain ⟨x, hx, rfl⟩ := List.mem_map.1 ha
      rw [List.mem_singleton.1 hb']
      exact f2 x hx
    · intro x hx
      simp only [Array.toList_push, List.mem_append, List.mem_singleton] at hx
      rcases hx with hx | rfl
      · obtain ⟨k', hk', hF⟩ := h1 x hx
        refine ⟨k', hk', ?_⟩
        have : k' ≠ k := fun e => f2 x hx (by rw [hk', e])
        show (if k' = k then _ else _) = _
        rw [if_neg this]; exact hF
      · exact ⟨k, rfl, if_pos rfl⟩
    · intro k' v' hF
      replace hF : (if k' = k then some v else F k') = some v' := hF
      simp only [Array.toList_push, List.mem_append, List.mem_singleton]
      by_cases e : k' = k
      · subst e
        rw [if_pos rfl] at hF
        cases hF
        exact ⟨_, .inr rfl, rfl, rfl⟩
      · rw [if_neg e] at hF
        obtain ⟨x, hx, hx1⟩ := h2 k' v' hF
        exact ⟨x, .inl hx, hx1⟩
  · have hm : e0 ∈ es.toList := List.mem_of_getElem? f2
    have hjl := (List.getElem?_eq_some_iff.1 f2).1
    have hje : es[j]? = some e0 := by simpa using f2
    have hmod : (es.modify j fun e => { e with key := .int .i64 k, val := v }).toList = es.toList.set j { e0 with key := .int .i64 k, val := v } := by
      apply List.ext_getElem?
      intro i
      rw [Array.getElem?_toList, Array.getElem?_modify, List.getElem?_set]
      by_cases e : j = i
      · subst e
        rw [if_pos rfl, if_pos rfl, hje, if_pos hjl]; rfl
      · rw [if_neg e, if_neg e, Array.getElem?_toList]
    refine ⟨es.modify j fun e => { e with key := .int .i64 k, val := v }, clock, ?_, _, _, hset _, ?_, ?_, ?_⟩
    · simp [Instr.mapUpdate, run_underlying ht, MapKept.run_getObj_map hb, MapKept.run_checkKey hk hkey, MapKept.run_findKey hk f1, MapKept.run_setObj_map _ hb, hje, f3, MapKept.run_keyThatStays hkey, Result.andThen, ChangeMaps.setBlock]
    · rw [hmod, List.map_set]
      have : (es.toList.map (·.key)).set j (.int .i64 k) = es.toList.map (·.key) := by
        apply List.ext_getElem?
        intro i
        rw [List.getElem?_set]
        by_cases e : j = i
        · subst e
          rw [if_pos rfl, List.length_map, if_pos hjl, List.getElem?_map, f2]
          simp [f3]
        · rw [if_neg e]
      rw [this]; exact hn
    · intro x hx
      rw [hmod] at hx
      obtain ⟨i, hi⟩ := List.mem_iff_getElem?.1 hx
      rw [List.getElem?_set] at hi
      by_cases e : j = i
      · subst e
        rw [if_pos rfl, if_pos hjl] at hi
        cases hi
        exact ⟨k, rfl, if_pos rfl⟩
      · rw [if_neg e] at hi
        obtain ⟨k', hk', hF⟩ := h1 x (List.mem_of_getElem? hi)
        refine ⟨k', hk', ?_⟩
        have : k' ≠ k := by
          rintro rfl
          have hnn := List.nodup_iff_pairwise_ne.1 hn
          have a1 : (es.toList.map (·.key))[i]? = some (.int .i64 k') := by rw [List.getElem?_map, hi]; simp [hk']
          have a2 : (es.toList.map (·.key))[j]? = some (.int .i64 k') := by rw [List.getElem?_map, f2]; simp [f3]
          obtain ⟨i1, i2⟩ := List.getElem?_eq_some_iff.1 a1
          obtain ⟨j1, j2⟩ := List.getElem?_eq_some_iff.1 a2
          exact e ((List.getElem_inj hn).1 (j2.trans i2.symm))
        show (if k' = k then _ else _) = _
        rw [if_neg this]; exact hF
    · intro k' v' hF
      replace hF : (if k' = k then some v else F k') = some v' := hF
      rw [hmod]
      by_cases e : k' = k
      · subst e
        rw [if_pos rfl] at hF
        cases hF
        exact ⟨_, List.mem_iff_getElem?.2 ⟨j, by rw [List.getElem?_set, if_pos rfl, if_pos hjl]⟩, rfl, rfl⟩
      · rw [if_neg e] at hF
        obtain ⟨x, hx, hx1, hx2⟩ := h2 k' v' hF
        obtain ⟨i, hi⟩ := List.mem_iff_getElem?.1 hx
        have hji : j ≠ i := by
          rintro rfl
          rw [f2] at hi; cases hi
          rw [f3] at hx1; cases hx1; exact e rfl
        exact ⟨x, List.mem_iff_getElem?.2 ⟨i, by rw [List.getElem?_set, if_neg hji]; exact hi⟩, hx1, hx2⟩
theorem below_setBlock {w W : World} {B M : Nat} {o : Obj} (h : Below B w W) (hM : B ≤ M) : Below B w (ChangeMaps.setBlock W M o) :=
  h.trans ⟨rfl, rfl, rfl, by simp [ChangeMaps.setBlock], fun k hk => by simp [ChangeMaps.setBlock, show M ≠ k by omega]⟩
theorem kept_setBlock {w W : World} {S : Nat → Prop} {M : Nat} {o : Obj} (h : Kept w W S) (hM : S M ∨ w.heap.size ≤ M) : Kept w (ChangeMaps.setBlock W M o) S :=
  h.then_ (S2 := fun k => k = M) ⟨by simp [ChangeMaps.setBlock], fun i _ hn => by simp [ChangeMaps.setBlock, show M ≠ i from fun e => hn e.symm]⟩ (fun k hk => by rw [hk]; exact hM)
theorem blk_setBlock {w : World} {g M : Nat} {o o' : Obj} (h : w.heap[g]? = some o) (hne : g ≠ M) : (ChangeMaps.setBlock w M o').heap[g]? = some o := by
  simp [ChangeMaps.setBlock, show M ≠ g from fun e => hne e.symm, h]

end Go.Proofs.Ytohnkicfnfejnaa.Pure
