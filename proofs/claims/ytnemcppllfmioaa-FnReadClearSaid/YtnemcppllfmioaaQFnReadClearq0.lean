/- Lemmas on the printed functions for the law FnReadClear. -/
import Derived.Test.YtnemcppllfmioaaGFnReadClearg12
import Derived.Test.YtnemcppllfmioaaGFnReadClearg9
import Derived.Test.YtnemcppllfmioaaGFnReadClearg4
import Derived.Test.YtnemcppllfmioaaGFnReadClearg13
import Derived.Deep.RegionHeld3
import Derived.BigRegion
import Derived.Deep.Slices
import Derived.Laws.CopyOwn
namespace Go.Proofs.Ytnemcppllfmioaa.Pure
set_option linter.unusedVariables false
set_option linter.unusedSimpArgs false
open Go Go.RowKit Go.Proofs.Ytnemcppllfmioaa.PFnReadClear Go.Proofs.YtnemcppllfmioaaW.PrintWords Go.Proofs.YtnemcppllfmioaaW.PrintLast Go.Proofs.YtnemcppllfmioaaW.PrintMore

/-! words: Ev, wrap64, lists -/
theorem Ev.succ {α : Type} {g : Nat → Option α} {r : α} (h : Ev (fun k => g (k + 1)) r) : Ev g r := Ev.step (fun _ => rfl) h
theorem Ev.pos {α : Type} {c : Prop} [Decidable c] {f g : Nat → Option α} {r : α} (hc : c) (h : Ev f r) : Ev (fun k => if c then f k else g k) r := by
  simp only [if_pos hc]; exact h
theorem Ev.neg {α : Type} {c : Prop} [Decidable c] {f g : Nat → Option α} {r : α} (hc : ¬ c) (h : Ev g r) : Ev (fun k => if c then f k else g k) r := by
  simp only [if_neg hc]; exact h
theorem Ev.uniq {α : Type} {g : Nat → Option α} {r r' : α} (h : Ev g r) (h' : Ev g r') : r = r' := by
  obtain ⟨K, h⟩ := h; obtain ⟨K', h'⟩ := h'
  have a := h (max K K') (Nat.le_max_left _ _)
  have b := h' (max K K') (Nat.le_max_right _ _)
  exact Option.some.inj (a.symm.trans b)
theorem Ev.someb {α β : Type} {a : α} {f : Nat → α → Option β} {r : β} (h : Ev (fun n => f n a) r) : Ev (fun n => (some a).bind (f n)) r := h
theorem Ev.conb {α β : Type} {x : Option α} {a : α} {f : Nat → α → Option β} {r : β} (hx : x = some a) (h : Ev (fun n => f n a) r) : Ev (fun n => x.bind (f n)) r := by subst hx; exact h
theorem Ev.eqr {α : Type} {g : Nat → Option α} {r r' : α} (h : Ev g r) (e : r = r') : Ev g r' := e ▸ h
theorem Ev.eqg {α : Type} {g g' : Nat → Option α} {r : α} (h : Ev g r) (e : g' = g) : Ev g' r := e ▸ h
/-- A loop over the places of a list, from the front. -/
theorem Ev.over {α ρ σ : Type} (d : α) (xs : List α) (L : Nat → σ → Int → Option ρ) (F : σ → List α → ρ) (I : Nat → σ → Prop)
    (hend : ∀ s, I xs.length s → Ev (fun k => L k s (xs.length : Int)) (F s []))
    (hstep : ∀ s (i : Nat) rest, I i s → i < xs.length → xs.drop i = xs.getD i d :: rest → (∀ s', I (i + 1) s' → Ev (fun k => L k s' ((i : Int) + 1)) (F s' rest)) → Ev (fun k => L k s (i : Int)) (F s (xs.getD i d :: rest))) :
    ∀ (i : Nat) (s : σ), i ≤ xs.length → I i s → Ev (fun k => L k s (i : Int)) (F s (xs.drop i)) := by
  intro i s hi hI
  obtain ⟨n, hn⟩ : ∃ n, n = xs.length - i := ⟨_, rfl⟩
  induction n generalizing i s with
  | zero =>
    have e : i = xs.length := by omega
    subst e
    rw [List.drop_length]
    exact hend s hI
  | succ n ih =>
    have hlt : i < xs.length := by omega
    have e : xs.drop i = xs.getD i d :: xs.drop (i + 1) := by
      rw [List.drop_eq_getElem_cons hlt, List.getD_eq_getElem?_getD, List.getElem?_eq_getElem hlt]; rfl
    rw [e]
    refine hstep s i _ hI hlt e (fun s' hs' => ?_)
    have := ih (i + 1) s' (by omega) hs' (by omega)
    simpa using this
theorem w64 {x : Int} (h : -9223372036854775808 ≤ x) (h' : x ≤ 9223372036854775807) : wrap64 x = x := by unfold wrap64; omega
theorem xor_bd (x y : Int) (hx : 0 ≤ x) (hx' : x < 4611686018427387904) (hy : 0 ≤ y) (hy' : y < 4611686018427387904) : 0 ≤ Go.bits .xor .i64 x y := by
  obtain ⟨a, rfl⟩ := Int.eq_ofNat_of_zero_le hx
  obtain ⟨b, rfl⟩ := Int.eq_ofNat_of_zero_le hy
  have ha : a < 2 ^ 62 := by omega
  have hb : b < 2 ^ 62 := by omega
  have hc : a ^^^ b < 2 ^ 62 := Nat.xor_lt_two_pow ha hb
  have ha' : a % 2 ^ IntKind.i64.bits = a := Nat.mod_eq_of_lt (Nat.lt_of_lt_of_le ha (by decide))
  have hb' : b % 2 ^ IntKind.i64.bits = b := Nat.mod_eq_of_lt (Nat.lt_of_lt_of_le hb (by decide))
  have e : Go.bits .xor .i64 (a : Int) (b : Int) = ((a ^^^ b : Nat) : Int) := by
    simp only [Go.bits, BitVec.ofInt_natCast, BitVec.toNat_xor, BitVec.toNat_ofNat, ha', hb']
    rw [Go.IntKind.wrap_i64]; omega
  rw [e]; omega
theorem rd_nat (xs : List Int) (i : Nat) : rd xs (i : Int) = xs.getD i 0 := rfl
theorem mx_le (a b : Int) : a ≤ mx a b ∧ b ≤ mx a b ∧ (mx a b = a ∨ mx a b = b) := by unfold mx; split <;> omega
theorem mn_le (a b : Int) : mn a b ≤ a ∧ mn a b ≤ b ∧ (mn a b = a ∨ mn a b = b) := by unfold mn; split <;> omega
/-- From some number of rounds on there is an answer, and it is such a one. -/
def Evx {α : Type} (g : Nat → Option α) (P : α → Prop) : Prop := ∃ r, Ev g r ∧ P r
theorem Evx.now {α : Type} {P : α → Prop} {r : α} (h : P r) : Evx (fun _ => some r) P := ⟨r, Ev.now r, h⟩
theorem Evx.ev {α : Type} {g : Nat → Option α} {P : α → Prop} {r : α} (h : Ev g r) (hP : P r) : Evx g P := ⟨r, h, hP⟩
theorem Evx.mono {α : Type} {g : Nat → Option α} {P Q : α → Prop} (h : Evx g P) (hPQ : ∀ r, P r → Q r) : Evx g Q := by
  obtain ⟨r, h, hP⟩ := h; exact ⟨r, h, hPQ r hP⟩
theorem Evx.bind {α β : Type} {g : Nat → Option α} {f : Nat → α → Option β} {P : α → Prop} {Q : β → Prop} (h : Evx g P) (k : ∀ a, P a → Evx (fun n => f n a) Q) : Evx (fun n => (g n).bind (f n)) Q := by
  obtain ⟨a, h, hP⟩ := h
  obtain ⟨r, h', hQ⟩ := k a hP
  exact ⟨r, Ev.bind h h', hQ⟩
theorem Evx.succ {α : Type} {g : Nat → Option α} {P : α → Prop} (h : Evx (fun k => g (k + 1)) P) : Evx g P := by
  obtain ⟨r, h, hP⟩ := h; exact ⟨r, Ev.succ h, hP⟩
theorem Evx.pos {α : Type} {c : Prop} [Decidable c] {f g : Nat → Option α} {P : α → Prop} (hc : c) (h : Evx f P) : Evx (fun k => if c then f k else g k) P := by
  simp only [if_pos hc]; exact h
theorem Evx.neg {α : Type} {c : Prop} [Decidable c] {f g : Nat → Option α} {P : α → Prop} (hc : ¬ c) (h : Evx g P) : Evx (fun k => if c then f k else g k) P := by
  simp only [if_neg hc]; exact h
theorem Evx.ite {α : Type} {c : Prop} [Decidable c] {f g : Nat → Option α} {P : α → Prop} (h : c → Evx f P) (h' : ¬ c → Evx g P) : Evx (fun k => if c then f k else g k) P := by
  by_cases hc : c
  · exact Evx.pos hc (h hc)
  · exact Evx.neg hc (h' hc)
theorem Evx.someb {α β : Type} {a : α} {f : Nat → α → Option β} {P : β → Prop} (h : Evx (fun n => f n a) P) : Evx (fun n => (some a).bind (f n)) P := h
theorem Evx.conb {α β : Type} {x : Option α} {a : α} {f : Nat → α → Option β} {P : β → Prop} (hx : x = some a) (h : Evx (fun n => f n a) P) : Evx (fun n => x.bind (f n)) P := by subst hx; exact h
theorem Evx.bind1 {α β : Type} {g : Nat → Option α} {f : Nat → α → Option β} {a : α} {Q : β → Prop} (h : Ev g a) (k : Evx (fun n => f n a) Q) : Evx (fun n => (g n).bind (f n)) Q := by
  obtain ⟨r, h', hQ⟩ := k
  exact ⟨r, Ev.bind h h', hQ⟩
theorem rd_bd {s : List Int} (hs : ∀ x ∈ s, 0 ≤ x ∧ x ≤ 255) (i : Int) : 0 ≤ rd s i ∧ rd s i ≤ 255 := by
  unfold rd
  rw [List.getD_eq_getElem?_getD]
  cases h : s[i.toNat]? with
  | none => simp
  | some v => exact hs v (List.mem_of_getElem? h)
theorem mem_set_of {α : Type} {P : α → Prop} {l : List α} (h : ∀ x ∈ l, P x) (i : Nat) (v : α) (hv : P v) : ∀ x ∈ l.set i v, P x := by
  intro x hx
  rcases List.mem_or_eq_of_mem_set hx with hx | hx
  · exact h x hx
  · exact hx ▸ hv

theorem Ev.upto {ρ σ : Type} (L : Nat → σ → Int → Option ρ) (S : Nat → σ) (n : Nat) (r : ρ) (hend : Ev (fun k => L k (S n) (n : Int)) r)
    (hstep : ∀ i < n, Ev (fun k => L k (S (i + 1)) ((i : Int) + 1)) r → Ev (fun k => L k (S i) (i : Int)) r) : ∀ i ≤ n, Ev (fun k => L k (S i) (i : Int)) r := by
  intro i hi
  obtain ⟨d, hd⟩ : ∃ d, d = n - i := ⟨_, rfl⟩
  induction d generalizing i with
  | zero => obtain rfl : i = n := by omega
            exact hend
  | succ d ih =>
    have := ih (i + 1) (by omega) (by omega)
    refine hstep i (by omega) ?_
    simpa using this

/-! the reference's tones and melodies: valid -/
theorem spec_l6In_eq (a b c : Int) : spec_l6In.f a b c = some (decide (b ≤ a ∧ a ≤ c)) := by
  unfold spec_l6In.f
  by_cases h : a ≥ b
  · rw [if_pos h]; simp [show b ≤ a from h]
  · rw [if_neg h]; simp [show ¬ b ≤ a from h]

/-! a map of the call's own, keyed by ints, told as a function -/
open Go.MapKept Go.ChangeMaps in
def MapFn (w : World) (M : Nat) (F : Int → Option Value) : Prop :=
  ∃ es clock, w.heap[M]? = some (.map es clock) ∧ (es.toList.map (·.key)).Nodup ∧ (∀ e ∈ es.toList, ∃ k, e.key = .int .i64 k ∧ F k = some e.val) ∧ ∀ k v, F k = some v → ∃ e ∈ es.toList, e.key = .int .i64 k ∧ e.val = v
theorem MapFn.made {w : World} {M : Nat} (h : w.heap[M]? = some (.map #[] 0)) : MapFn w M (fun _ => none) := ⟨_, _, h, by simp, by simp, by simp⟩
theorem MapFn.lt {w : World} {M : Nat} {F : Int → Option Value} (h : MapFn w M F) : M < w.heap.size := by
  obtain ⟨es, clock, hb, _⟩ := h; exact blk_lt hb
theorem MapFn.move {w w' : World} {M : Nat} {F : Int → Option Value} (h : MapFn w M F) (hw : w'.heap[M]? = w.heap[M]?) : MapFn w' M F := by
  obtain ⟨es, clock, hb, h⟩ := h; exact ⟨es, clock, hw.trans hb, h⟩
theorem MapFn.look {P : Program} {w : World} {M : Nat} {F : Int → Option Value} (h : MapFn w M F) {t kt e : TypeId} (ht : P.underlying t = some (.map kt e)) (hk : P.underlying kt = some (.int .i64)) {z : Value} (hz : ∀ w, (zeroValue e).run P w = .ok z w) (k : Int) (c : Bool) :
    (Instr.lookup t (.map (some M)) (.int .i64 k) c).run P w = .ok (if c then .tuple #[(F k).getD z, .bool (F k).isSome] else (F k).getD z) w := by
  obtain ⟨es, clock, hb, _, h1, h2⟩ := h
  have hkey : MapKept.IsKey (.int .i64) (.int .i64 k) := by simp [MapKept.IsKey]
  have hks : ∀ x ∈ es.toList, MapKept.IsKey (.int .i64) x.key := fun x hx => by
    obtain ⟨k, hk, _⟩ := h1 x hx
    rw [hk]; simp [MapKept.IsKey]
  rcases MapKept.findNow_spec hkey es.toList 0 hks with ⟨f1, f2⟩ | ⟨j, e0, f1, f2, f3⟩
  · have hF : F k = none := by
      cases hF : F k with
      | none => rfl
      | some v =>
        obtain ⟨x, hx, hx1, _⟩ := h2 k v hF
        exact absurd hx1 (f2 x hx)
    simp [Instr.lookup, run_underlying ht, MapKept.run_getObj_map hb, MapKept.run_checkKey hk hkey, MapKept.run_findKey hk f1, hz, Result.andThen, hF]
  · have hm : e0 ∈ es.toList := List.mem_of_getElem? f2
    obtain ⟨k', hk', hF⟩ := h1 e0 hm
    have e1 : k' = k := by rw [f3] at hk'; cases hk'; rfl
    subst e1
    simp [Instr.lookup, run_underlying ht, MapKept.run_getObj_map hb, MapKept.run_checkKey hk hkey, MapKept.run_findKey hk f1, Result.andThen, hF]
theorem MapFn.put {P : Program} {w : World} {M : Nat} {F : Int → Option Value} (h : MapFn w M F) {t kt e : TypeId} (ht : P.underlying t = some (.map kt e)) (hk : P.underlying kt = some (.int .i64)) (k : Int) (v : Value) :
    ∃ es clock, (Instr.mapUpdate t (.map (some M)) (.int .i64 k) v).run P w = .ok () (ChangeMaps.setBlock w M (.map es clock)) ∧ MapFn (ChangeMaps.setBlock w M (.map es clock)) M (fun j => if j = k then some v else F j) := by
  obtain ⟨es, clock, hb, hn, h1, h2⟩ := h
  have hlt := blk_lt hb
  have hset : ∀ o, (ChangeMaps.setBlock w M o).heap[M]? = some o := fun o => by simp [ChangeMaps.setBlock, hlt]
  have hkey : MapKept.IsKey (.int .i64) (.int .i64 k) := by simp [MapKept.IsKey]
  have hks : ∀ x ∈ es.toList, MapKept.IsKey (.int .i64) x.key := fun x hx => by
    obtain ⟨k, hk, _⟩ := h1 x hx
    rw [hk]; simp [MapKept.IsKey]
  rcases MapKept.findNow_spec hkey es.toList 0 hks with ⟨f1, f2⟩ | ⟨j, e0, f1, f2, f3⟩
  · refine ⟨es.push ⟨.int .i64 k, v, clock⟩, clock + 1, ?_, _, _, hset _, ?_, ?_, ?_⟩
    · simp [Instr.mapUpdate, run_underlying ht, MapKept.run_getObj_map hb, MapKept.run_checkKey hk hkey, MapKept.run_findKey hk f1, MapKept.run_setObj_map _ hb, Result.andThen, ChangeMaps.setBlock]
    · simp only [Array.toList_push, List.map_append, List.map_cons, List.map_nil]
      rw [List.nodup_append]
      refine ⟨hn, by simp, ?_⟩
      intro a ha b hb'
      obtain ⟨x, hx, rfl⟩ := List.mem_map.1 ha
      rw [List.mem_singleton.1 hb']
      exact f2 x hx
    · intro x hx
      simp only [Array.toList_push, List.mem_append, List.mem_singleton] at hx
      rcases hx with hx | rfl
      · obtain ⟨k', hk', hF⟩ := h1 x hx
        refine ⟨k', hk', ?_⟩
        have : k' ≠ k := fun e => f2 x hx (by rw [hk', e])
        show (if k' = k then _ else _) = _
        rw [if_neg this]; exact hF
      · exact ⟨k, rfl, if_pos rfl⟩
    · intro k' v' hF
      replace hF : (if k' = k then some v else F k') = some v' := hF
      simp only [Array.toList_push, List.mem_append, List.mem_singleton]
      by_cases e : k' = k
      · subst e
        rw [if_pos rfl] at hF
        cases hF
        exact ⟨_, .inr rfl, rfl, rfl⟩
      · rw [if_neg e] at hF
        obtain ⟨x, hx, hx1⟩ := h2 k' v' hF
        exact ⟨x, .inl hx, hx1⟩
  · have hm : e0 ∈ es.toList := List.mem_of_getElem? f2
    have hjl := (List.getElem?_eq_some_iff.1 f2).1
    have hje : es[j]? = some e0 := by simpa using f2
    have hmod : (es.modify j fun e => { e with key := .int .i64 k, val := v }).toList = es.toList.set j { e0 with key := .int .i64 k, val := v } := by
      apply List.ext_getElem?
      intro i
      rw [Array.getElem?_toList, Array.getElem?_modify, List.getElem?_set]
      by_cases e : j = i
      · subst e
        rw [if_pos rfl, if_pos rfl, hje, if_pos hjl]; rfl
      · rw [if_neg e, if_neg e, Array.getElem?_toList]
    refine ⟨es.modify j fun e => { e with key := .int .i64 k, val := v }, clock, ?_, _, _, hset _, ?_, ?_, ?_⟩
    · simp [Instr.mapUpdate, run_underlying ht, MapKept.run_getObj_map hb, MapKept.run_checkKey hk hkey, MapKept.run_findKey hk f1, MapKept.run_setObj_map _ hb, hje, f3, MapKept.run_keyThatStays hkey, Result.andThen, ChangeMaps.setBlock]
    · rw [hmod, List.map_set]
      have : (es.toList.map (·.key)).set j (.int .i64 k) = es.toList.map (·.key) := by
        apply List.ext_getElem?
        intro i
        rw [List.getElem?_set]
        by_cases e : j = i
        · subst e
          rw [if_pos rfl, List.length_map, if_pos hjl, List.getElem?_map, f2]
          simp [f3]
        · rw [if_neg e]
      rw [this]; exact hn
    · intro x hx
      rw [hmod] at hx
      obtain ⟨i, hi⟩ := List.mem_iff_getElem?.1 hx
      rw [List.getElem?_set] at hi
      by_cases e : j = i
      · subst e
        rw [if_pos rfl, if_pos hjl] at hi
        cases hi
        exact ⟨k, rfl, if_pos rfl⟩
      · rw [if_neg e] at hi
        obtain ⟨k', hk', hF⟩ := h1 x (List.mem_of_getElem? hi)
        refine ⟨k', hk', ?_⟩
        have : k' ≠ k := by
          rintro rfl
          have hnn := List.nodup_iff_pairwise_ne.1 hn
          have a1 : (es.toList.map (·.key))[i]? = some (.int .i64 k') := by rw [List.getElem?_map, hi]; simp [hk']
          have a2 : (es.toList.map (·.key))[j]? = some (.int .i64 k') := by rw [List.getElem?_map, f2]; simp [f3]
          obtain ⟨i1, i2⟩ := List.getElem?_eq_some_iff.1 a1
          obtain ⟨j1, j2⟩ := List.getElem?_eq_some_iff.1 a2
          exact e ((List.getElem_inj hn).1 (j2.trans i2.symm))
        show (if k' = k then _ else _) = _
        rw [if_neg this]; exact hF
    · intro k' v' hF
      replace hF : (if k' = k then some v else F k') = some v' := hF
      rw [hmod]
      by_cases e : k' = k
      · subst e
        rw [if_pos rfl] at hF
        cases hF
        exact ⟨_, List.mem_iff_getElem?.2 ⟨j, by rw [List.getElem?_set, if_pos rfl, if_pos hjl]⟩, rfl, rfl⟩
      · rw [if_neg e] at hF
        obtain ⟨x, hx, hx1, hx2⟩ := h2 k' v' hF
        obtain ⟨i, hi⟩ := List.mem_iff_getElem?.1 hx
        have hji : j ≠ i := by
          rintro rfl
          rw [f2] at hi; cases hi
          rw [f3] at hx1; cases hx1; exact e rfl
        exact ⟨x, List.mem_iff_getElem?.2 ⟨i, by rw [List.getElem?_set, if_neg hji]; exact hi⟩, hx1, hx2⟩
theorem below_setBlock {w W : World} {B M : Nat} {o : Obj} (h : Below B w W) (hM : B ≤ M) : Below B w (ChangeMaps.setBlock W M o) :=
  h.trans ⟨rfl, rfl, rfl, by simp [ChangeMaps.setBlock], fun k hk => by simp [ChangeMaps.setBlock, show M ≠ k by omega]⟩
theorem kept_setBlock {w W : World} {S : Nat → Prop} {M : Nat} {o : Obj} (h : Kept w W S) (hM : S M ∨ w.heap.size ≤ M) : Kept w (ChangeMaps.setBlock W M o) S :=
  h.then_ (S2 := fun k => k = M) ⟨by simp [ChangeMaps.setBlock], fun i _ hn => by simp [ChangeMaps.setBlock, show M ≠ i from fun e => hn e.symm]⟩ (fun k hk => by rw [hk]; exact hM)
theorem blk_setBlock {w : World} {g M : Nat} {o o' : Obj} (h : w.heap[g]? = some o) (hne : g ≠ M) : (ChangeMaps.setBlock w M o').heap[g]? = some o := by
  simp [ChangeMaps.setBlock, show M ≠ g from fun e => hne e.symm, h]

/-! outcome.with -/
structure OutC where
  f0 : Int
  f1 : Int
  f2 : Int
def outW (o : OutC) (f : S55) (r : OutC) : OutC := if o.f0 > 0 then ⟨wrap64 (o.f0 + r.f0), mn (wrap64 (f.f1 + r.f1)) o.f1, mn (wrap64 (1 + r.f2)) o.f2⟩ else ⟨wrap64 (o.f0 + r.f0), wrap64 (f.f1 + r.f1), wrap64 (1 + r.f2)⟩
def outV (o : OutC) : Value := .agg #[.int .i64 o.f0, .int .i64 o.f1, .int .i64 o.f2]
attribute [local go_sem] max2_int min2_int max_two min_two max_three min_three max_four min_four
theorem first_of {a b : Int} {x : Bool} (h : decide (a < b) = x) : (a < b) = (x = true) := by subst h; simp
set_option maxHeartbeats 4000000 in
set_option maxRecDepth 100000 in
theorem impl_outcome_with_some (a b d fw x y z U V M N : Int) (A : Option Addr) (n c : Nat) (w : World) (h : 0 < a) (hU : IntKind.i64.wrap (fw + y) = U) (hV : IntKind.i64.wrap (1 + z) = V) (b1 b2 : Bool) (h1 : decide (b < U) = b1) (h2 : decide (d < V) = b2) (hM : M = if b1 then b else U) (hN : N = if b2 then d else V) :
    Calls Try.prog 106 #[.agg #[.int .i64 a, .int .i64 b, .int .i64 d], .agg #[.slice A n c, .int .i64 fw], .agg #[.int .i64 x, .int .i64 y, .int .i64 z]] w fun e w' => e = .returned (.agg #[.int .i64 (wrap64 (a + x)), .int .i64 M, .int .i64 N]) ∧ Below w.heap.size w w' := by
  have hu1 := Try.underlying109
  have hu2 := Try.underlying55
  have d1 : decide (0 < a) = true := decide_eq_true h
  have HU := Aside0.mk hU
  have HV := Aside0.mk hV
  clear h hU hV
  cases b1 <;> cases b2
  all_goals
    simp only [Bool.false_eq_true, if_false, if_true] at hM hN
    rw [hM, hN]
    have q1 := first_of h1
    have q2 := first_of h2
    simp only [Bool.false_eq_true, eq_self] at q1 q2
    clear hM hN h1 h2
    go_enter Try.func106, Try.ntmps106
    go_upto_region 1 with (first
      | ((with_reducible refine gate_dst (N := 3) rfl ?_); refine box_event ?hg (N := 3) ?hd (cs := #[.int .i64 a, .int .i64 b, .int .i64 d]) (t := 109) ?hr ?_; (case hd => rfl); (case hg => rfl); (case hr => first | (go_simp; done) | (go_simp; rfl)); intro g3 hg w3 hbox hb; have HB := Aside0.mk hb; have K3 := Aside0.mk hbox; have G3 := Aside0.mk (show w.heap.size ≤ g3 from (by rw [hg]; exact Nat.le_refl _)); clear hg hbox hb)
      | ((with_reducible refine gate_dst (N := 4) rfl ?_); refine box_event ?hg (N := 4) ?hd (cs := #[.slice A n c, .int .i64 fw]) (t := 55) ?hr ?_; (case hd => rfl); (case hg => rfl); (case hr => first | (go_simp; done) | (go_simp; rfl)); intro g4 hg w4 hbox hb; have K3' := Aside0.mk (blk_below K3.out hb); have K4 := Aside0.mk hbox; have HB' := Aside0.mk (below_step HB.out hb); have G4 := Aside0.mk (show w.heap.size ≤ g4 from (by rw [hg]; exact HB.out.size)); clear HB K3; clear hg hbox hb)
      | ((with_reducible refine gate_dst (N := 5) rfl ?_); refine box_event ?hg (N := 5) ?hd (cs := #[.int .i64 x, .int .i64 y, .int .i64 z]) (t := 109) ?hr ?_; (case hd => rfl); (case hg => rfl); (case hr => first | (go_simp; done) | (go_simp; rfl)); intro g5 hg w5 hbox hb; have K3'' := Aside0.mk (blk_below K3'.out hb); have K4' := Aside0.mk (blk_below K4.out hb); have K5 := Aside0.mk hbox; have HB'' := Aside0.mk (below_step HB'.out hb); have G5 := Aside0.mk (show w.heap.size ≤ g5 from (by rw [hg]; exact HB'.out.size)); clear HB' K3' K4; clear hg hbox hb)
      | ((with_reducible refine gate_dst (N := 6) rfl ?_); refine box_event ?hg (N := 6) ?hd (cs := #[.int .i64 0, .int .i64 0, .int .i64 0]) (t := 109) ?hr ?_; (case hd => rfl); (case hg => rfl); (case hr => first | (go_simp; done) | (go_simp; rfl)); intro g6 hg w6 hbox hb; have L3 := Aside0.mk (blk_below K3''.out hb); have L4 := Aside0.mk (blk_below K4'.out hb); have L5 := Aside0.mk (blk_below K5.out hb); have L6 := Aside0.mk hbox; have HB6 := Aside0.mk (below_step HB''.out hb); have G6 := Aside0.mk (show w.heap.size ≤ g6 from (by rw [hg]; exact HB''.out.size)); have N3 := Aside0.mk (show g6 ≠ g3 from (by rw [hg]; exact (Nat.ne_of_lt (blk_lt K3''.out)).symm)); have N4 := Aside0.mk (show g6 ≠ g4 from (by rw [hg]; exact (Nat.ne_of_lt (blk_lt K4'.out)).symm)); have N5 := Aside0.mk (show g6 ≠ g5 from (by rw [hg]; exact (Nat.ne_of_lt (blk_lt K5.out)).symm)); clear HB'' K3'' K4' K5; clear hg hbox hb))
    have c30 : w6.cell? ⟨g3, 0, none⟩ = some (.int .i64 a) := (blk_cell L3.out 0).trans rfl
    have c31 : w6.cell? ⟨g3, 1, none⟩ = some (.int .i64 b) := (blk_cell L3.out 1).trans rfl
    have c32 : w6.cell? ⟨g3, 2, none⟩ = some (.int .i64 d) := (blk_cell L3.out 2).trans rfl
    have c41 : w6.cell? ⟨g4, 1, none⟩ = some (.int .i64 fw) := (blk_cell L4.out 1).trans rfl
    have c50 : w6.cell? ⟨g5, 0, none⟩ = some (.int .i64 x) := (blk_cell L5.out 0).trans rfl
    have c51 : w6.cell? ⟨g5, 1, none⟩ = some (.int .i64 y) := (blk_cell L5.out 1).trans rfl
    have c52 : w6.cell? ⟨g5, 2, none⟩ = some (.int .i64 z) := (blk_cell L5.out 2).trans rfl
    have c60 : w6.cell? ⟨g6, 0, none⟩ = some (.int .i64 0) := (blk_cell L6.out 0).trans rfl
    have c61 : w6.cell? ⟨g6, 1, none⟩ = some (.int .i64 0) := (blk_cell L6.out 1).trans rfl
    have c62 : w6.cell? ⟨g6, 2, none⟩ = some (.int .i64 0) := (blk_cell L6.out 2).trans rfl
    have f60 := blk_frozen L6.out 0
    have f61 := blk_frozen L6.out 1
    have f62 := blk_frozen L6.out 2
    clear L3 L4 L5
    go_quiet (fail)
    rw [HU.out, HV.out]
    go_wp2
    go_quiet (fail)
    go_wp2
    refine bodyPost_ret (results_cell_row rfl _ _ g6 109 #[.int .i64 (wrap64 (a + x)), .int .i64 _, .int .i64 _] (0, 0) _ rfl (blk_put (cs := #[.int .i64 _, .int .i64 _, .int .i64 0]) (blk_put (cs := #[.int .i64 _, .int .i64 0, .int .i64 0]) (blk_put (cs := #[.int .i64 0, .int .i64 0, .int .i64 0]) (blk_drewN L6.out _) 0 _ rfl) 1 _ rfl) 2 _ rfl) Try.underlying109 rfl (by kernel_rfl)) rfl ?_
    exact ⟨rfl, by repeat (first | exact HB6.out | apply pw_below_drewN | refine below_set ?_ G6.out)⟩
set_option maxHeartbeats 4000000 in
set_option maxRecDepth 100000 in
theorem impl_outcome_with_none (a b d fw x y z U V : Int) (A : Option Addr) (n c : Nat) (w : World) (h : ¬ 0 < a) (hU : IntKind.i64.wrap (fw + y) = U) (hV : IntKind.i64.wrap (1 + z) = V) :
    Calls Try.prog 106 #[.agg #[.int .i64 a, .int .i64 b, .int .i64 d], .agg #[.slice A n c, .int .i64 fw], .agg #[.int .i64 x, .int .i64 y, .int .i64 z]] w fun e w' => e = .returned (.agg #[.int .i64 (wrap64 (a + x)), .int .i64 U, .int .i64 V]) ∧ Below w.heap.size w w' := by
  have hu1 := Try.underlying109
  have hu2 := Try.underlying55
  have d1 : decide (0 < a) = false := decide_eq_false h
  have HU := Aside0.mk hU
  have HV := Aside0.mk hV
  clear h hU hV
  go_enter Try.func106, Try.ntmps106
  go_upto_region 1 with (first
    | ((with_reducible refine gate_dst (N := 3) rfl ?_); refine box_event ?hg (N := 3) ?hd (cs := #[.int .i64 a, .int .i64 b, .int .i64 d]) (t := 109) ?hr ?_; (case hd => rfl); (case hg => rfl); (case hr => first | (go_simp; done) | (go_simp; rfl)); intro g3 hg w3 hbox hb; have HB := Aside0.mk hb; have K3 := Aside0.mk hbox; have G3 := Aside0.mk (show w.heap.size ≤ g3 from (by rw [hg]; exact Nat.le_refl _)); clear hg hbox hb)
    | ((with_reducible refine gate_dst (N := 4) rfl ?_); refine box_event ?hg (N := 4) ?hd (cs := #[.slice A n c, .int .i64 fw]) (t := 55) ?hr ?_; (case hd => rfl); (case hg => rfl); (case hr => first | (go_simp; done) | (go_simp; rfl)); intro g4 hg w4 hbox hb; have K3' := Aside0.mk (blk_below K3.out hb); have K4 := Aside0.mk hbox; have HB' := Aside0.mk (below_step HB.out hb); have G4 := Aside0.mk (show w.heap.size ≤ g4 from (by rw [hg]; exact HB.out.size)); clear HB K3; clear hg hbox hb)
    | ((with_reducible refine gate_dst (N := 5) rfl ?_); refine box_event ?hg (N := 5) ?hd (cs := #[.int .i64 x, .int .i64 y, .int .i64 z]) (t := 109) ?hr ?_; (case hd => rfl); (case hg => rfl); (case hr => first | (go_simp; done) | (go_simp; rfl)); intro g5 hg w5 hbox hb; have K3'' := Aside0.mk (blk_below K3'.out hb); have K4' := Aside0.mk (blk_below K4.out hb); have K5 := Aside0.mk hbox; have HB'' := Aside0.mk (below_step HB'.out hb); have G5 := Aside0.mk (show w.heap.size ≤ g5 from (by rw [hg]; exact HB'.out.size)); clear HB' K3' K4; clear hg hbox hb)
    | ((with_reducible refine gate_dst (N := 6) rfl ?_); refine box_event ?hg (N := 6) ?hd (cs := #[.int .i64 0, .int .i64 0, .int .i64 0]) (t := 109) ?hr ?_; (case hd => rfl); (case hg => rfl); (case hr => first | (go_simp; done) | (go_simp; rfl)); intro g6 hg w6 hbox hb; have L3 := Aside0.mk (blk_below K3''.out hb); have L4 := Aside0.mk (blk_below K4'.out hb); have L5 := Aside0.mk (blk_below K5.out hb); have L6 := Aside0.mk hbox; have HB6 := Aside0.mk (below_step HB''.out hb); have G6 := Aside0.mk (show w.heap.size ≤ g6 from (by rw [hg]; exact HB''.out.size)); have N3 := Aside0.mk (show g6 ≠ g3 from (by rw [hg]; exact (Nat.ne_of_lt (blk_lt K3''.out)).symm)); have N4 := Aside0.mk (show g6 ≠ g4 from (by rw [hg]; exact (Nat.ne_of_lt (blk_lt K4'.out)).symm)); have N5 := Aside0.mk (show g6 ≠ g5 from (by rw [hg]; exact (Nat.ne_of_lt (blk_lt K5.out)).symm)); clear HB'' K3'' K4' K5; clear hg hbox hb))
  have c30 : w6.cell? ⟨g3, 0, none⟩ = some (.int .i64 a) := (blk_cell L3.out 0).trans rfl
  have c31 : w6.cell? ⟨g3, 1, none⟩ = some (.int .i64 b) := (blk_cell L3.out 1).trans rfl
  have c32 : w6.cell? ⟨g3, 2, none⟩ = some (.int .i64 d) := (blk_cell L3.out 2).trans rfl
  have c41 : w6.cell? ⟨g4, 1, none⟩ = some (.int .i64 fw) := (blk_cell L4.out 1).trans rfl
  have c50 : w6.cell? ⟨g5, 0, none⟩ = some (.int .i64 x) := (blk_cell L5.out 0).trans rfl
  have c51 : w6.cell? ⟨g5, 1, none⟩ = some (.int .i64 y) := (blk_cell L5.out 1).trans rfl
  have c52 : w6.cell? ⟨g5, 2, none⟩ = some (.int .i64 z) := (blk_cell L5.out 2).trans rfl
  have c60 : w6.cell? ⟨g6, 0, none⟩ = some (.int .i64 0) := (blk_cell L6.out 0).trans rfl
  have c61 : w6.cell? ⟨g6, 1, none⟩ = some (.int .i64 0) := (blk_cell L6.out 1).trans rfl
  have c62 : w6.cell? ⟨g6, 2, none⟩ = some (.int .i64 0) := (blk_cell L6.out 2).trans rfl
  have f60 := blk_frozen L6.out 0
  have f61 := blk_frozen L6.out 1
  have f62 := blk_frozen L6.out 2
  clear L3 L4 L5
  go_quiet (fail)
  rw [HU.out, HV.out]
  go_wp2
  refine bodyPost_ret (results_cell_row rfl _ _ g6 109 #[.int .i64 (wrap64 (a + x)), .int .i64 _, .int .i64 _] (0, 0) _ rfl (blk_put (cs := #[.int .i64 _, .int .i64 _, .int .i64 0]) (blk_put (cs := #[.int .i64 _, .int .i64 0, .int .i64 0]) (blk_put (cs := #[.int .i64 0, .int .i64 0, .int .i64 0]) (blk_drewN L6.out _) 0 _ rfl) 1 _ rfl) 2 _ rfl) Try.underlying109 rfl (by kernel_rfl)) rfl ?_
  exact ⟨rfl, by repeat (first | exact HB6.out | apply pw_below_drewN | refine below_set ?_ G6.out)⟩
theorem impl_outcome_with_calls (o : OutC) (f : S55) (A : Option Addr) (n c : Nat) (r : OutC) (w : World) :
    Calls Try.prog 106 #[.agg #[.int .i64 o.f0, .int .i64 o.f1, .int .i64 o.f2], .agg #[.slice A n c, .int .i64 f.f1], .agg #[.int .i64 r.f0, .int .i64 r.f1, .int .i64 r.f2]] w fun e w' => e = .returned (.agg #[.int .i64 (outW o f r).f0, .int .i64 (outW o f r).f1, .int .i64 (outW o f r).f2]) ∧ Below w.heap.size w w' := by
  unfold outW
  by_cases h : o.f0 > 0
  · rw [if_pos h]
    exact impl_outcome_with_some o.f0 o.f1 o.f2 f.f1 r.f0 r.f1 r.f2 _ _ _ _ A n c w h (i64_w _) (i64_w _) _ _ rfl rfl (by unfold mn; by_cases h : o.f1 < wrap64 (f.f1 + r.f1) <;> simp [h]) (by unfold mn; by_cases h : o.f2 < wrap64 (1 + r.f2) <;> simp [h])
  · rw [if_neg h]
    exact impl_outcome_with_none o.f0 o.f1 o.f2 f.f1 r.f0 r.f1 r.f2 _ _ A n c w h (i64_w _) (i64_w _)

end Go.Proofs.Ytnemcppllfmioaa.Pure
