/- Mp, MpRange, SortK, Sh, Red, Od, So, Ky, Cb, Co -/
import Derived.Test.YthmenclkgngkkaaWWords
import Derived.Maps.Keyed
import Derived.Maps.OwnSet
import Derived.DeepKeys5
import Derived.Maps.RangeWalk
import Derived.Shelf.GgSortFunc.InsertionK
import Derived.Lib.OwnBridge
import Derived.Shelf.SlSortCmp.NoneTotal
import Derived.Shelf.Small.Bits
import Derived.Ground.SlsfProg
import Derived.Ground.NamesProg
import Derived.Test.YthmenclkgngkkaaProg
import Derived.Test.YthmenclkgngkkaaPAx7
import Derived.Test.YthmenclkgngkkaaPAx4
import Derived.Test.YthmenclkgngkkaaFo
section
/- A map by its entries in the order in which they came. -/
namespace Go.Proofs.Ythmenclkgngkkaa.Mp
open Go.RowKit Go.ChangeMaps Go.Maps

structure MapIs (P : Program) (k : TypeId) (w : World) (b : Nat) (m : List (Value × Value)) : Prop where
  ex : ∃ es : Array MapEntry, w.heap[b]? = some (.map es es.size) ∧ es.toList.map (fun e => (e.key, e.val)) = m ∧ ∀ (i : Nat) (e : MapEntry), es[i]? = some e → e.born = i
  keys : ∀ p ∈ m, ∃ l, keyOf P k p.1 = some l
  apart : m.Pairwise (fun p q => p.1 ≠ q.1)

variable {P : Program} {k e t : TypeId} {w : World} {b : Nat} {m : List (Value × Value)}

theorem MapIs.made (w : World) : MapIs P k (w.alloc (.map #[] 0)) w.heap.size [] :=
  ⟨⟨#[], by show (w.heap.push _)[w.heap.size]? = _; simp, rfl, fun i e h => by simp at h⟩, fun p h => by simp at h, List.Pairwise.nil⟩
theorem MapIs.lt (h : MapIs P k w b m) : b < w.heap.size := by
  obtain ⟨es, h, _⟩ := h.ex
  rcases Nat.lt_or_ge b w.heap.size with h' | h'
  · exact h'
  · rw [Array.getElem?_eq_none h'] at h; cases h
theorem MapIs.kept {w' : World} {r : Option Nat} (h : MapIs P k w b m) (hg : w.grownBy w' r) (hr : some b ≠ r) : MapIs P k w' b m := by
  obtain ⟨es, h1, h2⟩ := h.ex
  exact ⟨⟨es, by rw [hg.block b h.lt hr, h1], h2⟩, h.keys, h.apart⟩
theorem MapIs.below {w' : World} (h : MapIs P k w b m) (hb : Below w.heap.size w w') : MapIs P k w' b m := by
  obtain ⟨es, h1, h2⟩ := h.ex
  exact ⟨⟨es, by rw [hb.block b h.lt, h1], h2⟩, h.keys, h.apart⟩
theorem MapIs.setCell (h : MapIs P k w b m) {a : Addr} (ha : b ≠ a.block) (u : Value) : MapIs P k (w.setCell a u) b m := by
  obtain ⟨es, h1, h2⟩ := h.ex
  exact ⟨⟨es, by rw [Below.heap_setCell _ _ _ _ ha, h1], h2⟩, h.keys, h.apart⟩
theorem MapIs.ne (h : MapIs P k w b m) {g : Nat} {c : Array Value} {ty : TypeId} {f : Nat × Nat} (hg : w.heap[g]? = some (.cells c ty f)) : b ≠ g := by
  rintro rfl
  obtain ⟨es, h1, _⟩ := h.ex
  rw [hg] at h1
  cases h1

theorem find_none (K : Keyed P k) (h : MapIs P k w b m) {es : Array MapEntry} (he : es.toList.map (fun e => (e.key, e.val)) = m) {key : Value} {l : Lit} (hk : keyOf P k key = some l) (hn : ∀ p ∈ m, p.1 ≠ key) : (Instr.findKey k key es.toList).run P w = .ok none w := by
  rcases K.find w hk es.toList (fun e hm => h.keys (e.key, e.val) (by rw [← he]; exact List.mem_map.2 ⟨e, hm, rfl⟩)) with ⟨h1, _⟩ | ⟨j, e, _, h2, h3⟩
  · exact h1
  · have hm : e ∈ es.toList := List.mem_of_getElem? h2
    exact absurd h3 (hn (e.key, e.val) (by rw [← he]; exact List.mem_map.2 ⟨e, hm, rfl⟩))
theorem find_some (K : Keyed P k) (h : MapIs P k w b m) {es : Array MapEntry} (he : es.toList.map (fun e => (e.key, e.val)) = m) {key v : Value} {j : Nat} (hj : m[j]? = some (key, v)) : (Instr.findKey k key es.toList).run P w = .ok (some (j, v)) w := by
  obtain ⟨l, hk⟩ := h.keys (key, v) (List.mem_of_getElem? hj)
  have hj' : (es.toList.map (fun e => (e.key, e.val)))[j]? = some (key, v) := by rw [he]; exact hj
  rw [List.getElem?_map] at hj'
  obtain ⟨e0, he0, he1⟩ := Option.map_eq_some_iff.1 hj'
  injection he1 with hk0 hv0
  rcases K.find w hk es.toList (fun e hm => h.keys (e.key, e.val) (by rw [← he]; exact List.mem_map.2 ⟨e, hm, rfl⟩)) with ⟨_, h2⟩ | ⟨i, e, h1, h2, h3⟩
  · exact absurd hk0 (h2 e0 (List.mem_of_getElem? he0))
  · have hi : m[i]? = some (key, e.val) := by
      have h3' : e.key = key := h3
      rw [← he, List.getElem?_map, h2, ← h3']; rfl
    have hij : i = j := by
      obtain ⟨hi1, hi2⟩ := List.getElem?_eq_some_iff.1 hi
      obtain ⟨hj1, hj2⟩ := List.getElem?_eq_some_iff.1 hj
      rcases Nat.lt_trichotomy i j with q | q | q
      · exact absurd (by rw [hi2, hj2]) (List.pairwise_iff_getElem.1 h.apart i j hi1 hj1 q)
      · exact q
      · exact absurd (by rw [hi2, hj2]) (List.pairwise_iff_getElem.1 h.apart j i hj1 hi1 q)
    subst hij
    rw [hj] at hi
    injection hi with hi
    injection hi with _ hi
    rw [h1, hi]

theorem lookup_none (K : Keyed P k) (ht : P.underlying t = some (.map k e)) (h : MapIs P k w b m) {z : Value} (hz : (zeroValue e).run P w = .ok z w) {key : Value} {l : Lit} (hk : keyOf P k key = some l) (hn : ∀ p ∈ m, p.1 ≠ key) (c : Bool) :
    (Instr.lookup t (.map (some b)) key c).run P w = .ok (if c then .tuple #[z, .bool false] else z) w := by
  obtain ⟨es, h1, h2, _⟩ := h.ex
  have hf := find_none K h h2 hk hn
  simp [Instr.lookup, run_underlying ht, MapKept.run_getObj_map h1, K.check w _ hk, hf, hz, Result.andThen]
theorem lookup_some (K : Keyed P k) (ht : P.underlying t = some (.map k e)) (h : MapIs P k w b m) {key v : Value} {j : Nat} (hj : m[j]? = some (key, v)) (c : Bool) :
    (Instr.lookup t (.map (some b)) key c).run P w = .ok (if c then .tuple #[v, .bool true] else v) w := by
  obtain ⟨l, hk⟩ := h.keys (key, v) (List.mem_of_getElem? hj)
  obtain ⟨es, h1, h2, _⟩ := h.ex
  have hf := find_some K h h2 hj
  simp [Instr.lookup, run_underlying ht, MapKept.run_getObj_map h1, K.check w _ hk, hf, Result.andThen]

theorem grown_block (hb : ∃ es c, w.heap[b]? = some (.map es c)) (o : Obj) : w.grownBy (setBlock w b o) (some b) ∧ (setBlock w b o).heap[b]? = some o := by
  obtain ⟨es, c, hb⟩ := hb
  refine ⟨⟨rfl, rfl, rfl, by simp [setBlock], fun i _ hne => ?_⟩, heap_setBlock_same hb o⟩
  exact heap_setBlock_other hb o (fun e => hne (by rw [e]))
theorem keep_key (es : Array MapEntry) (j : Nat) (key v : Value) (hj : (es.toList.map (fun e => (e.key, e.val)))[j]? = some (key, v)) : ((es[j]?).map (·.key)).getD key = key := by
  rw [List.getElem?_map] at hj
  obtain ⟨e0, h0, h1⟩ := Option.map_eq_some_iff.1 hj
  injection h1 with h1 _
  have : es[j]? = some e0 := by simpa using h0
  rw [this]
  exact h1

theorem pushed (h : MapIs P k w b m) {es : Array MapEntry} (h1 : w.heap[b]? = some (.map es es.size)) (h2 : es.toList.map (fun e => (e.key, e.val)) = m) (h3 : ∀ (i : Nat) (e : MapEntry), es[i]? = some e → e.born = i) {key val : Value} {l : Lit} (hk : keyOf P k key = some l) (hn : ∀ p ∈ m, p.1 ≠ key) :
    MapIs P k (setBlock w b (.map (es.push { key, val, born := es.size }) (es.size + 1))) b (m ++ [(key, val)]) ∧ w.grownBy (setBlock w b (.map (es.push { key, val, born := es.size }) (es.size + 1))) (some b) := by
  obtain ⟨g1, g2⟩ := grown_block ⟨_, _, h1⟩ (.map (es.push { key, val, born := es.size }) (es.size + 1))
  refine ⟨⟨⟨_, by rw [g2, Array.size_push], by simp [h2], fun i e he => ?_⟩, fun p hp => ?_, ?_⟩, g1⟩
  · rw [Array.getElem?_push] at he
    split at he
    · injection he with he
      subst he
      rename_i q
      exact q.symm
    · exact h3 i e he
  · rcases List.mem_append.1 hp with hp | hp
    · exact h.keys p hp
    · rw [List.mem_singleton.1 hp]; exact ⟨l, hk⟩
  · rw [List.pairwise_append]
    exact ⟨h.apart, List.pairwise_singleton _ _, fun p hp q hq => by rw [List.mem_singleton.1 hq]; exact hn p hp⟩
theorem changed (h : MapIs P k w b m) {es : Array MapEntry} (h1 : w.heap[b]? = some (.map es es.size)) (h2 : es.toList.map (fun e => (e.key, e.val)) = m) (h3 : ∀ (i : Nat) (e : MapEntry), es[i]? = some e → e.born = i) {key v val : Value} {j : Nat} (hj : m[j]? = some (key, v)) (f : MapEntry → MapEntry) (hf : ∀ e, e.key = key → e.val = v → (f e).key = key ∧ (f e).val = val ∧ (f e).born = e.born) :
    MapIs P k (setBlock w b (.map (es.modify j f) es.size)) b (m.set j (key, val)) ∧ w.grownBy (setBlock w b (.map (es.modify j f) es.size)) (some b) := by
  obtain ⟨g1, g2⟩ := grown_block ⟨_, _, h1⟩ (.map (es.modify j f) es.size)
  have hjm : j < m.length := (List.getElem?_eq_some_iff.1 hj).1
  have hj' : (es.toList.map (fun e => (e.key, e.val)))[j]? = some (key, v) := by rw [h2]; exact hj
  rw [List.getElem?_map] at hj'
  obtain ⟨e0, he0, he1⟩ := Option.map_eq_some_iff.1 hj'
  injection he1 with hk0 hv0
  have he0' : es[j]? = some e0 := by simpa using he0
  obtain ⟨f1, f2, f3⟩ := hf e0 hk0 hv0
  refine ⟨⟨⟨_, by rw [g2, Array.size_modify], ?_, fun i e he => ?_⟩, fun p hp => ?_, ?_⟩, g1⟩
  · apply List.ext_getElem?
    intro i
    rw [List.getElem?_map, Array.toList_modify, List.getElem?_modify]
    have hi : (es.toList.map (fun e => (e.key, e.val)))[i]? = m[i]? := by rw [h2]
    rw [List.getElem?_map] at hi
    by_cases q : j = i
    · subst q
      rw [List.getElem?_set_self hjm, he0]
      simp [f1, f2]
    · rw [List.getElem?_set_ne q, ← hi]
      simp [q]
  · rw [Array.getElem?_modify] at he
    split at he
    · rename_i q
      subst q
      rw [he0'] at he
      simp at he
      subst he
      rw [f3]
      exact h3 _ _ he0'
    · exact h3 i e he
  · rcases List.mem_or_eq_of_mem_set hp with hp | rfl
    · exact h.keys p hp
    · exact h.keys (key, v) (List.mem_of_getElem? hj)
  · rw [List.pairwise_iff_getElem]
    intro i i' hi hi' hlt
    have key_at : ∀ (q : Nat) (hq : q < (m.set j (key, val)).length), ((m.set j (key, val))[q]).1 = (m[q]'(by simpa using hq)).1 := fun q hq => by
      rw [List.getElem_set]
      split
      · rename_i e
        subst e
        have := (List.getElem?_eq_some_iff.1 hj).2
        rw [this]
      · rfl
    rw [key_at, key_at]
    exact List.pairwise_iff_getElem.1 h.apart i i' (by simpa using hi) (by simpa using hi') hlt

theorem update_new (K : Keyed P k) (ht : P.underlying t = some (.map k e)) (h : MapIs P k w b m) {key val : Value} {l : Lit} (hk : keyOf P k key = some l) (hn : ∀ p ∈ m, p.1 ≠ key) :
    ∃ w', (Instr.mapUpdate t (.map (some b)) key val).run P w = .ok () w' ∧ MapIs P k w' b (m ++ [(key, val)]) ∧ w.grownBy w' (some b) := by
  obtain ⟨es, h1, h2, h3⟩ := h.ex
  have hf := find_none K h h2 hk hn
  obtain ⟨p1, p2⟩ := pushed h h1 h2 h3 (val := val) hk hn
  exact ⟨_, by simp [Instr.mapUpdate, run_underlying ht, MapKept.run_getObj_map h1, K.check w _ hk, hf, MapKept.run_setObj_map _ h1, Result.andThen, setBlock], p1, p2⟩
theorem update_old (K : Keyed P k) (ht : P.underlying t = some (.map k e)) (h : MapIs P k w b m) {key v val : Value} {j : Nat} (hj : m[j]? = some (key, v)) :
    ∃ w', (Instr.mapUpdate t (.map (some b)) key val).run P w = .ok () w' ∧ MapIs P k w' b (m.set j (key, val)) ∧ w.grownBy w' (some b) := by
  obtain ⟨l, hk⟩ := h.keys (key, v) (List.mem_of_getElem? hj)
  obtain ⟨es, h1, h2, h3⟩ := h.ex
  have hf := find_some K h h2 hj
  have hkk := keep_key es j key v (by rw [h2]; exact hj)
  obtain ⟨p1, p2⟩ := changed h h1 h2 h3 (val := val) hj (fun e => { e with key := key, val := val }) (fun e _ _ => ⟨rfl, rfl, rfl⟩)
  exact ⟨_, by simp [Instr.mapUpdate, run_underlying ht, MapKept.run_getObj_map h1, K.check w _ hk, hf, hkk, K.stays w hk, MapKept.run_setObj_map _ h1, Result.andThen, setBlock], p1, p2⟩
end Go.Proofs.Ythmenclkgngkkaa.Mp
end
section
/- A loop over a map by its entries: whichever comes next. -/
set_option linter.unusedSimpArgs false
set_option linter.unusedVariables false
namespace Go.Proofs.Ythmenclkgngkkaa.Mp
open Go.RowKit Go.ChangeMaps Go.Maps Go.MapKept

structure RangeIs (w : World) (b r : Nat) (m : List (Value × Value)) (seen : Array Nat) : Prop where
  ex : ∃ (es : Array MapEntry) (c0 : Nat), w.heap[b]? = some (.map es es.size) ∧ es.toList.map (fun e => (e.key, e.val)) = m ∧ (∀ (i : Nat) (e : MapEntry), es[i]? = some e → e.born = i) ∧ w.heap[r]? = some (.mapIter (some b) es.size seen c0) ∧ es.size ≤ c0
  nodup : seen.toList.Nodup
  inb : ∀ i ∈ seen.toList, i < m.length
def seenOf (w : World) (r : Nat) : Nat := match w.heap[r]? with | some (.mapIter _ _ seen _) => seen.size | _ => 0
variable {P : Program} {k e t : TypeId} {w : World} {b r : Nat} {m : List (Value × Value)} {seen : Array Nat}
theorem RangeIs.seen_eq (h : RangeIs w b r m seen) : seenOf w r = seen.size := by
  obtain ⟨es, c0, _, _, _, h4, _⟩ := h.ex
  simp [seenOf, h4]
theorem RangeIs.lts (h : RangeIs w b r m seen) : b < w.heap.size ∧ r < w.heap.size := by
  obtain ⟨es, c0, h1, _, _, h4, _⟩ := h.ex
  exact ⟨(Array.getElem?_eq_some_iff.1 h1).1, (Array.getElem?_eq_some_iff.1 h4).1⟩
theorem RangeIs.ne (h : RangeIs w b r m seen) : r ≠ b := by
  obtain ⟨es, c0, h1, _, _, h4, _⟩ := h.ex
  intro e
  rw [e, h1] at h4
  cases h4
theorem RangeIs.kept {w' : World} {row : Option Nat} (h : RangeIs w b r m seen) (hg : w.grownBy w' row) (hb : some b ≠ row) (hr : some r ≠ row) : RangeIs w' b r m seen := by
  obtain ⟨hb1, hr1⟩ := h.lts
  obtain ⟨es, c0, h1, h2, h3, h4, h5⟩ := h.ex
  exact ⟨⟨es, c0, by rw [hg.block b hb1 hb, h1], h2, h3, by rw [hg.block r hr1 hr, h4], h5⟩, h.nodup, h.inb⟩
theorem RangeIs.below {w' : World} (h : RangeIs w b r m seen) (hb : Below w.heap.size w w') : RangeIs w' b r m seen := by
  obtain ⟨hb1, hr1⟩ := h.lts
  obtain ⟨es, c0, h1, h2, h3, h4, h5⟩ := h.ex
  exact ⟨⟨es, c0, by rw [hb.block b hb1, h1], h2, h3, by rw [hb.block r hr1, h4], h5⟩, h.nodup, h.inb⟩
theorem RangeIs.ne_cells (h : RangeIs w b r m seen) {g : Nat} {c : Array Value} {ty : TypeId} {f : Nat × Nat} (hg : w.heap[g]? = some (.cells c ty f)) : b ≠ g ∧ r ≠ g := by
  obtain ⟨es, c0, h1, _, _, h4, _⟩ := h.ex
  refine ⟨?_, ?_⟩ <;> (rintro rfl; simp_all)
theorem MapIs.range (h : MapIs P k w b m) (ht : P.underlying t = some (.map k e)) :
    ∃ w', (Instr.range t (.map (some b))).run P w = .ok (.pointer (some ⟨w.heap.size, 0, none⟩)) w' ∧ RangeIs w' b w.heap.size m #[] ∧ w.grownBy w' none ∧ w'.heap.size = w.heap.size + 1 := by
  have hlt := h.lt
  obtain ⟨es, h1, h2, h3⟩ := h.ex
  exact ⟨_, run_range_map w t k e b es es.size ht h1, ⟨⟨es, es.size, ((MapKept.heap_alloc w _).2 b hlt).trans h1, h2, h3, (MapKept.heap_alloc w _).1, Nat.le_refl _⟩, by simp, by simp⟩, World.grownBy_alloc w _ none, by simp⟩
theorem nd_len : ∀ (n : Nat) (l : List Nat), l.Nodup → (∀ i ∈ l, i < n) → l.length ≤ n
  | 0, l, _, h => by
    cases l with
    | nil => simp
    | cons a l => exact absurd (h a (by simp)) (by omega)
  | n + 1, l, hn, h => by
    by_cases hm : n ∈ l
    · have h1 := nd_len n (l.erase n) (hn.erase n) (fun i hi => by
        have := (hn.mem_erase_iff).1 hi
        have := h i this.2
        omega)
      rw [List.length_erase_of_mem hm] at h1
      omega
    · have := nd_len n l hn (fun i hi => by
        have h1 := h i hi
        have : i ≠ n := fun e => hm (e ▸ hi)
        omega)
      omega
theorem RangeIs.next (h : RangeIs w b r m seen) (ty : TypeId) :
    (seen.toList.Perm (List.range m.length) ∧ (Instr.next (.pointer (some ⟨r, 0, none⟩)) false ty).run P w = .ok (.tuple #[.bool false]) w) ∨
    ∃ i key v w', m[i]? = some (key, v) ∧ seen.size < m.length ∧ (Instr.next (.pointer (some ⟨r, 0, none⟩)) false ty).run P w = .ok (.tuple #[.bool true, key, v]) w' ∧
      RangeIs w' b r m (seen.push i) ∧ w.grownBy w' (some r) ∧ w'.heap.size = w.heap.size ∧ (Instr.entry (.pointer (some ⟨r, 0, none⟩))).run P w' = .ok (.tuple #[key, v]) w' := by
  have hne := h.ne
  have hnd := h.nodup
  have hin := h.inb
  obtain ⟨es, c0, h1, h2, h3, h4, h5⟩ := h.ex
  have hml : m.length = es.size := by rw [← h2]; simp
  have hold : ∀ x ∈ es.toList, x.born < es.size := fun x hx => by
    obtain ⟨i, hi⟩ := List.getElem?_of_mem hx
    have hi' : es[i]? = some x := by simpa using hi
    rw [h3 i x hi']
    exact (Array.getElem?_eq_some_iff.1 hi').1
  have hbn : (es.toList.map (·.born)).Nodup := by
    have : es.toList.map (·.born) = List.range es.size := by
      apply List.ext_getElem?
      intro i
      rw [List.getElem?_map]
      by_cases hi : i < es.size
      · rw [List.getElem?_range hi]
        have : es.toList[i]? = some es[i] := by simp [hi]
        rw [this]
        simp [h3 i es[i] (Array.getElem?_eq_getElem hi)]
      · have e1 : es.toList[i]? = none := by simp; omega
        have e2 : (List.range es.size)[i]? = none := by simp; omega
        rw [e1, e2]; rfl
    rw [this]
    exact List.nodup_range
  rcases run_next_at (P := P) w ty r b es.size c0 seen es es.size h4 h1 hold h5 with ⟨h0, hrun⟩ | ⟨x, hx, w1, hal, hrun⟩
  · refine Or.inl ⟨(List.perm_ext_iff_of_nodup hnd List.nodup_range).2 fun i => ⟨fun hi => List.mem_range.2 (hin i hi), fun hi => ?_⟩, hrun⟩
    have hi' : i < es.size := by rw [← hml]; exact List.mem_range.1 hi
    have hs := all_seen es seen h0 es[i] (by simp)
    rw [h3 i es[i] (Array.getElem?_eq_getElem hi')] at hs
    simpa using hs
  · obtain ⟨hem, hes⟩ := mem_left hx
    obtain ⟨i, hi⟩ := List.getElem?_of_mem hem
    have hi' : es[i]? = some x := by simpa using hi
    have hb := h3 i x hi'
    have hil := (Array.getElem?_eq_some_iff.1 hi').1
    rw [hb] at hes hrun
    have hns : i ∉ seen.toList := by simpa using hes
    have hmi : m[i]? = some (x.key, x.val) := by rw [← h2, List.getElem?_map, hi]; rfl
    have hr1 : w1.heap[r]? = some (.mapIter (some b) es.size seen c0) := by rcases hal with rfl | rfl <;> exact h4
    have hb1 : w1.heap[b]? = some (.map es es.size) := by rcases hal with rfl | rfl <;> exact h1
    have hset := heap_set (o' := .mapIter (some b) es.size (seen.push i) es.size) hr1
    have hb' : (setBlock w1 r (.mapIter (some b) es.size (seen.push i) es.size)).heap[b]? = some (.map es es.size) := (hset.2 b (fun e1 => hne e1.symm)).trans hb1
    have hnd2 : (seen.push i).toList.Nodup := by
      rw [Array.toList_push, List.nodup_append]
      refine ⟨hnd, by simp, fun a ha c hc => ?_⟩
      rw [List.mem_singleton.1 hc]
      exact fun e => hns (e ▸ ha)
    have hin2 : ∀ j ∈ (seen.push i).toList, j < m.length := fun j hj => by
      rw [Array.toList_push, List.mem_append, List.mem_singleton] at hj
      rcases hj with hj | hj
      · exact hin j hj
      · rw [hj, hml]; exact hil
    have hsz : seen.size < m.length := by
      have := nd_len m.length _ hnd2 hin2
      simp at this
      omega
    refine Or.inr ⟨i, x.key, x.val, _, hmi, hsz, hrun, ⟨⟨es, es.size, hb', h2, h3, hset.1, Nat.le_refl _⟩, hnd2, hin2⟩, ?_, ?_,
      run_entry_at _ r b es.size seen es es.size x (by rw [hb]; exact hset.1) hb' hem hbn⟩
    · rcases hal with rfl | rfl <;> exact ⟨rfl, rfl, rfl, by simp [setBlock], fun i _ hi => hset.2 i (fun e1 => hi (by rw [e1]))⟩
    · rcases hal with rfl | rfl <;> simp [setBlock]
section
variable {ops : Array Oper} {rest : List Oper} {o : Oper} {a : Act} {Q : Exit → Act → World → Prop}
theorem wpList_range_is (hg : o.guard = none) (x : Operand) (t : TypeId) (hop : o.op = Op.range t x) (ht : P.underlying t = some (.map k e)) (hm : a.eval x = .map (some b)) (h : MapIs P k w b m)
    (hK : ∀ w', RangeIs w' b w.heap.size m #[] → w.grownBy w' none → w'.heap.size = w.heap.size + 1 → wpList P ops Q rest (a.put o.dst (.pointer (some ⟨w.heap.size, 0, none⟩))) w') :
    wpList P ops Q (o :: rest) a w := by
  refine wpList_plain hg fun K' hK' => ?_
  obtain ⟨w', hrun, r1, r2, r3⟩ := h.range ht
  unfold Oper.wp
  simp [execOp, hop, hm, hrun, Result.andThen]
  exact hK' _ _ (hK w' r1 r2 r3)
theorem wpList_next_is (hg : o.guard = none) (it : Operand) (hop : o.op = Op.next it false) (hit : a.eval it = .pointer (some ⟨r, 0, none⟩)) (h : RangeIs w b r m seen)
    (hDone : seen.toList.Perm (List.range m.length) → wpList P ops Q rest (a.put o.dst (.tuple #[.bool false])) w)
    (hMore : ∀ i key v w', m[i]? = some (key, v) → seen.size < m.length → RangeIs w' b r m (seen.push i) → w.grownBy w' (some r) → w'.heap.size = w.heap.size →
      (Instr.entry (.pointer (some ⟨r, 0, none⟩))).run P w' = .ok (.tuple #[key, v]) w' → wpList P ops Q rest (a.put o.dst (.tuple #[.bool true, key, v])) w') :
    wpList P ops Q (o :: rest) a w := by
  refine wpList_plain hg fun K' hK' => ?_
  unfold Oper.wp
  rcases h.next (P := P) o.type with ⟨h0, hrun⟩ | ⟨i, key, v, w', h1, h2, hrun, h3, h4, h5, h6⟩
  · simp [execOp, hop, hit, hrun, Result.andThen]
    exact hK' _ _ (hDone h0)
  · simp [execOp, hop, hit, hrun, Result.andThen]
    exact hK' _ _ (hMore i key v w' h1 h2 h3 h4 h5 h6)
end
end Go.Proofs.Ythmenclkgngkkaa.Mp
end
section
/- A row of one's own and the sort's words on rows of elements of k cells: down and up. -/
set_option linter.unusedSimpArgs false
set_option linter.unusedVariables false
namespace Go.Proofs.Ythmenclkgngkkaa.Sk
open Go.RowKit Go.Sort Go.Proofs.YthmenclkgngkkaaW.PrintWords
variable {α : Type} [Inhabited α] {enc : α → List Value} {k : Nat}

omit [Inhabited α] in
theorem fm_len (hk : ∀ x, (enc x).length = k) : ∀ xs : List α, (xs.flatMap enc).length = xs.length * k
  | [] => by simp
  | x :: xs => by rw [List.flatMap_cons, List.length_append, fm_len hk xs, hk, List.length_cons, Nat.add_mul, Nat.one_mul, Nat.add_comm]
omit [Inhabited α] in
theorem fm_get (hk : ∀ x, (enc x).length = k) (k0 : 0 < k) : ∀ (xs : List α) (t : Nat) (h : t / k < xs.length), (xs.flatMap enc)[t]? = (enc xs[t / k])[t % k]?
  | [], t, h => by simp at h
  | x :: xs, t, h => by
    rw [List.flatMap_cons]
    rcases Nat.lt_or_ge t k with q | q
    · rw [List.getElem?_append_left (by rw [hk]; exact q)]
      have e1 : t / k = 0 := Nat.div_eq_of_lt q
      have e2 : t % k = t := Nat.mod_eq_of_lt q
      simp only [e1, e2, List.getElem_cons_zero]
    · obtain ⟨u, rfl⟩ : ∃ u, t = u + k := ⟨t - k, by omega⟩
      rw [List.getElem?_append_right (by rw [hk]; omega), hk, Nat.add_sub_cancel]
      have e1 : (u + k) / k = u / k + 1 := Nat.add_div_right u k0
      have e2 : (u + k) % k = u % k := Nat.add_mod_right u k
      simp only [e1] at h
      simp only [e1, e2, List.getElem_cons_succ]
      exact fm_get hk k0 xs u (by simpa using h)
theorem flat_eq (hk : ∀ x, (enc x).length = k) (k0 : 0 < k) (xs : List α) : (flatK enc k xs.toArray).toList = xs.flatMap enc := by
  apply List.ext_getElem?
  intro t
  by_cases h : t < xs.length * k
  · have hd : t / k < xs.length := by rw [Nat.div_lt_iff_lt_mul k0]; exact h
    rw [fm_get hk k0 xs t hd]
    unfold flatK
    rw [Array.getElem?_toList, Array.getElem?_map]
    have : (Array.range (xs.toArray.size * k))[t]? = some t := by simp [h]
    rw [this]
    have hm : t % k < (enc xs[t / k]).length := by rw [hk]; exact Nat.mod_lt _ k0
    simp [getElem!_pos, hd, hm]
  · rw [List.getElem?_eq_none (by simp; omega), List.getElem?_eq_none (by rw [fm_len hk]; omega)]
theorem own_holds {w : World} {base e g n cap : Nat} {xs : List α} (hk : ∀ x, (enc x).length = k) (k0 : 0 < k) (hx : xs.length = n) (h : w.ownsRow base e k (.slice (some ⟨g, 0, none⟩) n cap) n (xs.flatMap enc)) : HoldsK enc k w g 0 xs.toArray := by
  rcases h.2 with ⟨e0, _⟩ | ⟨g', cap', cur, e0, hb, hg, hn, hm, hs, ht⟩
  · cases e0
  · injection e0 with e1 _ e3
    injection e1 with e1
    injection e1 with e1
    subst e1; subst e3
    intro j hj
    have hj' : j < xs.length * k := by simpa using hj
    have hf := flat_eq hk k0 xs
    have hc : cur[j]? = (xs.flatMap enc)[j]? := by
      rw [← ht, List.getElem?_take, if_pos (by rw [← hx]; exact hj'), Array.getElem?_toList]
    have hF : (flatK enc k xs.toArray)[j]? = (xs.flatMap enc)[j]? := by rw [← hf, Array.getElem?_toList]
    refine ⟨?_, by simp [World.frozen?, hg]⟩
    rw [Nat.zero_add, blk_cell hg, hc, ← hF, Array.getElem?_eq_getElem hj, getElem!_pos _ j hj]
    rfl
theorem sortW_own {w : World} {base e g n cap m : Nat} {os : Array Obj} {xs ys : List α} (hk : ∀ x, (enc x).length = k) (k0 : 0 < k) (hx : xs.length = n) (hy : ys.length = n) (h : w.ownsRow base e k (.slice (some ⟨g, 0, none⟩) n cap) n (xs.flatMap enc)) :
    (sortWorldK enc k w g 0 m ys.toArray os).ownsRow base e k (.slice (some ⟨g, 0, none⟩) n cap) n (ys.flatMap enc) ∧ w.grownBy (sortWorldK enc k w g 0 m ys.toArray os) (some g) := by
  rcases h.2 with ⟨e0, _⟩ | ⟨g', cap', cur, e0, hb, hg, hn, hm, hs, ht⟩
  · cases e0
  · injection e0 with e1 _ e3
    injection e1 with e1
    injection e1 with e1
    subst e1; subst e3
    have hgl : g < w.heap.size := (Array.getElem?_eq_some_iff.1 hg).1
    have hpz : (putRowK enc k (Sort.ahead w m) g 0 ys.toArray).heap.size = w.heap.size := by simp [putRowK, putRow, mapBlock, Sort.ahead]
    have hblk : ∀ i, i < w.heap.size → (sortWorldK enc k w g 0 m ys.toArray os).heap[i]? = (putRowK enc k (Sort.ahead w m) g 0 ys.toArray).heap[i]? := fun i hi => by
      show ((putRowK enc k (Sort.ahead w m) g 0 ys.toArray).heap ++ os)[i]? = _
      rw [Array.getElem?_append_left (by rw [hpz]; exact hi)]
    refine ⟨⟨by rw [fm_len hk, hy], .inr ⟨g, cap, putCells id 0 (flatK enc k ys.toArray) cur, rfl, hb, ?_, hn, hm, by simpa [putCells] using hs, ?_⟩⟩, ⟨rfl, rfl, rfl, ?_, fun i hi hne => ?_⟩⟩
    · rw [hblk g hgl]
      simp [putRowK, putRow, mapBlock, Sort.ahead, Array.getElem?_modify, hg, onCells]
    · apply List.ext_getElem?
      intro j
      rw [List.getElem?_take, Array.getElem?_toList]
      by_cases hj : j < n * k
      · have hjc : j < cur.size := by rw [hs]; exact Nat.lt_of_lt_of_le hj (Nat.mul_le_mul_right _ hn)
        have hjF : j < (flatK enc k ys.toArray).size := by rw [size_flatK]; simpa [hy] using hj
        rw [if_pos hj, ← flat_eq hk k0 ys, Array.getElem?_toList, Array.getElem?_eq_getElem hjF]
        simp only [putCells, Array.getElem?_mapIdx, Array.getElem?_eq_getElem hjc, Option.map_some]
        rw [if_pos (by omega), Nat.sub_zero, getElem!_pos _ j hjF]
        rfl
      · rw [if_neg hj, List.getElem?_eq_none (by rw [fm_len hk, hy]; omega)]
    · show w.heap.size ≤ ((putRowK enc k (Sort.ahead w m) g 0 ys.toArray).heap ++ os).size
      rw [Array.size_append, hpz]; omega
    · rw [hblk i hi]
      have : i ≠ g := fun e => hne (by rw [e])
      simp [putRowK, putRow, mapBlock, Sort.ahead, Array.getElem?_modify, this.symm]
omit [Inhabited α] in
/-- A row whose elements are told by their cells alone. -/
theorem reps_fm {R : α → List Value → Prop} (hk : ∀ x, (enc x).length = k) (hR : ∀ x, R x (enc x)) : ∀ xs : List α, Reps R k xs (xs.flatMap enc)
  | [] => Reps.none _ _
  | x :: xs => by
    have h1 : Reps R k [x] (enc x) := by
      have := (Reps.none R k).snoc (p := x) (c := enc x) (hR x) (hk x)
      simpa using this
    exact Kd.reps_append h1 (reps_fm hk hR xs)
omit [Inhabited α] in
theorem fm_of_reps {R : α → List Value → Prop} (hk : ∀ x, (enc x).length = k) (k0 : 0 < k) (hR : ∀ x c, R x c → c = enc x) {xs : List α} {cs : List Value} (h : Reps R k xs cs) : cs = xs.flatMap enc := by
  apply List.ext_getElem?
  intro t
  by_cases ht : t < xs.length * k
  · have hd : t / k < xs.length := by rw [Nat.div_lt_iff_lt_mul k0]; exact ht
    have h2 := hR _ _ (h.2 (t / k) _ (List.getElem?_eq_getElem hd))
    rw [fm_get hk k0 xs t hd, ← h2, List.getElem?_take, if_pos (Nat.mod_lt _ k0), List.getElem?_drop, Nat.mul_comm, Nat.div_add_mod]
  · rw [List.getElem?_eq_none (by rw [h.1]; omega), List.getElem?_eq_none (by rw [fm_len hk]; omega)]
end Go.Proofs.Ythmenclkgngkkaa.Sk
end
section
/- The shelf's contracts, laid over this program. -/
namespace Go.Proofs
open Go.Shelf
def Try.sortF_ren : Go.Shelf.Ren := ⟨fun | 6 => 47 | 15 => 71 | 14 => 70 | 28 => 101 | 29 => 102 | 20 => 93 | 21 => 94 | 22 => 95 | 23 => 96 | 24 => 97 | 25 => 98 | 26 => 99 | 27 => 100 | 46 => 105 | 47 => 106 | 48 => 107 | 49 => 108 | 50 => 109 | 57 => 110 | n => n, fun | 22 => 22 | 24 => 26 | 25 => 71 | 3 => 3 | 39 => 94 | 0 => 0 | 53 => 121 | 55 => 23 | 4 => 4 | 46 => 114 | 45 => 113 | 50 => 118 | 5 => 5 | 9 => 9 | 66 => 125 | 70 => 129 | 76 => 131 | 77 => 132 | n => n, fun | n => n⟩
theorem Try.sortF : Go.Proofs.SlLaysF0.n6 Try.prog Try.sortF_ren := {
  mixed := by kernel_rfl
  f6 := ⟨Try.f47.name, by decide, Try.func47.trans (congrArg some (by kernel_rfl))⟩
  f14 := ⟨Try.f70.name, by decide, Try.func70.trans (congrArg some (by kernel_rfl))⟩
  f15 := Try.func71.trans (congrArg some (by kernel_rfl))
  f20 := ⟨Try.f93.name, by decide, Try.func93.trans (congrArg some (by kernel_rfl))⟩
  f21 := ⟨Try.f94.name, by decide, Try.func94.trans (congrArg some (by kernel_rfl))⟩
  f22 := ⟨Try.f95.name, by decide, Try.func95.trans (congrArg some (by kernel_rfl))⟩
  f23 := ⟨Try.f96.name, by decide, Try.func96.trans (congrArg some (by kernel_rfl))⟩
  f24 := ⟨Try.f97.name, by decide, Try.func97.trans (congrArg some (by kernel_rfl))⟩
  f25 := ⟨Try.f98.name, by decide, Try.func98.trans (congrArg some (by kernel_rfl))⟩
  f26 := ⟨Try.f99.name, by decide, Try.func99.trans (congrArg some (by kernel_rfl))⟩
  f27 := ⟨Try.f100.name, by decide, Try.func100.trans (congrArg some (by kernel_rfl))⟩
  f28 := Try.func101.trans (congrArg some (by kernel_rfl))
  f29 := Try.func102.trans (congrArg some (by kernel_rfl))
  f46 := ⟨Try.f105.name, by decide, Try.func105.trans (congrArg some (by kernel_rfl))⟩
  f47 := Try.func106.trans (congrArg some (by kernel_rfl))
  f48 := Try.func107.trans (congrArg some (by kernel_rfl))
  f49 := ⟨Try.f108.name, by decide, Try.func108.trans (congrArg some (by kernel_rfl))⟩
  f50 := ⟨Try.f109.name, by decide, Try.func109.trans (congrArg some (by kernel_rfl))⟩
  f57 := ⟨Try.f110.name, by decide, Try.func110.trans (congrArg some (by kernel_rfl))⟩
  t0 := Try.underlying0
  a0 := Try.isAgg0
  z0 := Try.sizeOf0
  v0 := Try.zeroValue0
  t3 := Try.underlying3
  a3 := Try.isAgg3
  z3 := Try.sizeOf3
  v3 := Try.zeroValue3
  t4 := Try.underlying4
  a4 := Try.isAgg4
  z4 := Try.sizeOf4
  v4 := Try.zeroValue4
  t5 := Try.underlying5
  a5 := Try.isAgg5
  z5 := Try.sizeOf5
  v5 := Try.zeroValue5
  t9 := Try.underlying9
  a9 := Try.isAgg9
  z9 := Try.sizeOf9
  v9 := Try.zeroValue9
  t22 := Try.underlying22
  a22 := Try.isAgg22
  z22 := Try.sizeOf22
  v22 := Try.zeroValue22
  t25 := Try.underlying71
  a25 := Try.isAgg71
  z25 := Try.sizeOf71
  v25 := Try.zeroValue71
  t39 := Try.underlying94
  a39 := Try.isAgg94
  z39 := Try.sizeOf94
  v39 := Try.zeroValue94
  t45 := Try.underlying113
  a45 := Try.isAgg113
  z45 := Try.sizeOf113
  v45 := Try.zeroValue113
  t46 := Try.underlying114
  a46 := Try.isAgg114
  z46 := Try.sizeOf114
  v46 := Try.zeroValue114
  t50 := Try.underlying118
  a50 := Try.isAgg118
  z50 := Try.sizeOf118
  v50 := Try.zeroValue118
  t53 := Try.underlying121
  a53 := Try.isAgg121
  z53 := Try.sizeOf121
  v53 := Try.zeroValue121
  t55 := Try.underlying23
  a55 := Try.isAgg23
  z55 := Try.sizeOf23
  v55 := Try.zeroValue23
  t66 := Try.underlying125
  a66 := Try.isAgg125
  z66 := Try.sizeOf125
  v66 := Try.zeroValue125
  t70 := Try.underlying129
  a70 := Try.isAgg129
  z70 := Try.sizeOf129
  v70 := Try.zeroValue129
  t76 := Try.underlying131
  a76 := Try.isAgg131
  z76 := Try.sizeOf131
  v76 := Try.zeroValue131
  t77 := Try.underlying132
  a77 := Try.isAgg132
  z77 := Try.sizeOf132
  v77 := Try.zeroValue132 }
end Go.Proofs
end
section
/- What the operations that take in many do. -/
namespace Go.Proofs.Ythmenclkgngkkaa.M
open Go.RowKit Go.Proofs.Ythmenclkgngkkaa.PA Go.Proofs.YthmenclkgngkkaaW.PrintWords Go.Proofs.YthmenclkgngkkaaW.PrintLast Go.Proofs.YthmenclkgngkkaaW.PrintMore

def ar (o : Int) : Int := if o = 0 ∨ o > 19 then 0 else if o = 15 then 1 else if o = 18 then 3 else 2

theorem arity_a (k : Nat) (o : Int) : num_Arity.f (k + 1) o = some (ar o) := by
  unfold num_Arity.f ar
  simp only [num_Arity.j0]
  by_cases h0 : o = 0
  · subst h0; rfl
  · by_cases h1 : o > 19
    · rw [if_neg h0, if_pos (decide_eq_true h1), if_pos (Or.inr h1)]
    · rw [if_neg h0, decide_eq_false h1, if_neg (by decide), if_neg (show ¬ (o = 0 ∨ o > 19) from fun h => h.elim h0 h1)]
      (repeat' split) <;> rfl

theorem two (x y : Int) : (([x, y] : List Int).length : Int) = 2 := rfl
theorem lst (x y : Int) : rd [x, y] 1 = y := rfl
theorem fst_ (x : Int) (l : List Int) : rd (x :: l) 0 = x := rfl

def red (o x y : Int) : Int := if o = 1 then wrap64 (x + y) else if o = 6 then (if y < x then y else x) else if o = 7 then (if x < y then y else x) else if o = 16 then (if x = 0 ∨ y = 0 then 0 else 1) else (if x = 0 ∧ y = 0 then 0 else 1)
def takes (o : Int) : Prop := o = 1 ∨ o = 6 ∨ o = 7 ∨ o = 16 ∨ o = 17

theorem do_red {o : Int} (ho : takes o) (k : Nat) (x y : Int) : num_Do.f (k + 1) o [x, y] = some (red o x y, 0) := by
  unfold num_Do.f
  have ha : ar o = 2 := by rcases ho with rfl | rfl | rfl | rfl | rfl <;> decide
  rw [arity_a, ha]
  simp only [Option.bind_some, two, lst, fst_]
  rcases ho with rfl | rfl | rfl | rfl | rfl
  · simp [num_reckon.f, red]
  · simp [num_reckon.f, red, mn]
  · simp [num_reckon.f, red, mx]
  · simp [num_reckon.f, num_told.f, num_Truth.f, red]
    by_cases hx : x = 0 <;> by_cases hy : y = 0 <;> simp [hx, hy]
  · simp [num_reckon.f, num_told.f, num_Truth.f, red]
    by_cases hx : x = 0 <;> by_cases hy : y = 0 <;> simp [hx, hy]

theorem red_comm {o : Int} (ho : takes o) (a x y : Int) : red o (red o a x) y = red o (red o a y) x := by
  rcases ho with rfl | rfl | rfl | rfl | rfl <;> simp only [red]
  · simp; unfold wrap64; omega
  · simp; (repeat' split) <;> omega
  · simp; (repeat' split) <;> omega
  · simp; by_cases ha : a = 0 <;> by_cases hx : x = 0 <;> by_cases hy : y = 0 <;> simp [ha, hx, hy]
  · simp; by_cases ha : a = 0 <;> by_cases hx : x = 0 <;> by_cases hy : y = 0 <;> simp [ha, hx, hy]

theorem red_of (k : Nat) (o f : Int) (h : num_Reduces.f (k + 1) o = some (f, true)) : takes o := by
  unfold num_Reduces.f at h
  simp only [num_Reduces.j0] at h
  unfold takes
  by_cases h1 : o = 1
  · omega
  · rw [if_neg h1] at h
    by_cases h2 : o = 17
    · omega
    · rw [beq_eq_false_iff_ne.2 h2, if_neg Bool.false_ne_true] at h
      by_cases h3 : o = 16
      · omega
      · rw [if_neg h3] at h
        by_cases h4 : o = 6
        · omega
        · rw [if_neg h4] at h
          by_cases h5 : o = 7
          · omega
          · rw [if_neg h5] at h; simp at h

theorem reduces_some (k : Nat) (o : Int) : ∃ f b, num_Reduces.f (k + 1) o = some (f, b) := by
  unfold num_Reduces.f
  simp only [num_Reduces.j0]
  (repeat' split) <;> exact ⟨_, _, rfl⟩

instance (o : Int) : Decidable (takes o) := by unfold takes; infer_instance
theorem of_takes {o : Int} (h : takes o) (k : Nat) : ∃ f, num_Reduces.f (k + 1) o = some (f, true) := by
  unfold num_Reduces.f
  simp only [num_Reduces.j0]
  rcases h with rfl | rfl | rfl | rfl | rfl <;> simp
theorem reduces_told (k : Nat) (o : Int) : ∃ f, num_Reduces.f (k + 1) o = some (f, decide (takes o)) := by
  by_cases h : takes o
  · obtain ⟨f, hf⟩ := of_takes h k
    exact ⟨f, by rw [hf, decide_eq_true h]⟩
  · obtain ⟨f, b, hf⟩ := reduces_some k o
    cases b
    · exact ⟨f, by rw [hf, decide_eq_false h]⟩
    · exact absurd (red_of k o f hf) h
end Go.Proofs.Ythmenclkgngkkaa.M
end
section
/- The walk of mail.order, with the world that it leaves told to the letter. -/
set_option linter.unusedSimpArgs false
set_option linter.unusedVariables false
set_option linter.unusedSimpArgs false
set_option linter.unusedVariables false
namespace Go.Proofs.Ythmenclkgngkkaa.M
open Go.RowKit Go.Sort Go.Shelf Go.Proofs.Ythmenclkgngkkaa.PA Go.Proofs.YthmenclkgngkkaaW.PrintWords Go.Proofs.YthmenclkgngkkaaW.PrintMore Go.Proofs.YthmenclkgngkkaaW.PrintLast
def Gw (w w' : World) : Prop := ∃ q os', w' = grow (w.drewN q) os'
theorem Gw.alloc {w w' : World} (h : Gw w w') (o : Obj) : Gw w (w'.alloc o) := by
 obtain ⟨q, os, rfl⟩ := h
 exact ⟨q, os.push o, by rw [alloc_eq_grow, grow_grow]; rfl⟩
theorem Gw.drewN {w w' : World} (h : Gw w w') (n : Nat) : Gw w (w'.drewN n) := by
 obtain ⟨q, os, rfl⟩ := h
 exact ⟨q + n, os, by rw [← World.drewN_drewN]; rfl⟩
theorem Gw.refl (w : World) : Gw w w := ⟨0, #[], by simp [grow, World.drewN]⟩
def cmpi (a b : Int) : Int := if a < b then -1 else if a > b then 1 else 0
theorem cmp_f (a b : Int) : cmp_Compare_int.f a b = some (cmpi a b) := by
 unfold cmp_Compare_int.f cmp_isNaN_int.f cmpi
 simp
 by_cases h1 : a < b
 ·simp [h1]
 ·by_cases h2 : b < a <;> simp [h1, h2]
theorem cmpw_f (a b : Int) : api_Word_64.f a b = some (cmpi a b) := by
 unfold api_Word_64.f api_Word_87.f cmpi
 simp
 by_cases h1 : a < b
 ·simp [h1]
 ·by_cases h2 : b < a <;> simp [h1, h2]
def oc (x y : S26) : Int := if cmpi x.f0 y.f0 ≠ 0 then cmpi x.f0 y.f0 else if cmpi x.f1 y.f1 ≠ 0 then cmpi x.f1 y.f1 else cmpi x.f2 y.f2
theorem or_f (x y : S26) : cmp_Or_int.f 10 [cmpi x.f0 y.f0, cmpi x.f1 y.f1, cmpi x.f2 y.f2] = some (oc x y) := by
 have e : ∀ (a b c : Int), cmp_Or_int.f 10 [a, b, c] = some (if a ≠ 0 then a else if b ≠ 0 then b else c) := by
  intro a b c
  by_cases ha : a = 0
  ·by_cases hb : b = 0
   ·by_cases hc : c = 0
    ·simp [cmp_Or_int.f, cmp_Or_int.l0, Go.Proofs.YthmenclkgngkkaaW.PrintWords.rd, ha, hb, hc, wrap64]
    ·simp [cmp_Or_int.f, cmp_Or_int.l0, Go.Proofs.YthmenclkgngkkaaW.PrintWords.rd, ha, hb, hc, wrap64]
   ·simp [cmp_Or_int.f, cmp_Or_int.l0, Go.Proofs.YthmenclkgngkkaaW.PrintWords.rd, ha, hb, wrap64]
  ·simp [cmp_Or_int.f, cmp_Or_int.l0, Go.Proofs.YthmenclkgngkkaaW.PrintWords.rd, ha]
 exact e _ _ _
theorem arr_int {w : World} {b t : Nat} {l : List Int} (h : w.heap[b]? = some (.cells (l.map (Value.int .i64)).toArray t (0, 0))) (hl : l.length ≤ maxLen) : Kd.C (Kd.int .i64) w (some ⟨b, 0, none⟩) l.length l := by
 refine ⟨rfl, by unfold maxLen at hl; omega, fun _ => ⟨_, rfl, fun j p hj => ?_⟩⟩
 refine ⟨[.int .i64 p], rfl, rfl, fun i u hu => ?_⟩
 obtain rfl : i = 0 := by
  have := (List.getElem?_eq_some_iff.1 hu).1
  simp at this; omega
 rw [add_plain, blk_cell h]
 simp at hu
 subst hu
 have e1 : j * (Kd.int .i64).sz = j := by show j * 1 = j; omega
 simp [e1, hj]
set_option maxRecDepth 100000 in
set_option maxHeartbeats 4000000 in
theorem order_ok (x y : S26) (w : World) : Calls Try.prog 41 #[.agg #[.int .i64 x.f0, .int .i64 x.f1, .int .i64 x.f2], .agg #[.int .i64 y.f0, .int .i64 y.f1, .int .i64 y.f2]] w fun e w' => e = .returned (.int .i64 (oc x y)) ∧ Gw w w' := by
 go_enter Try.func41, Try.ntmps41
 go_wp2_with fail
 have hG : Gw w ((w.alloc (.cells #[.int .i64 x.f0, .int .i64 x.f1, .int .i64 x.f2] 26)).alloc (.cells #[.int .i64 y.f0, .int .i64 y.f1, .int .i64 y.f2] 26)) := ((Gw.refl w).alloc _).alloc _
 have ha : ((w.alloc (.cells #[.int .i64 x.f0, .int .i64 x.f1, .int .i64 x.f2] 26)).alloc (.cells #[.int .i64 y.f0, .int .i64 y.f1, .int .i64 y.f2] 26)).heap[w.heap.size]? = some (.cells #[.int .i64 x.f0, .int .i64 x.f1, .int .i64 x.f2] 26 (0, 0)) := by
  rw [Below.heap_alloc _ _ _ (by simp)]
  exact heap_alloc_new _ _
 have hb : ((w.alloc (.cells #[.int .i64 x.f0, .int .i64 x.f1, .int .i64 x.f2] 26)).alloc (.cells #[.int .i64 y.f0, .int .i64 y.f1, .int .i64 y.f2] 26)).heap[w.heap.size + 1]? = some (.cells #[.int .i64 y.f0, .int .i64 y.f1, .int .i64 y.f2] 26 (0, 0)) := by
  have := heap_alloc_new (w.alloc (.cells #[.int .i64 x.f0, .int .i64 x.f1, .int .i64 x.f2] 26)) (.cells #[.int .i64 y.f0, .int .i64 y.f1, .int .i64 y.f2] 26)
  rw [World.size_alloc] at this
  exact this
 generalize (w.alloc (.cells #[.int .i64 x.f0, .int .i64 x.f1, .int .i64 x.f2] 26)).alloc (.cells #[.int .i64 y.f0, .int .i64 y.f1, .int .i64 y.f2] 26) = w1 at hG ha hb ⊢
 have p0 : w1.cell? ⟨w.heap.size, 0, none⟩ = some (.int .i64 x.f0) := by rw [blk_cell ha]; rfl
 have p1 : w1.cell? ⟨w.heap.size, 1, none⟩ = some (.int .i64 x.f1) := by rw [blk_cell ha]; rfl
 have p2 : w1.cell? ⟨w.heap.size, 2, none⟩ = some (.int .i64 x.f2) := by rw [blk_cell ha]; rfl
 have p3 : w1.cell? ⟨w.heap.size + 1, 0, none⟩ = some (.int .i64 y.f0) := by rw [blk_cell hb]; rfl
 have p4 : w1.cell? ⟨w.heap.size + 1, 1, none⟩ = some (.int .i64 y.f1) := by rw [blk_cell hb]; rfl
 have p5 : w1.cell? ⟨w.heap.size + 1, 2, none⟩ = some (.int .i64 y.f2) := by rw [blk_cell hb]; rfl
 clear ha hb
 refine start_ (n := 18) (S := fun w' => w'.cell? ⟨w.heap.size, 0, none⟩ = some (.int .i64 x.f0) ∧ w'.cell? ⟨w.heap.size, 1, none⟩ = some (.int .i64 x.f1) ∧ w'.cell? ⟨w.heap.size, 2, none⟩ = some (.int .i64 x.f2) ∧ w'.cell? ⟨w.heap.size + 1, 0, none⟩ = some (.int .i64 y.f0) ∧ w'.cell? ⟨w.heap.size + 1, 1, none⟩ = some (.int .i64 y.f1) ∧ w'.cell? ⟨w.heap.size + 1, 2, none⟩ = some (.int .i64 y.f2)) (ds := [15, 16]) #[false,false,false,false,false,false,false,false,false,false,false,false,false,false,false,false,false,false] (by kernel_rfl) rfl rfl ⟨p0, p1, p2, p3, p4, p5⟩ (fun hHeld => ?_)
 refine pure_ (i := 0) (N := some 5) (v := ?_) (a' := ?_) #[true,false,false,false,false,false,false,false,false,false,false,false,false,false,false,false,false,false] rfl rfl (by kernel_rfl) (fun _ _ _ h => h) (Or.inl ⟨by rfl, ?_⟩) ?_ ?_
 rotate_left
 ·intro w'
  go_simp
  with_reducible rfl
 rotate_left
 ·simp only [Act.put, List.setIfInBounds_toArray, List.set_cons_zero, List.set_cons_succ, i64_w, i32_w]
  rfl
 refine pure_ (i := 2) (N := some 7) (v := ?_) (a' := ?_) #[true,false,true,false,false,false,false,false,false,false,false,false,false,false,false,false,false,false] rfl rfl (by kernel_rfl) (fun _ _ _ h => h) (Or.inl ⟨by rfl, ?_⟩) ?_ ?_
 rotate_left
 ·intro w'
  go_simp
  with_reducible rfl
 rotate_left
 ·simp only [Act.put, List.setIfInBounds_toArray, List.set_cons_zero, List.set_cons_succ, i64_w, i32_w]
  rfl
 refine pure_ (i := 5) (N := some 10) (v := ?_) (a' := ?_) #[true,false,true,false,false,true,false,false,false,false,false,false,false,false,false,false,false,false] rfl rfl (by kernel_rfl) (fun _ _ _ h => h) (Or.inl ⟨by rfl, ?_⟩) ?_ ?_
 rotate_left
 ·intro w'
  go_simp
  with_reducible rfl
 rotate_left
 ·simp only [Act.put, List.setIfInBounds_toArray, List.set_cons_zero, List.set_cons_succ, i64_w, i32_w]
  rfl
 refine pure_ (i := 7) (N := some 12) (v := ?_) (a' := ?_) #[true,false,true,false,false,true,false,true,false,false,false,false,false,false,false,false,false,false] rfl rfl (by kernel_rfl) (fun _ _ _ h => h) (Or.inl ⟨by rfl, ?_⟩) ?_ ?_
 rotate_left
 ·intro w'
  go_simp
  with_reducible rfl
 rotate_left
 ·simp only [Act.put, List.setIfInBounds_toArray, List.set_cons_zero, List.set_cons_succ, i64_w, i32_w]
  rfl
 refine pure_ (i := 10) (N := some 15) (v := ?_) (a' := ?_) #[true,false,true,false,false,true,false,true,false,false,true,false,false,false,false,false,false,false] rfl rfl (by kernel_rfl) (fun _ _ _ h => h) (Or.inl ⟨by rfl, ?_⟩) ?_ ?_
 rotate_left
 ·intro w'
  go_simp
  with_reducible rfl
 rotate_left
 ·simp only [Act.put, List.setIfInBounds_toArray, List.set_cons_zero, List.set_cons_succ, i64_w, i32_w]
  rfl
 refine pure_ (i := 12) (N := some 17) (v := ?_) (a' := ?_) #[true,false,true,false,false,true,false,true,false,false,true,false,true,false,false,false,false,false] rfl rfl (by kernel_rfl) (fun _ _ _ h => h) (Or.inl ⟨by rfl, ?_⟩) ?_ ?_
 rotate_left
 ·intro w'
  go_simp
  with_reducible rfl
 rotate_left
 ·simp only [Act.put, List.setIfInBounds_toArray, List.set_cons_zero, List.set_cons_succ, i64_w, i32_w]
  rfl
 refine take_ (i := 1) (N := some 6) (v := ?_) (a' := ?_) #[true,true,true,false,false,true,false,true,false,false,true,false,true,false,false,false,false,false] rfl rfl (by kernel_rfl) (fun _ _ _ h => h) (Or.inl ⟨by rfl, ?_⟩) hHeld ?_ ?_
 rotate_left
 ·rintro w' ⟨s0, s1, s2, s3, s4, s5⟩
  go_simp
  with_reducible rfl
 rotate_left
 ·simp only [Act.put, List.setIfInBounds_toArray, List.set_cons_zero, List.set_cons_succ, i64_w, i32_w]
  rfl
 refine take_ (i := 3) (N := some 8) (v := ?_) (a' := ?_) #[true,true,true,true,false,true,false,true,false,false,true,false,true,false,false,false,false,false] rfl rfl (by kernel_rfl) (fun _ _ _ h => h) (Or.inl ⟨by rfl, ?_⟩) hHeld ?_ ?_
 rotate_left
 ·rintro w' ⟨s0, s1, s2, s3, s4, s5⟩
  go_simp
  with_reducible rfl
 rotate_left
 ·simp only [Act.put, List.setIfInBounds_toArray, List.set_cons_zero, List.set_cons_succ, i64_w, i32_w]
  rfl
 refine take_ (i := 6) (N := some 11) (v := ?_) (a' := ?_) #[true,true,true,true,false,true,true,true,false,false,true,false,true,false,false,false,false,false] rfl rfl (by kernel_rfl) (fun _ _ _ h => h) (Or.inl ⟨by rfl, ?_⟩) hHeld ?_ ?_
 rotate_left
 ·rintro w' ⟨s0, s1, s2, s3, s4, s5⟩
  go_simp
  with_reducible rfl
 rotate_left
 ·simp only [Act.put, List.setIfInBounds_toArray, List.set_cons_zero, List.set_cons_succ, i64_w, i32_w]
  rfl
 refine take_ (i := 8) (N := some 13) (v := ?_) (a' := ?_) #[true,true,true,true,false,true,true,true,true,false,true,false,true,false,false,false,false,false] rfl rfl (by kernel_rfl) (fun _ _ _ h => h) (Or.inl ⟨by rfl, ?_⟩) hHeld ?_ ?_
 rotate_left
 ·rintro w' ⟨s0, s1, s2, s3, s4, s5⟩
  go_simp
  with_reducible rfl
 rotate_left
 ·simp only [Act.put, List.setIfInBounds_toArray, List.set_cons_zero, List.set_cons_succ, i64_w, i32_w]
  rfl
 refine take_ (i := 11) (N := some 16) (v := ?_) (a' := ?_) #[true,true,true,true,false,true,true,true,true,false,true,true,true,false,false,false,false,false] rfl rfl (by kernel_rfl) (fun _ _ _ h => h) (Or.inl ⟨by rfl, ?_⟩) hHeld ?_ ?_
 rotate_left
 ·rintro w' ⟨s0, s1, s2, s3, s4, s5⟩
  go_simp
  with_reducible rfl
 rotate_left
 ·simp only [Act.put, List.setIfInBounds_toArray, List.set_cons_zero, List.set_cons_succ, i64_w, i32_w]
  rfl
 refine take_ (i := 13) (N := some 18) (v := ?_) (a' := ?_) #[true,true,true,true,false,true,true,true,true,false,true,true,true,true,false,false,false,false] rfl rfl (by kernel_rfl) (fun _ _ _ h => h) (Or.inl ⟨by rfl, ?_⟩) hHeld ?_ ?_
 rotate_left
 ·rintro w' ⟨s0, s1, s2, s3, s4, s5⟩
  go_simp
  with_reducible rfl
 rotate_left
 ·simp only [Act.put, List.setIfInBounds_toArray, List.set_cons_zero, List.set_cons_succ, i64_w, i32_w]
  rfl
 refine one_ (i := 4) (N := some 9) #[true,true,true,true,true,true,true,true,true,false,true,true,true,true,false,false,false,false] rfl rfl (by kernel_rfl) (by decide) (fun K hK => ?_)
 refine goes_ Try.func63 (by kernel_rfl) rfl #[.int .i64 x.f0, .int .i64 y.f0] (by rfl) rfl rfl (by simp only [List.map_toArray, List.map_cons, List.map_nil]; rfl) ?_
 with_reducible refine (cmp_Compare_int.calls _ _ _ _ (cmp_f _ _)).mono ?_
 rintro e w4 ⟨rfl, ⟨n4, rfl⟩⟩
 refine ⟨_, rfl, ?_⟩
 refine hK.out _ _ ⟨p0, p1, p2, p3, p4, p5⟩ (fun hHeld => ?_)
 clear hK K
 refine norm_ (a' := ?_) ?_ ?_
 rotate_left
 ·show Act.put _ (some 9) _ = _
  simp only [Act.put, List.setIfInBounds_toArray, List.set_cons_zero, List.set_cons_succ, i64_w, i32_w]
  rfl
 refine one_ (i := 9) (N := some 14) #[true,true,true,true,true,true,true,true,true,true,true,true,true,true,false,false,false,false] rfl rfl (by kernel_rfl) (by decide) (fun K hK => ?_)
 refine goes_ Try.func63 (by kernel_rfl) rfl #[.int .i64 x.f1, .int .i64 y.f1] (by rfl) rfl rfl (by simp only [List.map_toArray, List.map_cons, List.map_nil]; rfl) ?_
 with_reducible refine (cmp_Compare_int.calls _ _ _ _ (cmp_f _ _)).mono ?_
 rintro e w9 ⟨rfl, ⟨n9, rfl⟩⟩
 refine ⟨_, rfl, ?_⟩
 refine hK.out _ _ ⟨p0, p1, p2, p3, p4, p5⟩ (fun hHeld => ?_)
 clear hK K
 refine norm_ (a' := ?_) ?_ ?_
 rotate_left
 ·show Act.put _ (some 14) _ = _
  simp only [Act.put, List.setIfInBounds_toArray, List.set_cons_zero, List.set_cons_succ, i64_w, i32_w]
  rfl
 refine one_ (i := 14) (N := some 19) #[true,true,true,true,true,true,true,true,true,true,true,true,true,true,true,false,false,false] rfl rfl (by kernel_rfl) (by decide) (fun K hK => ?_)
 refine goes_ Try.func64 (by kernel_rfl) rfl #[.int .i64 x.f2, .int .i64 y.f2] (by rfl) rfl rfl (by simp only [List.map_toArray, List.map_cons, List.map_nil]; rfl) ?_
 with_reducible refine (api_Word_64.calls _ _ _ _ (cmpw_f _ _)).mono ?_
 rintro e w14 ⟨rfl, ⟨n14, rfl⟩⟩
 refine ⟨_, rfl, ?_⟩
 refine hK.out _ _ ⟨p0, p1, p2, p3, p4, p5⟩ (fun hHeld => ?_)
 clear hK K
 refine norm_ (a' := ?_) ?_ ?_
 rotate_left
 ·show Act.put _ (some 19) _ = _
  simp only [Act.put, List.setIfInBounds_toArray, List.set_cons_zero, List.set_cons_succ, i64_w, i32_w]
  rfl
 refine last_ (i := 15) (N := some 20) #[true,true,true,true,true,true,true,true,true,true,true,true,true,true,true,true,false,false] rfl rfl (by kernel_rfl) (by decide) (fun K hK => ?_)
 refine value_ (w1 := ?_) (v := ?_) (by rfl) rfl ?_ ?_
 rotate_left 2
 ·go_simp
  constructor
  ·rfl
  ·rfl
 have hG15 := hG.drewN (1 + n4 + n9 + n14)
 have hG16 := hG15.alloc (.cells #[.int .i64 (cmpi x.f0 y.f0), .int .i64 (cmpi x.f1 y.f1), .int .i64 (cmpi x.f2 y.f2)] 3)
 have hC16 : Kd.C (Kd.int .i64) ((w1.drewN (1 + n4 + n9 + n14)).alloc (.cells #[.int .i64 (cmpi x.f0 y.f0), .int .i64 (cmpi x.f1 y.f1), .int .i64 (cmpi x.f2 y.f2)] 3)) (some ⟨w1.heap.size, 0, none⟩) 3 [cmpi x.f0 y.f0, cmpi x.f1 y.f1, cmpi x.f2 y.f2] := arr_int (heap_alloc_new ((w1.drewN (1 + n4 + n9 + n14))) (.cells #[.int .i64 (cmpi x.f0 y.f0), .int .i64 (cmpi x.f1 y.f1), .int .i64 (cmpi x.f2 y.f2)] 3)) (by simp [maxLen])
 have hcall : Calls Try.prog 62 #[.slice (some ⟨w1.heap.size, 0, none⟩) 3 3] ((w1.drewN (1 + n4 + n9 + n14)).alloc (.cells #[.int .i64 (cmpi x.f0 y.f0), .int .i64 (cmpi x.f1 y.f1), .int .i64 (cmpi x.f2 y.f2)] 3)) fun e w' => e = .returned (.int .i64 (oc x y)) ∧ Drawn0 ((w1.drewN (1 + n4 + n9 + n14)).alloc (.cells #[.int .i64 (cmpi x.f0 y.f0), .int .i64 (cmpi x.f1 y.f1), .int .i64 (cmpi x.f2 y.f2)] 3)) w' := cmp_Or_int.calls 10 (some ⟨w1.heap.size, 0, none⟩) 3 [cmpi x.f0 y.f0, cmpi x.f1 y.f1, cmpi x.f2 y.f2] _ _ hC16 (Nat.le_refl 3) (or_f x y)
 refine hK.out _ _ ?_
 clear hK K
 refine norm_ (a' := ?_) ?_ ?_
 rotate_left
 ·show Act.put _ (some 20) _ = _
  simp only [Act.put, List.setIfInBounds_toArray, List.set_cons_zero, List.set_cons_succ, i64_w, i32_w]
  rfl
 refine last_ (i := 16) (N := some 21) #[true,true,true,true,true,true,true,true,true,true,true,true,true,true,true,true,true,false] rfl rfl (by kernel_rfl) (by decide) (fun K hK => ?_)
 refine goes_ Try.func62 (by kernel_rfl) rfl #[.slice (some ⟨w1.heap.size, 0, none⟩) 3 3] (by rfl) rfl rfl (by simp only [List.map_toArray, List.map_cons, List.map_nil]; rfl) ?_
 with_reducible refine (hcall).mono ?_
 rintro e w16 ⟨rfl, ⟨n16, rfl⟩⟩
 refine ⟨_, rfl, ?_⟩
 have hG17 := hG16.drewN n16
 refine hK.out _ _ ?_
 clear hK K
 refine norm_ (a' := ?_) ?_ ?_
 rotate_left
 ·show Act.put _ (some 21) _ = _
  simp only [Act.put, List.setIfInBounds_toArray, List.set_cons_zero, List.set_cons_succ, i64_w, i32_w]
  rfl
 refine pure_ (i := 17) (N := some 4) (v := ?_) (a' := ?_) #[true,true,true,true,true,true,true,true,true,true,true,true,true,true,true,true,true,true] rfl rfl (by kernel_rfl) (fun _ _ _ h => h) (Or.inl ⟨by rfl, ?_⟩) ?_ ?_
 rotate_left
 ·intro w'
  go_simp
  with_reducible rfl
 rotate_left
 ·simp only [Act.put, List.setIfInBounds_toArray, List.set_cons_zero, List.set_cons_succ, i64_w, i32_w]
  rfl
 refine done_ (by kernel_rfl) ?_
 have HG := Lib.hid hG17
 clear hG17 hG16 hG15 hC16 hcall hG p0 p1 p2 p3 p4 p5 hHeld
 go_wp2
 go_ret
 exact ⟨rfl, HG.out⟩
theorem ltOc (x y : S26) : ltOf oc x y = decide (x.f0 < y.f0 ∨ x.f0 = y.f0 ∧ (x.f1 < y.f1 ∨ x.f1 = y.f1 ∧ x.f2 < y.f2)) := by
 unfold ltOf oc cmpi
 rcases Int.lt_trichotomy x.f0 y.f0 with h | h | h
 ·simp [h, Int.ne_of_lt h]
 ·rcases Int.lt_trichotomy x.f1 y.f1 with h1 | h1 | h1
  ·simp [h, h1]
  ·rcases Int.lt_trichotomy x.f2 y.f2 with h2 | h2 | h2
   ·simp [h, h1, h2]
   ·simp [h, h1, h2]
   ·have := Int.not_lt.2 (Int.le_of_lt h2); simp [h, h1, h2, this]
  ·have a1 := Int.not_lt.2 (Int.le_of_lt h1)
   have a2 : ¬ x.f1 = y.f1 := by omega
   simp [h, h1, a1, a2]
 ·have a1 := Int.not_lt.2 (Int.le_of_lt h)
  have a2 : ¬ x.f0 = y.f0 := by omega
  simp [h, a1, a2]
theorem swoOc : SWO (ltOf oc) where
 irrefl x := by rw [ltOc]; simp
 trans x y z h1 h2 := by rw [ltOc] at *; simp only [decide_eq_true_eq] at *; omega
 ntrans x y z h1 h2 := by rw [ltOc] at *; simp only [decide_eq_false_iff_not] at *; omega
theorem totOc (x y : S26) (h1 : ltOf oc x y = false) (h2 : ltOf oc y x = false) : x = y := by
 rw [ltOc] at h1 h2
 simp only [decide_eq_false_iff_not] at h1 h2
 obtain ⟨a, b, c⟩ := x
 obtain ⟨d, e, f⟩ := y
 simp at h1 h2 ⊢
 omega
end Go.Proofs.Ythmenclkgngkkaa.M
end
section
/- slices.SortFunc of messages. -/
set_option linter.unusedSimpArgs false
set_option linter.unusedVariables false
set_option linter.unusedSimpArgs false
set_option linter.unusedVariables false
namespace Go.Proofs.Ythmenclkgngkkaa.M
open Go.RowKit Go.Sort Go.Shelf Go.Proofs.Ythmenclkgngkkaa.PA Go.Proofs.Ythmenclkgngkkaa.Sk Go.Proofs.YthmenclkgngkkaaW.PrintWords Go.Proofs.YthmenclkgngkkaaW.PrintMore Go.Proofs.YthmenclkgngkkaaW.PrintLast
def e3 (x : S26) : List Value := [.int .i64 x.f0, .int .i64 x.f1, .int .i64 x.f2]
instance : Inhabited S26 := ⟨⟨0, 0, 0⟩⟩
def le (x y : S26) : Bool := !(ltOf oc) y x
theorem sort_some (g c : Nat) (l : List S26) (base : Nat) (w : World) (hr : Kd.R k26 26 w base (fun _ => True) (.slice (some ⟨g, 0, none⟩) l.length c) l) (hl : l.length ≤ 1000000000000) :
  Calls Try.prog 47 #[.slice (some ⟨g, 0, none⟩) l.length c, .func (.func 41) #[] #[]] w fun e w' => e = .returned (.tuple #[]) ∧ Kd.R k26 26 w' base (fun _ => True) (.slice (some ⟨g, 0, none⟩) l.length c) (l.mergeSort le) ∧ Below base w w' := by
 obtain ⟨hok, inner, hown, hreps⟩ := hr
 have hfm : inner = l.flatMap e3 := fm_of_reps (k := 3) (fun _ => rfl) (by decide) (fun x c h => k26_openM h) hreps
 subst hfm
 have hH : HoldsK e3 3 w g 0 l.toArray := own_holds (fun _ => rfl) (by decide) rfl hown
 have hgb : base ≤ g := own_base hown g rfl
 have hgl : g < w.heap.size := own_lt hown g rfl
 have eg : ∀ args w, (callFunc 41 args).run Try.prog w = .ok (.enter 41 args) w := enters_of Try.func41 (by kernel_rfl) rfl
 have hcon := AnyQ.slices_SortFunc_total Try.sortF 3 Try.isAgg26 Try.sizeOf26 e3 (fun _ => rfl) (fun x v hv => by simp [e3] at hv; rcases hv with rfl | rfl | rfl <;> rfl) oc swoOc 41 #[] g 0 c l.toArray w eg (fun m os dk _ x y => (order_ok x y _).mono fun _ _ h => h) hH hgl (by simp; omega) totOc
 refine Calls.mono (show Calls Try.prog 47 _ _ _ from hcon) fun e w' h => ?_
 obtain ⟨he, m, os, rfl⟩ := h
 have hy : (l.mergeSort le).length = l.length := by simp
 obtain ⟨h1, h2⟩ := sortW_own (enc := e3) (k := 3) (m := m) (os := os) (ys := l.mergeSort le) (fun _ => rfl) (by decide) rfl hy hown
 refine ⟨he, ⟨fun _ _ => trivial, (l.mergeSort le).flatMap e3, by rw [hy]; exact h1, reps_fm (enc := e3) (k := 3) (fun _ => rfl) (fun x => k26_mkM _ _ _ x) _⟩, (Below.refl base w).grown h2 (by omega) (fun k hk => by injection hk with hk; omega)⟩
theorem sort_ok (A : Option Addr) (n c : Nat) (l : List S26) (base : Nat) (w : World) (hr : Kd.R k26 26 w base (fun _ => True) (.slice A n c) l) (hl : l.length ≤ 1000000000000) :
  Calls Try.prog 47 #[.slice A n c, .func (.func 41) #[] #[]] w fun e w' => e = .returned (.tuple #[]) ∧ Kd.R k26 26 w' base (fun _ => True) (.slice A n c) (l.mergeSort le) ∧ Below base w w' := by
 have hn := (Kd.R_reads' hr).1
 subst hn
 obtain ⟨_, inner, hown, _⟩ := id hr
 rcases hown.2 with ⟨hv, hl0⟩ | ⟨g, cap, cur, hv, _⟩
 ·injection hv with hA hn hcc
  subst hA; subst hcc
  have hl0 : l = [] := List.length_eq_zero_iff.1 hn
  subst hl0
  refine Calls.mono (show Calls Try.prog 47 _ _ _ from AnyF.slices_SortFunc_none Try.sortF none 0 (.func (.func 41) #[] #[]) w) fun e w' h => ?_
  obtain ⟨he, rfl⟩ := h
  exact ⟨he, by simpa using hr, Below.refl _ _⟩
 ·injection hv with hA hn hcc
  subst hA; subst hcc
  exact sort_some g c l base w hr hl
end Go.Proofs.Ythmenclkgngkkaa.M
end
section
/- Messages of one node and tag as one: keys, and what it comes to. -/
set_option linter.unusedSimpArgs false
set_option linter.unusedVariables false
namespace Go.Proofs.Ythmenclkgngkkaa.M
open Go.RowKit Go.Proofs.Ythmenclkgngkkaa.PA Go.Proofs.Ythmenclkgngkkaa.Mp Go.Proofs.YthmenclkgngkkaaW.PrintWords Go.Proofs.YthmenclkgngkkaaW.PrintLast Go.Proofs.YthmenclkgngkkaaW.PrintMore
theorem laid : laidOutB Try.prog = true := by kernel_rfl
theorem keyed : Maps.Keyed Try.prog 76 := Maps.Keyed.of_law (deep_law_gate laid (of_decide_eq_true (by kernel_rfl)) (of_decide_eq_true (by kernel_rfl)) (by kernel_rfl) (by kernel_rfl))
def ke (a b : Int) : Value := .agg #[.int .i64 a, .int .i64 b]
theorem key_ok (a b : Int) (wa : (Lit.int .i64 a).wf = true) (wb : (Lit.int .i64 b).wf = true) : ∃ l, keyOf Try.prog 76 (ke a b) = some l := by
  have hkt : Try.prog.keyType 76 = true := by kernel_rfl
  have hu : Try.prog.underlying 76 = some (.array 2 3) := by kernel_rfl
  have hu3 : Try.prog.underlying 3 = some (.int .i64) := by kernel_rfl
  have c3 : Try.prog.cellsOf 3 = 1 := by kernel_rfl
  have c76 : Try.prog.cellsOf 76 = 2 := by kernel_rfl
  have hf : (ke a b).formed Try.prog 76 = true := by
    unfold ke Value.formed
    simp only [hu]
    rw [c76]; rfl
  have hl : Try.prog.keyLits (Try.prog.types.size + 1) 76 (ke a b).cells.toList = some [.int .i64 a, .int .i64 b] := by
    obtain ⟨m, hm⟩ : ∃ m, Try.prog.types.size = m + 1 := ⟨Try.prog.types.size - 1, by decide +kernel⟩
    rw [hm]
    unfold Program.keyLits
    simp only [hu, ke, Value.cells]
    rw [if_pos (by rw [c76]; rfl)]
    simp [List.range_succ, List.mapM_cons, List.mapM_nil, c3, Program.keyLits, hu3, wa, wb]
  unfold keyOf
  simp only [hu]
  rw [if_pos (by rw [hkt, hf]; rfl), hl]
  exact ⟨_, rfl⟩
theorem ke_inj {a b c d : Int} (h : ke a b = ke c d) : a = c ∧ b = d := by
  simp [ke] at h
  exact h
theorem lit_wf {a : Int} (h0 : -9223372036854775808 ≤ a) (h1 : a ≤ 9223372036854775807) : (Lit.int .i64 a).wf = true := by
  simp [Lit.wf, IntKind.min, IntKind.max, IntKind.signed, IntKind.bits]
  omega
def tg (ops : List Int) (m : S26) : Prop := 0 ≤ m.f1 ∧ m.f1 < ops.length
instance (ops : List Int) (m : S26) : Decidable (tg ops m) := by unfold tg; infer_instance
def opOf (ops : List Int) (m : S26) : Int := ops.getD m.f1.toNat 0
def same (a m : S26) : Prop := a.f0 = m.f0 ∧ a.f1 = m.f1
instance (a m : S26) : Decidable (same a m) := by unfold same; infer_instance
def addm (ops : List Int) : List S26 → S26 → List S26
  | [], m => [m]
  | a :: acc, m => if same a m then ⟨m.f0, m.f1, red (opOf ops m) a.f2 m.f2⟩ :: acc else a :: addm ops acc m
def comb (ops : List Int) (l : List S26) : List S26 := l.foldl (addm ops) []
def inr (m : S26) : Prop := (-9223372036854775808 ≤ m.f0 ∧ m.f0 ≤ 9223372036854775807) ∧ (-9223372036854775808 ≤ m.f1 ∧ m.f1 ≤ 9223372036854775807)
instance (m : S26) : Decidable (inr m) := by unfold inr; infer_instance
def mail_Combined.f (l : List S26) (ops : List Int) : Option (List S26 × Int) := if (∀ m ∈ l, inr m) ∧ l.length ≤ 1000000000000 ∧ ops.length ≤ 1000000000000 then (if ∀ m ∈ l, tg ops m then (if ∀ m ∈ l, takes (opOf ops m) then some ((comb ops l).mergeSort le, 0) else some ([], 3)) else some ([], 2)) else none
theorem addm_new (ops : List Int) (m : S26) : ∀ acc : List S26, (∀ a ∈ acc, ¬ same a m) → addm ops acc m = acc ++ [m]
  | [], _ => rfl
  | a :: acc, h => by
    rw [addm, if_neg (h a (by simp)), addm_new ops m acc (fun b hb => h b (by simp [hb]))]; rfl
theorem addm_old (ops : List Int) (m : S26) : ∀ (acc : List S26) (j : Nat) (hj : j < acc.length), same acc[j] m → (∀ i (hi : i < j), ¬ same (acc[i]'(Nat.lt_trans hi hj)) m) → addm ops acc m = acc.set j ⟨m.f0, m.f1, red (opOf ops m) acc[j].f2 m.f2⟩
  | a :: acc, 0, _, h, _ => by rw [addm, if_pos (show same a m from h)]; rfl
  | a :: acc, j + 1, hj, h, hn => by
    rw [addm, if_neg (show ¬ same a m from hn 0 (by omega)), addm_old ops m acc j (by simpa using hj) h (fun i hi => hn (i + 1) (by omega))]; rfl
theorem addm_len (ops : List Int) (m : S26) : ∀ acc : List S26, (addm ops acc m).length ≤ acc.length + 1
  | [] => by simp [addm]
  | a :: acc => by
    rw [addm]; split
    · simp
    · have := addm_len ops m acc; simp; omega
def ents (acc : List S26) : List (Value × Value) := acc.map fun a => (ke a.f0 a.f1, .int .i64 a.f2)
theorem find_same (m : S26) : ∀ acc : List S26, (∀ a ∈ acc, ¬ same a m) ∨ ∃ j, ∃ hj : j < acc.length, same acc[j] m ∧ ∀ i (hi : i < j), ¬ same (acc[i]'(Nat.lt_trans hi hj)) m
  | [] => .inl (by simp)
  | a :: acc => by
    by_cases h : same a m
    · exact .inr ⟨0, by simp, h, fun i hi => absurd hi (by omega)⟩
    · rcases find_same m acc with h1 | ⟨j, hj, h1, h2⟩
      · exact .inl (fun b hb => by rcases List.mem_cons.1 hb with rfl | hb; exact h; exact h1 b hb)
      · refine .inr ⟨j + 1, by simpa using hj, h1, fun i hi => ?_⟩
        cases i with
        | zero => exact h
        | succ i => exact h2 i (by omega)
end Go.Proofs.Ythmenclkgngkkaa.M
end
section
/- The walk of mail.Combined. -/
set_option linter.unusedSimpArgs false
set_option linter.unusedVariables false
set_option linter.unusedSimpArgs false
set_option linter.unusedVariables false
namespace Go.Proofs.Ythmenclkgngkkaa.M
open Go.RowKit Go.Proofs.Ythmenclkgngkkaa.PA Go.Proofs.Ythmenclkgngkkaa.Mp Go.Proofs.YthmenclkgngkkaaW.PrintWords Go.Proofs.YthmenclkgngkkaaW.PrintLast Go.Proofs.YthmenclkgngkkaaW.PrintMore
theorem mkmap (t : TypeId) (W : World) : (Instr.makeMap t none).run Try.prog W = .ok (.map (some W.heap.size)) (W.alloc (.map #[] 0)) := by
 simp [Instr.makeMap, newObj, Result.andThen, Sem.run]
def wr2 (ops : List Int) (l : List S26) : Int := if ∀ m ∈ l, takes (opOf ops m) then 0 else 3
theorem wr2_snoc (ops : List Int) (l : List S26) (m : S26) : wr2 ops (l ++ [m]) = if takes (opOf ops m) then wr2 ops l else 3 := by
 unfold wr2
 by_cases h : takes (opOf ops m)
 ·rw [if_pos h]
  congr 1
  simp only [List.mem_append, List.mem_singleton, eq_iff_iff]
  exact ⟨fun q m hm => q m (.inl hm), fun q x hx => by rcases hx with hx | rfl; exact q x hx; exact h⟩
 ·rw [if_neg h, if_neg (fun q => h (q m (by simp)))]
theorem op_at {w : World} {A : Option Addr} {ops : List Int} {m : S26} (h : Kd.C kb w A ops.length ops) (ht : tg ops m) : ∃ ad, A = some ad ∧ w.cell? (ad.add m.f1.toNat) = some (.int .u8 (opOf ops m)) := by
 have hi : m.f1.toNat < ops.length := by unfold tg at ht; omega
 obtain ⟨ad, e, hq⟩ := byte_at h hi
 refine ⟨ad, e, ?_⟩
 rw [hq]
 simp [opOf, List.getD, List.getElem?_eq_getElem hi]
theorem ents_at {acc : List S26} {p : Nat} {key v : Value} (h : (ents acc)[p]? = some (key, v)) : ∃ a, acc[p]? = some a ∧ key = ke a.f0 a.f1 ∧ v = .int .i64 a.f2 := by
 unfold ents at h
 rw [List.getElem?_map] at h
 obtain ⟨a, ha, h1⟩ := Option.map_eq_some_iff.1 h
 injection h1 with h1 h2
 exact ⟨a, ha, h1.symm, h2.symm⟩
theorem ents_len (acc : List S26) : (ents acc).length = acc.length := by simp [ents]
theorem own_ne2 {W : World} {base : Nat} {ok : Nat → Prop} {v : Value} {xs : List S26} (h : Kd.R k26 26 W base ok v xs) {B r : Nat} {m : List (Value × Value)} {seen : Array Nat} (hR : RangeIs W B r m seen) : some B ≠ v.ownBlock ∧ some r ≠ v.ownBlock := by
 obtain ⟨_, inner, hown, _⟩ := h
 refine ⟨fun e => ?_, fun e => ?_⟩
 ·obtain ⟨cells, hc⟩ := own_typed hown B e.symm
  exact (hR.ne_cells hc).1 rfl
 ·obtain ⟨cells, hc⟩ := own_typed hown r e.symm
  exact (hR.ne_cells hc).2 rfl
theorem nxt {w W w6 : World} {v : Value} {xs : List S26} {B r : Nat} {m : List (Value × Value)} {seen : Array Nat} (hO : Kd.R k26 26 W w.heap.size (fun _ => True) v xs) (hR : RangeIs W B r m seen) (hB : Below w.heap.size w W) (hg : W.grownBy w6 (some r)) (hr : w.heap.size ≤ r) (o : Obj) :
  Kd.R k26 26 (w6.alloc o) w.heap.size (fun _ => True) v xs ∧ Below w.heap.size w (w6.alloc o) :=
 ⟨Kd.R_alloc (Kd.R_grown2 hO rfl hg (fun k hk => by injection hk with hk; rw [← hk]; exact (own_ne2 hO hR).2)) o, below_alloc (hB.grown hg hB.size (fun k hk => by injection hk with hk; omega)) o⟩
theorem le_trans (a b c : S26) (h1 : le a b = true) (h2 : le b c = true) : le a c = true := by
 unfold le at *
 rw [ltOc] at *
 simp only [Bool.not_eq_true', decide_eq_false_iff_not] at *
 omega
theorem le_total (a b : S26) : (le a b || le b a) = true := by
 unfold le
 rw [ltOc, ltOc]
 simp only [Bool.or_eq_true, Bool.not_eq_true', decide_eq_false_iff_not]
 omega
theorem le_antisymm {a b : S26} (h1 : le a b = true) (h2 : le b a = true) : a = b := by
 unfold le at *
 exact (totOc b a (by simpa using h1) (by simpa using h2)).symm
theorem sort_perm {l l' : List S26} (h : l.Perm l') : l.mergeSort le = l'.mergeSort le :=
 List.Perm.eq_of_pairwise (le := fun a b => le a b = true) (fun a b _ _ h1 h2 => le_antisymm h1 h2) (List.pairwise_mergeSort le_trans le_total l) (List.pairwise_mergeSort le_trans le_total l') (((List.mergeSort_perm l le).trans h).trans (List.mergeSort_perm l' le).symm)
theorem seen_perm {acc : List S26} {seen : Array Nat} (h : seen.toList.Perm (List.range (ents acc).length)) : (seen.toList.map (fun p => acc.getD p default)).Perm acc := by
 refine (h.map _).trans (List.Perm.of_eq ?_)
 rw [ents_len]
 apply List.ext_getElem?
 intro i
 rw [List.getElem?_map]
 by_cases hi : i < acc.length
 ·rw [List.getElem?_range hi]; simp [List.getD, List.getElem?_eq_getElem hi]
 ·rw [List.getElem?_eq_none (by simp; omega), List.getElem?_eq_none (by omega)]; rfl
set_option maxRecDepth 100000 in
set_option maxHeartbeats 8000000 in
theorem mail_Combined.calls (A0 : Option Addr) (c0 : Nat) (l0 : List S26) (A1 : Option Addr) (c1 : Nat) (ops : List Int) (r1 : List S26) (r2 : Int) (w : World) (hr0 : Kd.C k26 w A0 l0.length l0) (hc0 : l0.length ≤ c0) (hr1 : Kd.C kb w A1 ops.length ops) (hc1 : ops.length ≤ c1) (h : mail_Combined.f l0 ops = some (r1, r2)) :
  Calls Try.prog 17 #[.slice A0 l0.length c0, .slice A1 ops.length c1] w fun e w' => ∃ v0_ : Value, e = .returned (.tuple #[v0_, .int .i64 r2]) ∧ Kd.R k26 26 w' w.heap.size (fun _ => True) v0_ r1 ∧ Below w.heap.size w w' := by
 unfold mail_Combined.f at h
 split at h
 ·rename_i hq
  obtain ⟨hwf, hll, hol⟩ := hq
  have HF := Lib.hid h
  have HR := Lib.hid hr0
  have HR1 := Lib.hid hr1
  have HW := Lib.hid hwf
  clear h hr0 hr1 hwf
  go_enter Try.func17, Try.ntmps17
  go_wp2
  go_loopw [6, 22] (fun v6 v22 wr => ∃ i : Nat, i ≤ l0.length ∧ v6 = .int .i64 (wr2 ops (l0.take i)) ∧ v22 = .int .i64 i ∧ (∀ m ∈ l0.take i, tg ops m) ∧ Below w.heap.size w wr) (fun _ v22 _ => l0.length - (intOf v22).toNat)
  case atStart => exact ⟨0, Nat.zero_le _, rfl, rfl, by simp, Below.refl _ _⟩
  case round =>
   obtain ⟨i, hi, rfl, rfl, htg, hb⟩ := hrel
   have HTG := Lib.hid htg
   have HB := Lib.hid hb
   clear htg hb
   by_cases hlt : i < l0.length
   ·have di : decide ((i : Int) < (l0.length : Int)) = true := decide_eq_true (by omega)
    obtain ⟨ad, e, q0, q1, q2⟩ := msg_at HR.out hlt
    subst e
    replace q0 := (HB.out.cell (World.block_lt_of_cell? w _ q0)).trans q0
    replace q1 := (HB.out.cell (World.block_lt_of_cell? w _ q1)).trans q1
    replace q2 := (HB.out.cell (World.block_lt_of_cell? w _ q2)).trans q2
    obtain ⟨x, hx⟩ : ∃ x, x = l0[i] := ⟨_, rfl⟩
    rw [← hx] at q0 q1 q2
    have htk : l0.take (i + 1) = l0.take i ++ [x] := by rw [List.take_succ_eq_append_getElem hlt, hx]
    have HTK := Lib.hid htk
    have HXM := Lib.hid (show x ∈ l0 by rw [hx]; exact List.getElem_mem hlt)
    clear hx htk
    have hbad : ¬ tg ops x → r1 = [] ∧ r2 = 2 := fun hw => by
     have hres := HF.out
     rw [if_neg (fun h => hw (h x HXM.out))] at hres
     injection hres with hres
     injection hres with e1 e2
     exact ⟨e1.symm, e2.symm⟩
    by_cases h1 : x.f1 < 0
    ·have d1 : decide (x.f1 < 0) = true := decide_eq_true h1
     obtain ⟨rfl, rfl⟩ := hbad (fun h => by unfold tg at h; omega)
     have HB2 := Lib.hid (below_alloc HB.out (.cells #[.int .i64 x.f0, .int .i64 x.f1, .int .i64 x.f2] 26))
     clear h1 HF
     go_wp2
     go_ret2
     exact ⟨_, rfl, Kd.R_nil _ _ _ _ _, HB2.out⟩
    ·have d1 : decide (x.f1 < 0) = false := decide_eq_false h1
     by_cases h2 : (ops.length : Int) ≤ x.f1
     ·have d2 : decide ((ops.length : Int) ≤ x.f1) = true := decide_eq_true h2
      obtain ⟨rfl, rfl⟩ := hbad (fun h => by unfold tg at h; omega)
      have HB2 := Lib.hid (below_alloc HB.out (.cells #[.int .i64 x.f0, .int .i64 x.f1, .int .i64 x.f2] 26))
      clear h1 h2 HF
      go_wp2
      go_ret2
      exact ⟨_, rfl, Kd.R_nil _ _ _ _ _, HB2.out⟩
     ·have d2 : decide ((ops.length : Int) ≤ x.f1) = false := decide_eq_false h2
      have htg : tg ops x := by unfold tg; omega
      have dx0 : (0 ≤ x.f1) = True := eq_true (by omega)
      have dx1 : (x.f1 < (ops.length : Int)) = True := eq_true (by omega)
      obtain ⟨ad1, e, p0⟩ := op_at HR1.out htg
      subst e
      obtain ⟨bm, hbm⟩ : ∃ bm, bm = wr.heap.size := ⟨_, rfl⟩
      have hbA := below_alloc HB.out (.cells #[.int .i64 x.f0, .int .i64 x.f1, .int .i64 x.f2] 26)
      replace p0 := (hbA.cell (World.block_lt_of_cell? w _ p0)).trans p0
      have HB2 := Lib.hid hbA
      obtain ⟨o, ho⟩ : ∃ o, o = opOf ops x := ⟨_, rfl⟩
      rw [← ho] at p0
      obtain ⟨f, hf⟩ := reduces_told 5 o
      have HWR := Lib.hid (wr2_snoc ops (l0.take i) x)
      have HTX := Lib.hid htg
      clear h1 h2 hbad hbm hbA htg
      by_cases hto : takes o
      ·rw [decide_eq_true hto] at hf
       have hwr := HWR.out
       rw [← ho, if_pos hto, ← HTK.out] at hwr
       have HWR2 := Lib.hid hwr
       have HFF := Lib.hid hf
       clear hto hwr HWR hf ho
       go_wp2_with fail
       with_reducible refine (num_Reduces.calls _ _ _ _ _ HFF.out).mono ?_
       rintro e w1 ⟨rfl, ⟨nd, rfl⟩⟩
       go_wp2
       exact ⟨⟨i + 1, by omega, by rw [HWR2.out], by go_num, (by rw [HTK.out]; intro m hm; rcases List.mem_append.1 hm with h | h; exact HTG.out m h; rw [List.mem_singleton.1 h]; exact HTX.out), pw_below_drewN HB2.out _⟩, by simp [intOf]; omega⟩
      ·rw [decide_eq_false hto] at hf
       have hwr := HWR.out
       rw [← ho, if_neg hto, ← HTK.out] at hwr
       have HWR2 := Lib.hid hwr
       have HFF := Lib.hid hf
       clear hto hwr HWR hf ho
       go_wp2_with fail
       with_reducible refine (num_Reduces.calls _ _ _ _ _ HFF.out).mono ?_
       rintro e w1 ⟨rfl, ⟨nd, rfl⟩⟩
       go_wp2
       exact ⟨⟨i + 1, by omega, by rw [HWR2.out], by go_num, (by rw [HTK.out]; intro m hm; rcases List.mem_append.1 hm with h | h; exact HTG.out m h; rw [List.mem_singleton.1 h]; exact HTX.out), pw_below_drewN HB2.out _⟩, by simp [intOf]; omega⟩
   ·have di : decide ((i : Int) < (l0.length : Int)) = false := decide_eq_false (by omega)
    obtain rfl : i = l0.length := by omega
    have htg := HTG.out
    have hres := HF.out
    rw [List.take_length] at htg
    rw [if_pos htg] at hres
    by_cases htk : ∀ m ∈ l0, takes (opOf ops m)
    ·rw [if_pos htk] at hres
     injection hres with hres
     injection hres with e1 e2
     subst e1; subst e2
     have h0 : wr2 ops (l0.take l0.length) = 0 := by rw [List.take_length]; exact if_pos htk
     rw [h0]
     have HTT := Lib.hid htk
     have HTA := Lib.hid htg
     clear htk htg h0 HTG HF
     have hmm := mkmap 75
     have hM0 : MapIs Try.prog 76 (wr.alloc (.map #[] 0)) wr.heap.size (ents []) := MapIs.made wr
     have hB0 := below_alloc HB.out (.map #[] 0)
     have hge : w.heap.size ≤ wr.heap.size := HB.out.size
     go_wp2_with fail
     generalize wr.alloc (.map #[] 0) = w1 at hM0 hB0 ⊢
     obtain ⟨B, hB⟩ : ∃ B, B = wr.heap.size := ⟨_, rfl⟩
     rw [← hB] at hM0 hge ⊢
     have HM0 := Lib.hid hM0
     have HB0 := Lib.hid hB0
     clear hB HB hM0 hB0 hmm hlt hi di
     go_loopw [54] (fun v54 wq => ∃ i : Nat, i ≤ l0.length ∧ v54 = .int .i64 i ∧ MapIs Try.prog 76 wq B (ents ((l0.take i).foldl (addm ops) [])) ∧ ((l0.take i).foldl (addm ops) []).length ≤ i ∧ Below w.heap.size w wq) (fun v54 _ => l0.length - (intOf v54).toNat)
     case atStart => exact ⟨0, Nat.zero_le _, rfl, HM0.out, by simp, HB0.out⟩
     case round =>
      clear HM0 HB0
      obtain ⟨i, hi, rfl, hM, hal, hb⟩ := hrel
      obtain ⟨acc, hacc⟩ : ∃ acc, acc = (l0.take i).foldl (addm ops) [] := ⟨_, rfl⟩
      rw [← hacc] at hM hal
      have HM := Lib.hid hM
      have HB := Lib.hid hb
      have HACC := Lib.hid hacc
      clear hM hb hacc
      by_cases hlt : i < l0.length
      ·have di : decide ((i : Int) < (l0.length : Int)) = true := decide_eq_true (by omega)
       obtain ⟨ad, e, q0, q1, q2⟩ := msg_at HR.out hlt
       subst e
       replace q0 := (HB.out.cell (World.block_lt_of_cell? w _ q0)).trans q0
       replace q1 := (HB.out.cell (World.block_lt_of_cell? w _ q1)).trans q1
       replace q2 := (HB.out.cell (World.block_lt_of_cell? w _ q2)).trans q2
       obtain ⟨x, hx⟩ : ∃ x, x = l0[i] := ⟨_, rfl⟩
       rw [← hx] at q0 q1 q2
       have hxm : x ∈ l0 := by rw [hx]; exact List.getElem_mem hlt
       have hnx : (l0.take (i + 1)).foldl (addm ops) [] = addm ops acc x := by rw [List.take_succ_eq_append_getElem hlt, List.foldl_append, ← HACC.out, hx]; rfl
       have htx := HTA.out x hxm
       have hox := HTT.out x hxm
       have hir := HW.out x hxm
       have hlen := addm_len ops x acc
       rw [← hnx] at hlen
       obtain ⟨lk, hlk⟩ := key_ok x.f0 x.f1 (lit_wf hir.1.1 hir.1.2) (lit_wf hir.2.1 hir.2.2)
       have HNX := Lib.hid hnx
       obtain ⟨w2, hw2⟩ : ∃ w2, w2 = (wr.alloc (.cells #[.int .i64 x.f0, .int .i64 x.f1, .int .i64 x.f2] 26)).alloc (.cells #[.int .i64 x.f0, .int .i64 x.f1] 76) := ⟨_, rfl⟩
       have hb2 : Below wr.heap.size wr w2 := by rw [hw2]; exact below_alloc (below_alloc (Below.refl _ _) _) _
       have pm : w2.heap[wr.heap.size]? = some (.cells #[.int .i64 x.f0, .int .i64 x.f1, .int .i64 x.f2] 26 (0, 0)) := by
        rw [hw2, Below.heap_alloc _ _ _ (by simp)]
        exact heap_alloc_new _ _
       have pk : w2.heap[wr.heap.size + 1]? = some (.cells #[.int .i64 x.f0, .int .i64 x.f1] 76 (0, 0)) := by
        have := heap_alloc_new (wr.alloc (.cells #[.int .i64 x.f0, .int .i64 x.f1, .int .i64 x.f2] 26)) (.cells #[.int .i64 x.f0, .int .i64 x.f1] 76)
        rw [World.size_alloc] at this
        rw [hw2]; exact this
       have hM2 := HM.out.below hb2
       have hB2 := below_step HB.out hb2
       have hHW := Lib.hid hw2
       clear hx hnx hir
       rcases find_same x acc with hno | ⟨j, hj, hs, hfst⟩
       ·have hn : ∀ p ∈ ents acc, p.1 ≠ ke x.f0 x.f1 := fun p hp e => by
         obtain ⟨a, ha, rfl⟩ := List.mem_map.1 hp
         exact hno a ha (ke_inj e)
        have hl := lookup_none keyed (t := 75) (e := 24) (by exact Try.underlying75) hM2 (z := .int .i64 0) (Try.zeroValue24 w2) hlk hn true
        rw [if_pos rfl] at hl
        obtain ⟨w3, hup, hM3, hg3⟩ := update_new keyed (t := 75) (e := 24) Try.underlying75 hM2 (val := .int .i64 x.f2) hlk hn
        have hnew := addm_new ops x acc hno
        have hents : ents acc ++ [(ke x.f0 x.f1, .int .i64 x.f2)] = ents (addm ops acc x) := by rw [hnew]; simp [ents]
        rw [hents, ← HNX.out] at hM3
        have hB3 : Below w.heap.size w w3 := hB2.grown hg3 hB2.size (fun k hk => by injection hk with hk; omega)
        have HM3 := Lib.hid hM3
        have HB3 := Lib.hid hB3
        have p2 : w2.cell? ⟨wr.heap.size, 2, none⟩ = some (.int .i64 x.f2) := by rw [blk_cell pm]; rfl
        have k0 : w2.cell? ⟨wr.heap.size + 1, 0, none⟩ = some (.int .i64 x.f0) := by rw [blk_cell pk]; rfl
        have k1 : w2.cell? ⟨wr.heap.size + 1, 1, none⟩ = some (.int .i64 x.f1) := by rw [blk_cell pk]; rfl
        unfold ke at hl hup
        rw [hHW.out] at hl hup p2 k0 k1
        clear hno hn hM3 hB3 hg3 hnew hents pm pk hM2 hB2 hb2 hHW hw2 hlk HM HB
        go_wp2
        exact ⟨⟨i + 1, by omega, by go_num, HM3.out, by omega, HB3.out⟩, by simp [intOf]; omega⟩
       ·have hjm : (ents acc)[j]? = some (ke x.f0 x.f1, .int .i64 acc[j].f2) := by
         unfold ents
         rw [List.getElem?_map, List.getElem?_eq_getElem hj]
         show some (ke acc[j].f0 acc[j].f1, _) = _
         rw [hs.1, hs.2]
        obtain ⟨y, hy⟩ : ∃ y, y = acc[j].f2 := ⟨_, rfl⟩
        rw [← hy] at hjm
        have hl := lookup_some keyed (t := 75) (e := 24) Try.underlying75 hM2 hjm true
        rw [if_pos rfl] at hl
        have hold := addm_old ops x acc j hj hs hfst
        rw [← hy] at hold
        have hset : (ents acc).set j (ke x.f0 x.f1, .int .i64 (red (opOf ops x) y x.f2)) = ents (addm ops acc x) := by rw [hold]; unfold ents; rw [List.map_set]
        have HSET := Lib.hid hset
        have HJM := Lib.hid hjm
        have HM2 := Lib.hid hM2
        have HB2 := Lib.hid hB2
        have p1 : w2.cell? ⟨wr.heap.size, 1, none⟩ = some (.int .i64 x.f1) := by rw [blk_cell pm]; rfl
        have p2 : w2.cell? ⟨wr.heap.size, 2, none⟩ = some (.int .i64 x.f2) := by rw [blk_cell pm]; rfl
        have k0 : w2.cell? ⟨wr.heap.size + 1, 0, none⟩ = some (.int .i64 x.f0) := by rw [blk_cell pk]; rfl
        have k1 : w2.cell? ⟨wr.heap.size + 1, 1, none⟩ = some (.int .i64 x.f1) := by rw [blk_cell pk]; rfl
        obtain ⟨ad1, e, po⟩ := op_at HR1.out htx
        subst e
        replace po := (hB2.cell (World.block_lt_of_cell? w _ po)).trans po
        have HMne := Lib.hid (HM.out.lt)
        have hsz2 : w2.heap.size = wr.heap.size + 2 := by rw [hw2]; simp
        have hwl : w.heap.size ≤ wr.heap.size := HB.out.size
        unfold ke at hl
        rw [hHW.out] at hl k0 k1
        clear hs hfst hold hset hjm hM2 hB2 hb2 hw2 hlk HM HB hj hy
        go_wp2_with fail
        rw [← hHW.out]
        clear hl k0 k1
        obtain ⟨bm, hbm⟩ : ∃ bm, bm = wr.heap.size := ⟨_, rfl⟩
        rw [← hbm] at pm pk p1 p2 HMne hsz2 hwl ⊢
        have hHW2 := hHW.out
        clear hHW hHW2 hbm
        have dx0 : (0 ≤ x.f1) = True := eq_true htx.1
        have dx1 : (x.f1 < (ops.length : Int)) = True := eq_true htx.2
        obtain ⟨o, ho⟩ : ∃ o, o = opOf ops x := ⟨_, rfl⟩
        have hdo := do_red hox 5 y x.f2
        have hset := HSET.out
        rw [← ho] at po hdo hset
        have HSET2 := Lib.hid hset
        have HDO := Lib.hid hdo
        have HSZ2 := Lib.hid hsz2
        clear ho hset hdo HSET hsz2
        refine start_ (n := 15) (S := fun w' => w'.cell? ⟨bm, 1, none⟩ = some (.int .i64 x.f1) ∧ w'.cell? ⟨bm, 2, none⟩ = some (.int .i64 x.f2) ∧ w'.cell? (ad1.add x.f1.toNat) = some (.int .u8 o)) (ds := [14]) #[false,false,false,false,false,false,false,false,false,false,false,false,false,false,false] (by kernel_rfl) rfl rfl ⟨p1, p2, po⟩ (fun hHeld => ?_)
        refine pure_ (i := 0) (N := some 71) (v := ?_) (a' := ?_) #[true,false,false,false,false,false,false,false,false,false,false,false,false,false,false] rfl rfl (by kernel_rfl) (fun _ _ _ h => h) (Or.inl ⟨by rfl, ?_⟩) ?_ ?_
        rotate_left
        ·intro w'
         go_simp
         with_reducible rfl
        rotate_left
        ·simp only [Act.put, List.setIfInBounds_toArray, List.set_cons_zero, List.set_cons_succ, i64_w, i32_w]
         rfl
        refine pure_ (i := 1) (N := some 72) (v := ?_) (a' := ?_) #[true,true,false,false,false,false,false,false,false,false,false,false,false,false,false] rfl rfl (by kernel_rfl) (fun _ _ _ h => h) (Or.inl ⟨by rfl, ?_⟩) ?_ ?_
        rotate_left
        ·intro w'
         go_simp
         with_reducible rfl
        rotate_left
        ·simp only [Act.put, List.setIfInBounds_toArray, List.set_cons_zero, List.set_cons_succ, i64_w, i32_w]
         rfl
        refine pure_ (i := 5) (N := some 76) (v := ?_) (a' := ?_) #[true,true,false,false,false,true,false,false,false,false,false,false,false,false,false] rfl rfl (by kernel_rfl) (fun _ _ _ h => h) (Or.inl ⟨by rfl, ?_⟩) ?_ ?_
        rotate_left
        ·intro w'
         go_simp
         with_reducible rfl
        rotate_left
        ·simp only [Act.put, List.setIfInBounds_toArray, List.set_cons_zero, List.set_cons_succ, i64_w, i32_w]
         rfl
        refine pure_ (i := 6) (N := some 77) (v := ?_) (a' := ?_) #[true,true,false,false,false,true,true,false,false,false,false,false,false,false,false] rfl rfl (by kernel_rfl) (fun _ _ _ h => h) (Or.inl ⟨by rfl, ?_⟩) ?_ ?_
        rotate_left
        ·intro w'
         go_simp
         with_reducible rfl
        rotate_left
        ·simp only [Act.put, List.setIfInBounds_toArray, List.set_cons_zero, List.set_cons_succ, i64_w, i32_w]
         rfl
        refine take_ (i := 2) (N := some 73) (v := ?_) (a' := ?_) #[true,true,true,false,false,true,true,false,false,false,false,false,false,false,false] rfl rfl (by kernel_rfl) (fun _ _ _ h => h) (Or.inl ⟨by rfl, ?_⟩) hHeld ?_ ?_
        rotate_left
        ·rintro w' ⟨s0, s1, s2⟩
         go_simp
         with_reducible rfl
        rotate_left
        ·simp only [Act.put, List.setIfInBounds_toArray, List.set_cons_zero, List.set_cons_succ, i64_w, i32_w]
         rfl
        refine pure_ (i := 3) (N := some 74) (v := ?_) (a' := ?_) #[true,true,true,true,false,true,true,false,false,false,false,false,false,false,false] rfl rfl (by kernel_rfl) (fun _ _ _ h => h) (Or.inl ⟨by rfl, ?_⟩) ?_ ?_
        rotate_left
        ·intro w'
         go_simp
         with_reducible rfl
        rotate_left
        ·simp only [Act.put, List.setIfInBounds_toArray, List.set_cons_zero, List.set_cons_succ, i64_w, i32_w]
         rfl
        refine take_ (i := 4) (N := some 75) (v := ?_) (a' := ?_) #[true,true,true,true,true,true,true,false,false,false,false,false,false,false,false] rfl rfl (by kernel_rfl) (fun _ _ _ h => h) (Or.inl ⟨by rfl, ?_⟩) hHeld ?_ ?_
        rotate_left
        ·rintro w' ⟨s0, s1, s2⟩
         go_simp
         with_reducible rfl
        rotate_left
        ·simp only [Act.put, List.setIfInBounds_toArray, List.set_cons_zero, List.set_cons_succ, i64_w, i32_w]
         rfl
        refine take_ (i := 7) (N := some 78) (v := ?_) (a' := ?_) #[true,true,true,true,true,true,true,true,false,false,false,false,false,false,false] rfl rfl (by kernel_rfl) (fun _ _ _ h => h) (Or.inl ⟨by rfl, ?_⟩) hHeld ?_ ?_
        rotate_left
        ·rintro w' ⟨s0, s1, s2⟩
         go_simp
         with_reducible rfl
        rotate_left
        ·simp only [Act.put, List.setIfInBounds_toArray, List.set_cons_zero, List.set_cons_succ, i64_w, i32_w]
         rfl
        refine one_ (i := 8) (N := some 79) #[true,true,true,true,true,true,true,true,true,false,false,false,false,false,false] rfl rfl (by kernel_rfl) (by decide) (fun K hK => ?_)
        refine value_ (w1 := ?_) (v := ?_) (by rfl) rfl ?_ ?_
        rotate_left 2
        ·go_simp
         constructor
         ·rfl
         ·rfl
        have hbA : Below w2.heap.size w2 (w2.alloc (.cells #[.int .i64 y, .int .i64 x.f2] 24)).drew := below_drew1 (below_alloc (Below.refl w2.heap.size w2) (.cells #[.int .i64 y, .int .i64 x.f2] 24))
        have hC8 : Kd.C (Kd.int .i64) (w2.alloc (.cells #[.int .i64 y, .int .i64 x.f2] 24)).drew (some ⟨w2.heap.size, 0, none⟩) 2 [y, x.f2] := arr_int (heap_alloc_new w2 (.cells #[.int .i64 y, .int .i64 x.f2] 24)) (by simp [maxLen])
        have hcall : Calls Try.prog 46 #[.int .u8 o, .slice (some ⟨w2.heap.size, 0, none⟩) 2 2] (w2.alloc (.cells #[.int .i64 y, .int .i64 x.f2] 24)).drew fun e w' => e = .returned (.tuple #[.int .i64 (red o y x.f2), .int .i64 0]) ∧ Below ((w2.alloc (.cells #[.int .i64 y, .int .i64 x.f2] 24)).drew).heap.size (w2.alloc (.cells #[.int .i64 y, .int .i64 x.f2] 24)).drew w' := num_Do.calls 6 o (some ⟨w2.heap.size, 0, none⟩) 2 [y, x.f2] _ _ _ hC8 (Nat.le_refl 2) HDO.out
        refine hK.out _ _ ⟨(hbA.cell (World.block_lt_of_cell? _ _ p1)).trans p1, (hbA.cell (World.block_lt_of_cell? _ _ p2)).trans p2, (hbA.cell (World.block_lt_of_cell? _ _ po)).trans po⟩ (fun hHeld => ?_)
        clear hK K
        refine norm_ (a' := ?_) ?_ ?_
        rotate_left
        ·show Act.put _ (some 79) _ = _
         simp only [Act.put, List.setIfInBounds_toArray, List.set_cons_zero, List.set_cons_succ, i64_w, i32_w]
         rfl
        refine one_ (i := 9) (N := some 80) #[true,true,true,true,true,true,true,true,true,true,false,false,false,false,false] rfl rfl (by kernel_rfl) (by decide) (fun K hK => ?_)
        refine goes_ Try.func46 (by kernel_rfl) rfl #[.int .u8 o, .slice (some ⟨w2.heap.size, 0, none⟩) 2 2] (by rfl) rfl rfl (by simp only [List.map_toArray, List.map_cons, List.map_nil]; rfl) ?_
        with_reducible refine (hcall).mono ?_
        rintro e w9 ⟨rfl, hb9⟩
        refine ⟨_, rfl, ?_⟩
        have hbW : Below w2.heap.size w2 w9 := below_step hbA hb9
        have pm9 := (hbW.block bm (by have := HSZ2.out; omega)).trans pm
        have pk9 := (hbW.block (bm + 1) (by have := HSZ2.out; omega)).trans pk
        have c9 : w9.cell? ⟨bm, 2, none⟩ = some (.int .i64 x.f2) := by rw [blk_cell pm9]; rfl
        have f9 := blk_frozen pm9 2
        refine hK.out _ _ ⟨(hbW.cell (World.block_lt_of_cell? _ _ p1)).trans p1, (hbW.cell (World.block_lt_of_cell? _ _ p2)).trans p2, (hbW.cell (World.block_lt_of_cell? _ _ po)).trans po⟩ (fun hHeld => ?_)
        clear hK K
        refine norm_ (a' := ?_) ?_ ?_
        rotate_left
        ·show Act.put _ (some 80) _ = _
         simp only [Act.put, List.setIfInBounds_toArray, List.set_cons_zero, List.set_cons_succ, i64_w, i32_w]
         rfl
        refine pure_ (i := 10) (N := some 70) (v := ?_) (a' := ?_) #[true,true,true,true,true,true,true,true,true,true,true,false,false,false,false] rfl rfl (by kernel_rfl) (fun _ _ _ h => h) (Or.inl ⟨by rfl, ?_⟩) ?_ ?_
        rotate_left
        ·intro w'
         go_simp
         with_reducible rfl
        rotate_left
        ·simp only [Act.put, List.setIfInBounds_toArray, List.set_cons_zero, List.set_cons_succ, i64_w, i32_w]
         rfl
        refine pure_ (i := 11) (N := some 81) (v := ?_) (a' := ?_) #[true,true,true,true,true,true,true,true,true,true,true,true,false,false,false] rfl rfl (by kernel_rfl) (fun _ _ _ h => h) (Or.inl ⟨by rfl, ?_⟩) ?_ ?_
        rotate_left
        ·intro w'
         go_simp
         with_reducible rfl
        rotate_left
        ·simp only [Act.put, List.setIfInBounds_toArray, List.set_cons_zero, List.set_cons_succ, i64_w, i32_w]
         rfl
        refine pure_ (i := 12) (N := some 82) (v := ?_) (a' := ?_) #[true,true,true,true,true,true,true,true,true,true,true,true,true,false,false] rfl rfl (by kernel_rfl) (fun _ _ _ h => h) (Or.inl ⟨by rfl, ?_⟩) ?_ ?_
        rotate_left
        ·intro w'
         go_simp
         with_reducible rfl
        rotate_left
        ·simp only [Act.put, List.setIfInBounds_toArray, List.set_cons_zero, List.set_cons_succ, i64_w, i32_w]
         rfl
        refine pure_ (i := 13) (N := some 83) (v := ?_) (a' := ?_) #[true,true,true,true,true,true,true,true,true,true,true,true,true,true,false] rfl rfl (by kernel_rfl) (fun _ _ _ h => h) (Or.inl ⟨by rfl, ?_⟩) ?_ ?_
        rotate_left
        ·intro w'
         go_simp
         with_reducible rfl
        rotate_left
        ·simp only [Act.put, List.setIfInBounds_toArray, List.set_cons_zero, List.set_cons_succ, i64_w, i32_w]
         rfl
        refine last_ (i := 14) (N := none) #[true,true,true,true,true,true,true,true,true,true,true,true,true,true,true] rfl rfl (by kernel_rfl) (by decide) (fun K hK => ?_)
        refine skip_ (w1 := ?_) (by rfl) rfl ?_ ?_
        rotate_left
        ·go_simp
         rfl
        refine hK.out _ _ ?_
        clear hK K
        refine done_ (by kernel_rfl) ?_
        have hB9 := below_step HB2.out hbW
        have hM9 := HM2.out.below hbW
        have hnb : B ≠ bm := Nat.ne_of_lt HMne.out
        have hwb : w.heap.size ≤ bm := hwl
        have hM10 := hM9.setCell (a := ⟨bm, 2, none⟩) hnb (.int .i64 (red o y x.f2))
        have hB10 := hB9.setCell (p := ⟨bm, 2, none⟩) hwb (.int .i64 (red o y x.f2))
        have pm10 := blk_set pm9 2 (.int .i64 (red o y x.f2))
        have pk10 := blk_far pk9 (p := ⟨bm, 2, none⟩) (by simp) (.int .i64 (red o y x.f2))
        clear hHeld hbA hC8 hcall hb9 hbW pm9 pk9 c9 f9 p1 p2 po pm pk hB9 hM9
        generalize w9.setCell ⟨bm, 2, none⟩ (.int .i64 (red o y x.f2)) = w10 at hM10 hB10 pm10 pk10 ⊢
        obtain ⟨w3, hup, hM3, hg3⟩ := update_old keyed (t := 75) (e := 24) Try.underlying75 hM10 (val := .int .i64 (red o y x.f2)) HJM.out
        rw [HSET2.out, ← HNX.out] at hM3
        have hB3 : Below w.heap.size w w3 := hB10.grown hg3 hB10.size (fun k hk => by injection hk with hk; omega)
        have HM3 := Lib.hid hM3
        have HB3 := Lib.hid hB3
        have p2 : w10.cell? ⟨bm, 2, none⟩ = some (.int .i64 (red o y x.f2)) := by rw [blk_cell pm10]; rfl
        have k0 : w10.cell? ⟨bm + 1, 0, none⟩ = some (.int .i64 x.f0) := by rw [blk_cell pk10]; rfl
        have k1 : w10.cell? ⟨bm + 1, 1, none⟩ = some (.int .i64 x.f1) := by rw [blk_cell pk10]; rfl
        unfold ke at hup
        clear hM10 hB10 pm10 pk10 hg3 hM3 hB3
        go_wp2
        exact ⟨⟨i + 1, by omega, by go_num, HM3.out, by omega, HB3.out⟩, by simp [intOf]; omega⟩
      ·have di : decide ((i : Int) < (l0.length : Int)) = false := decide_eq_false (by omega)
       obtain rfl : i = l0.length := by omega
       have hac := HACC.out
       rw [List.take_length] at hac
       have HAC := Lib.hid (show acc = comb ops l0 from hac)
       have hb1 := HB.out
       clear hac HACC
       go_wp2_with (at_range; refine wpList_range_is rfl (.tmp 89) 75 rfl (k := 76) (e := 24) Try.underlying75 rfl HM.out ?_; intro w5 hrg hg5 hs5)
       go_frame
       have hB5 := hb1.grown hg5 hb1.size (fun k hk => by cases hk)
       have hrl : w.heap.size ≤ wr.heap.size := hb1.size
       obtain ⟨r, hr⟩ : ∃ r, r = wr.heap.size := ⟨_, rfl⟩
       rw [← hr] at hrg hrl ⊢
       have HRG0 := Lib.hid hrg
       have HB50 := Lib.hid hB5
       clear hr hrg hB5 hb1 hg5 hs5 HM HB di hlt hi
       go_loopw [17] (fun v17 wq => ∃ seen : Array Nat, RangeIs wq B r (ents acc) seen ∧ Kd.R k26 26 wq w.heap.size (fun _ => True) v17 (seen.toList.map (fun p => acc.getD p default)) ∧ Below w.heap.size w wq) (fun _ wq => acc.length - seenOf wq r)
       case atStart => exact ⟨#[], HRG0.out, Kd.R_nil _ _ _ _ _, HB50.out⟩
       case round =>
        clear HRG0 HB50
        obtain ⟨seen, hrg, hO, hb⟩ := hrel
        have HRG := Lib.hid hrg
        have HO := Lib.hid hO
        have HB := Lib.hid hb
        have hsn := hrg.seen_eq
        clear hrg hO hb
        obtain ⟨A2, c2, hv⟩ := Kd.R_slice HO.out
        subst hv
        have hsl2 : (seen.toList.map (fun p => acc.getD p default)).length = seen.size := by simp
        rw [hsl2] at HO ⊢
        go_wp2_with (first | (at_next; refine wpList_next_is rfl (.tmp 90) rfl rfl HRG.out ?_ ?_ <;> first | (intro hperm; have HP := Lib.hid hperm; clear hperm) | go_loud (intro p key v w6 hmp hsl hrg6 hg6 hs6 hen; obtain ⟨a, ha, rfl, rfl⟩ := ents_at hmp; unfold ke at hen; have HA := Lib.hid ha; have HSL := Lib.hid hsl; have HRG6 := Lib.hid hrg6; have HG6 := Lib.hid hg6; obtain ⟨hox, hbx⟩ := nxt HO.out HRG.out HB.out hg6 hrl (.cells #[.int .i64 a.f0, .int .i64 a.f1] 76); have HOX := Lib.hid hox; have HBX := Lib.hid hbx; have hal2 : seen.size + 1 ≤ 1000000000000 := (by rw [ents_len] at hsl; omega); have HAL2 := Lib.hid hal2; clear hmp ha hsl hrg6 hg6 hs6 hox hbx hal2)) | ((with_reducible refine gate_builtin (b := .append) (xs := #[.tmp 96, .tmp 103]) rfl ?_); at_builtin; go_loud (refine Kd.R_append k26 (w0 := w) w.heap.size rfl (.tmp 96) (.tmp 103) 22 26 (.agg #[(.int .i64 0), (.int .i64 0), (.int .i64 0)]) 24 rfl Try.underlying22 info26 rfl (by decide) (by decide) (.slice A2 seen.size c2) (seen.toList.map (fun p => acc.getD p default)) a [.int .i64 a.f0, .int .i64 a.f1, .int .i64 a.f2] (fun _ => True) (fun _ => False) rfl ?aX ?aP (fun _ hk => hk.elim) ?aF ?aO ?aB ?aS ?aL ?_; (case aX => (rw [World.size_alloc]; rfl)); (case aP => exact k26_mkM _ _ _ a); (case aF => exact (fun _ _ => trivial)); (case aO => exact HOX.out); (case aB => exact HBX.out); (case aS => exact HBX.out.size); (case aL => have h1 := HAL2.out; simp only [List.length_map, Array.length_toList]; omega); intro v1 w1 ho hb hg hat; have HO1 := Lib.hid ho; have HB1 := Lib.hid hb; have HG1 := Lib.hid hg; clear ho hb hg hat)))
        ·with_reducible refine (sort_ok A2 seen.size c2 _ w.heap.size _ HO.out (by have h1 := HP.out.length_eq; rw [List.length_range, ents_len, Array.length_toList] at h1; rw [hsl2, h1]; omega)).mono ?_
         rintro e w7 ⟨rfl, hO7, hb7⟩
         rw [sort_perm (seen_perm HP.out), HAC.out] at hO7
         have HO7 := Lib.hid hO7
         have HB7 := Lib.hid (HB.out.trans hb7)
         clear hO7 hb7 hsl2 hsn
         go_wp2
         go_ret2
         exact ⟨_, rfl, HO7.out, HB7.out⟩
        ·have hA6 := HRG6.out
         have hxa : seen.toList.map (fun p => acc.getD p default) ++ [a] = (seen.push p).toList.map (fun p => acc.getD p default) := by
          rw [Array.toList_push, List.map_append]
          simp [List.getD, HA.out]
         have hO1 := HO1.out
         rw [hxa] at hO1
         have hr1 := ((hA6.below (below_alloc (Below.refl _ _) (.cells #[.int .i64 a.f0, .int .i64 a.f1] 76))))
         obtain ⟨n1, n2⟩ := own_ne2 HOX.out hr1
         have hr2 := hr1.kept HG1.out n1 n2
         have hsq := hr2.seen_eq
         have HO2 := Lib.hid hO1
         have HR2 := Lib.hid hr2
         have hs3 : seen.size < acc.length := by have := HSL.out; rw [ents_len] at this; exact this
         refine ⟨?_, ?_⟩
         ·exact ⟨seen.push p, HR2.out, HO2.out, HB1.out⟩
         ·show acc.length - seenOf w1 r < acc.length - seenOf wr r
          rw [hsq, hsn, Array.size_push]
          omega
    ·rw [if_neg htk] at hres
     injection hres with hres
     injection hres with e1 e2
     subst e1; subst e2
     have h0 : wr2 ops (l0.take l0.length) = 3 := by rw [List.take_length]; exact if_neg htk
     rw [h0]
     clear htk htg h0 HTG HF
     go_wp2
     go_ret2
     exact ⟨_, rfl, Kd.R_nil _ _ _ _ _, HB.out⟩
 ·cases h
end Go.Proofs.Ythmenclkgngkkaa.M
end
section
/- The contracts of mail in the print's form. -/
set_option linter.unusedSimpArgs false
set_option linter.unusedVariables false
namespace Go.Proofs.Ythmenclkgngkkaa.M
open Go.RowKit Go.Proofs.Ythmenclkgngkkaa.PA Go.Proofs.YthmenclkgngkkaaW.PrintWords
def reticuleref21_Encode.f (l : List S26) : Option (List Int × Int) := mail_Encode.f l
def reticuleref21_Decode.f (b : List Int) : Option (List S26 × Int × Int) := mail_Decode.f b
end Go.Proofs.Ythmenclkgngkkaa.M
end
