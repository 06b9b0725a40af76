/- A map by its entries in the order in which they came. -/
import Derived.Test.YtpcjppefopjngaaWWords
import Derived.Maps.Keyed
import Derived.Maps.OwnSet
import Derived.DeepKeys5
namespace Go.Proofs.Ytpcjppefopjngaa.Mp
open Go.RowKit Go.ChangeMaps Go.Maps

/-- Block b is a map: these entries, in the order in which they came; none has been deleted. -/
structure MapIs (P : Program) (k : TypeId) (w : World) (b : Nat) (m : List (Value × Value)) : Prop where
 ex : ∃ es : Array MapEntry, w.heap[b]? = some (.map es es.size) ∧ es.toList.map (fun e => (e.key, e.val)) = m ∧ ∀ (i : Nat) (e : MapEntry), es[i]? = some e → e.born = i
 keys : ∀ p ∈ m, ∃ l, keyOf P k p.1 = some l
 apart : m.Pairwise (fun p q => p.1 ≠ q.1)

variable {P : Program} {k e t : TypeId} {w : World} {b : Nat} {m : List (Value × Value)}

theorem MapIs.made (w : World) : MapIs P k (w.alloc (.map #[] 0)) w.heap.size [] :=
 ⟨⟨#[], by show (w.heap.push _)[w.heap.size]? = _; simp, rfl, fun i e h => by simp at h⟩, fun p h => by simp at h, List.Pairwise.nil⟩
theorem MapIs.lt (h : MapIs P k w b m) : b < w.heap.size := by
 obtain ⟨es, h, _⟩ := h.ex
 rcases Nat.lt_or_ge b w.heap.size with h' | h'
 ·exact h'
 ·rw [Array.getElem?_eq_none h'] at h; cases h
theorem MapIs.kept {w' : World} {r : Option Nat} (h : MapIs P k w b m) (hg : w.grownBy w' r) (hr : some b ≠ r) : MapIs P k w' b m := by
 obtain ⟨es, h1, h2⟩ := h.ex
 exact ⟨⟨es, by rw [hg.block b h.lt hr, h1], h2⟩, h.keys, h.apart⟩
theorem MapIs.below {w' : World} (h : MapIs P k w b m) (hb : Below w.heap.size w w') : MapIs P k w' b m := by
 obtain ⟨es, h1, h2⟩ := h.ex
 exact ⟨⟨es, by rw [hb.block b h.lt, h1], h2⟩, h.keys, h.apart⟩
theorem MapIs.setCell (h : MapIs P k w b m) {a : Addr} (ha : b ≠ a.block) (u : Value) : MapIs P k (w.setCell a u) b m := by
 obtain ⟨es, h1, h2⟩ := h.ex
 exact ⟨⟨es, by rw [Below.heap_setCell _ _ _ _ ha, h1], h2⟩, h.keys, h.apart⟩
/-- A map's block is none of cells. -/
theorem MapIs.ne (h : MapIs P k w b m) {g : Nat} {c : Array Value} {ty : TypeId} {f : Nat × Nat} (hg : w.heap[g]? = some (.cells c ty f)) : b ≠ g := by
 rintro rfl
 obtain ⟨es, h1, _⟩ := h.ex
 rw [hg] at h1
 cases h1

theorem find_none (K : Keyed P k) (h : MapIs P k w b m) {es : Array MapEntry} (he : es.toList.map (fun e => (e.key, e.val)) = m) {key : Value} {l : Lit} (hk : keyOf P k key = some l) (hn : ∀ p ∈ m, p.1 ≠ key) : (Instr.findKey k key es.toList).run P w = .ok none w := by
 rcases K.find w hk es.toList (fun e hm => h.keys (e.key, e.val) (by rw [← he]; exact List.mem_map.2 ⟨e, hm, rfl⟩)) with ⟨h1, _⟩ | ⟨j, e, _, h2, h3⟩
 ·exact h1
 ·have hm : e ∈ es.toList := List.mem_of_getElem? h2
  exact absurd h3 (hn (e.key, e.val) (by rw [← he]; exact List.mem_map.2 ⟨e, hm, rfl⟩))
theorem find_some (K : Keyed P k) (h : MapIs P k w b m) {es : Array MapEntry} (he : es.toList.map (fun e => (e.key, e.val)) = m) {key v : Value} {j : Nat} (hj : m[j]? = some (key, v)) : (Instr.findKey k key es.toList).run P w = .ok (some (j, v)) w := by
 obtain ⟨l, hk⟩ := h.keys (key, v) (List.mem_of_getElem? hj)
 have hj' : (es.toList.map (fun e => (e.key, e.val)))[j]? = some (key, v) := by rw [he]; exact hj
 rw [List.getElem?_map] at hj'
 obtain ⟨e0, he0, he1⟩ := Option.map_eq_some_iff.1 hj'
 injection he1 with hk0 hv0
 rcases K.find w hk es.toList (fun e hm => h.keys (e.key, e.val) (by rw [← he]; exact List.mem_map.2 ⟨e, hm, rfl⟩)) with ⟨_, h2⟩ | ⟨i, e, h1, h2, h3⟩
 ·exact absurd hk0 (h2 e0 (List.mem_of_getElem? he0))
 ·have hi : m[i]? = some (key, e.val) := by
   have h3' : e.key = key := h3
   rw [← he, List.getElem?_map, h2, ← h3']; rfl
  have hij : i = j := by
   obtain ⟨hi1, hi2⟩ := List.getElem?_eq_some_iff.1 hi
   obtain ⟨hj1, hj2⟩ := List.getElem?_eq_some_iff.1 hj
   rcases Nat.lt_trichotomy i j with q | q | q
   ·exact absurd (by rw [hi2, hj2]) (List.pairwise_iff_getElem.1 h.apart i j hi1 hj1 q)
   ·exact q
   ·exact absurd (by rw [hi2, hj2]) (List.pairwise_iff_getElem.1 h.apart j i hj1 hi1 q)
  subst hij
  rw [hj] at hi
  injection hi with hi
  injection hi with _ hi
  rw [h1, hi]

theorem lookup_none (K : Keyed P k) (ht : P.underlying t = some (.map k e)) (h : MapIs P k w b m) {z : Value} (hz : (zeroValue e).run P w = .ok z w) {key : Value} {l : Lit} (hk : keyOf P k key = some l) (hn : ∀ p ∈ m, p.1 ≠ key) (c : Bool) :
  (Instr.lookup t (.map (some b)) key c).run P w = .ok (if c then .tuple #[z, .bool false] else z) w := by
 obtain ⟨es, h1, h2, _⟩ := h.ex
 have hf := find_none K h h2 hk hn
 simp [Instr.lookup, run_underlying ht, MapKept.run_getObj_map h1, K.check w _ hk, hf, hz, Result.andThen]
theorem lookup_some (K : Keyed P k) (ht : P.underlying t = some (.map k e)) (h : MapIs P k w b m) {key v : Value} {j : Nat} (hj : m[j]? = some (key, v)) (c : Bool) :
  (Instr.lookup t (.map (some b)) key c).run P w = .ok (if c then .tuple #[v, .bool true] else v) w := by
 obtain ⟨l, hk⟩ := h.keys (key, v) (List.mem_of_getElem? hj)
 obtain ⟨es, h1, h2, _⟩ := h.ex
 have hf := find_some K h h2 hj
 simp [Instr.lookup, run_underlying ht, MapKept.run_getObj_map h1, K.check w _ hk, hf, Result.andThen]

/-- The block is another map. -/
theorem grown_block (hb : ∃ es c, w.heap[b]? = some (.map es c)) (o : Obj) : w.grownBy (setBlock w b o) (some b) ∧ (setBlock w b o).heap[b]? = some o := by
 obtain ⟨es, c, hb⟩ := hb
 refine ⟨⟨rfl, rfl, rfl, by simp [setBlock], fun i _ hne => ?_⟩, heap_setBlock_same hb o⟩
 exact heap_setBlock_other hb o (fun e => hne (by rw [e]))
theorem keep_key (es : Array MapEntry) (j : Nat) (key v : Value) (hj : (es.toList.map (fun e => (e.key, e.val)))[j]? = some (key, v)) : ((es[j]?).map (·.key)).getD key = key := by
 rw [List.getElem?_map] at hj
 obtain ⟨e0, h0, h1⟩ := Option.map_eq_some_iff.1 hj
 injection h1 with h1 _
 have : es[j]? = some e0 := by simpa using h0
 rw [this]
 exact h1

theorem pushed (h : MapIs P k w b m) {es : Array MapEntry} (h1 : w.heap[b]? = some (.map es es.size)) (h2 : es.toList.map (fun e => (e.key, e.val)) = m) (h3 : ∀ (i : Nat) (e : MapEntry), es[i]? = some e → e.born = i) {key val : Value} {l : Lit} (hk : keyOf P k key = some l) (hn : ∀ p ∈ m, p.1 ≠ key) :
  MapIs P k (setBlock w b (.map (es.push { key, val, born := es.size }) (es.size + 1))) b (m ++ [(key, val)]) ∧ w.grownBy (setBlock w b (.map (es.push { key, val, born := es.size }) (es.size + 1))) (some b) := by
 obtain ⟨g1, g2⟩ := grown_block ⟨_, _, h1⟩ (.map (es.push { key, val, born := es.size }) (es.size + 1))
 refine ⟨⟨⟨_, by rw [g2, Array.size_push], by simp [h2], fun i e he => ?_⟩, fun p hp => ?_, ?_⟩, g1⟩
 ·rw [Array.getElem?_push] at he
  split at he
  ·injection he with he
   subst he
   rename_i q
   exact q.symm
  ·exact h3 i e he
 ·rcases List.mem_append.1 hp with hp | hp
  ·exact h.keys p hp
  ·rw [List.mem_singleton.1 hp]; exact ⟨l, hk⟩
 ·rw [List.pairwise_append]
  exact ⟨h.apart, List.pairwise_singleton _ _, fun p hp q hq => by rw [List.mem_singleton.1 hq]; exact hn p hp⟩
theorem changed (h : MapIs P k w b m) {es : Array MapEntry} (h1 : w.heap[b]? = some (.map es es.size)) (h2 : es.toList.map (fun e => (e.key, e.val)) = m) (h3 : ∀ (i : Nat) (e : MapEntry), es[i]? = some e → e.born = i) {key v val : Value} {j : Nat} (hj : m[j]? = some (key, v)) (f : MapEntry → MapEntry) (hf : ∀ e, e.key = key → e.val = v → (f e).key = key ∧ (f e).val = val ∧ (f e).born = e.born) :
  MapIs P k (setBlock w b (.map (es.modify j f) es.size)) b (m.set j (key, val)) ∧ w.grownBy (setBlock w b (.map (es.modify j f) es.size)) (some b) := by
 obtain ⟨g1, g2⟩ := grown_block ⟨_, _, h1⟩ (.map (es.modify j f) es.size)
 have hjm : j < m.length := (List.getElem?_eq_some_iff.1 hj).1
 have hj' : (es.toList.map (fun e => (e.key, e.val)))[j]? = some (key, v) := by rw [h2]; exact hj
 rw [List.getElem?_map] at hj'
 obtain ⟨e0, he0, he1⟩ := Option.map_eq_some_iff.1 hj'
 injection he1 with hk0 hv0
 have he0' : es[j]? = some e0 := by simpa using he0
 obtain ⟨f1, f2, f3⟩ := hf e0 hk0 hv0
 refine ⟨⟨⟨_, by rw [g2, Array.size_modify], ?_, fun i e he => ?_⟩, fun p hp => ?_, ?_⟩, g1⟩
 ·apply List.ext_getElem?
  intro i
  rw [List.getElem?_map, Array.toList_modify, List.getElem?_modify]
  have hi : (es.toList.map (fun e => (e.key, e.val)))[i]? = m[i]? := by rw [h2]
  rw [List.getElem?_map] at hi
  by_cases q : j = i
  ·subst q
   rw [List.getElem?_set_self hjm, he0]
   simp [f1, f2]
  ·rw [List.getElem?_set_ne q, ← hi]
   simp [q]
 ·rw [Array.getElem?_modify] at he
  split at he
  ·rename_i q
   subst q
   rw [he0'] at he
   simp at he
   subst he
   rw [f3]
   exact h3 _ _ he0'
  ·exact h3 i e he
 ·rcases List.mem_or_eq_of_mem_set hp with hp | rfl
  ·exact h.keys p hp
  ·exact h.keys (key, v) (List.mem_of_getElem? hj)
 ·rw [List.pairwise_iff_getElem]
  intro i i' hi hi' hlt
  have key_at : ∀ (q : Nat) (hq : q < (m.set j (key, val)).length), ((m.set j (key, val))[q]).1 = (m[q]'(by simpa using hq)).1 := fun q hq => by
   rw [List.getElem_set]
   split
   ·rename_i e
    subst e
    have := (List.getElem?_eq_some_iff.1 hj).2
    rw [this]
   ·rfl
  rw [key_at, key_at]
  exact List.pairwise_iff_getElem.1 h.apart i i' (by simpa using hi) (by simpa using hi') hlt

theorem update_new (K : Keyed P k) (ht : P.underlying t = some (.map k e)) (h : MapIs P k w b m) {key val : Value} {l : Lit} (hk : keyOf P k key = some l) (hn : ∀ p ∈ m, p.1 ≠ key) :
  ∃ w', (Instr.mapUpdate t (.map (some b)) key val).run P w = .ok () w' ∧ MapIs P k w' b (m ++ [(key, val)]) ∧ w.grownBy w' (some b) := by
 obtain ⟨es, h1, h2, h3⟩ := h.ex
 have hf := find_none K h h2 hk hn
 obtain ⟨p1, p2⟩ := pushed h h1 h2 h3 (val := val) hk hn
 exact ⟨_, by simp [Instr.mapUpdate, run_underlying ht, MapKept.run_getObj_map h1, K.check w _ hk, hf, MapKept.run_setObj_map _ h1, Result.andThen, setBlock], p1, p2⟩
theorem update_old (K : Keyed P k) (ht : P.underlying t = some (.map k e)) (h : MapIs P k w b m) {key v val : Value} {j : Nat} (hj : m[j]? = some (key, v)) :
  ∃ w', (Instr.mapUpdate t (.map (some b)) key val).run P w = .ok () w' ∧ MapIs P k w' b (m.set j (key, val)) ∧ w.grownBy w' (some b) := by
 obtain ⟨l, hk⟩ := h.keys (key, v) (List.mem_of_getElem? hj)
 obtain ⟨es, h1, h2, h3⟩ := h.ex
 have hf := find_some K h h2 hj
 have hkk := keep_key es j key v (by rw [h2]; exact hj)
 obtain ⟨p1, p2⟩ := changed h h1 h2 h3 (val := val) hj (fun e => { e with key := key, val := val }) (fun e _ _ => ⟨rfl, rfl, rfl⟩)
 exact ⟨_, by simp [Instr.mapUpdate, run_underlying ht, MapKept.run_getObj_map h1, K.check w _ hk, hf, hkk, K.stays w hk, MapKept.run_setObj_map _ h1, Result.andThen, setBlock], p1, p2⟩
theorem entry_new (K : Keyed P k) (ht : P.underlying t = some (.map k e)) (h : MapIs P k w b m) {z : Value} (hz : (zeroValue e).run P w = .ok z w) {key : Value} {l : Lit} (hk : keyOf P k key = some l) (hn : ∀ p ∈ m, p.1 ≠ key) :
  ∃ w', (Instr.mapEntry t (.map (some b)) key).run P w = .ok (.tuple #[z, .int .i64 m.length]) w' ∧ MapIs P k w' b (m ++ [(key, z)]) ∧ w.grownBy w' (some b) := by
 obtain ⟨es, h1, h2, h3⟩ := h.ex
 have hf := find_none K h h2 hk hn
 obtain ⟨p1, p2⟩ := pushed h h1 h2 h3 (val := z) hk hn
 have hsz : es.size = m.length := by rw [← h2]; simp
 refine ⟨_, ?_, p1, p2⟩
 simp [Instr.mapEntry, run_underlying ht, MapKept.run_getObj_map h1, K.check w _ hk, hf, hz, MapKept.run_setObj_map _ h1, Result.andThen, setBlock, goInt, hsz]
theorem entry_old (K : Keyed P k) (ht : P.underlying t = some (.map k e)) (h : MapIs P k w b m) {key v : Value} {j : Nat} (hj : m[j]? = some (key, v)) :
  ∃ w', (Instr.mapEntry t (.map (some b)) key).run P w = .ok (.tuple #[v, .int .i64 j]) w' ∧ MapIs P k w' b m ∧ w.grownBy w' (some b) := by
 obtain ⟨l, hk⟩ := h.keys (key, v) (List.mem_of_getElem? hj)
 obtain ⟨es, h1, h2, h3⟩ := h.ex
 have hf := find_some K h h2 hj
 have hkk := keep_key es j key v (by rw [h2]; exact hj)
 obtain ⟨p1, p2⟩ := changed h h1 h2 h3 (val := v) hj (fun e => { e with key := key }) (fun e _ hv => ⟨rfl, hv, rfl⟩)
 have hjm : j < m.length := (List.getElem?_eq_some_iff.1 hj).1
 have hset : m.set j (key, v) = m := by
  have := (List.getElem?_eq_some_iff.1 hj).2
  rw [← this]
  exact List.set_getElem_self hjm
 rw [hset] at p1
 have hb : ((es[j]?).map (fun x => (x.born : Int))).getD 0 = j := by
  have hjs : j < es.size := by rw [← Array.length_toList, show es.toList.length = m.length by rw [← h2]; simp]; exact hjm
  rw [Array.getElem?_eq_getElem hjs]
  exact congrArg Nat.cast (h3 j _ (Array.getElem?_eq_getElem hjs))
 refine ⟨_, ?_, p1, p2⟩
 simp [Instr.mapEntry, run_underlying ht, MapKept.run_getObj_map h1, K.check w _ hk, hf, hkk, hb, K.stays w hk, MapKept.run_setObj_map _ h1, Result.andThen, setBlock, goInt]
theorem entry_store (h : MapIs P k w b m) {key v val : Value} {j : Nat} (hj : m[j]? = some (key, v)) :
  ∃ w', (Instr.entryStore t (.map (some b)) (.int .i64 j) val).run P w = .ok () w' ∧ MapIs P k w' b (m.set j (key, val)) ∧ w.grownBy w' (some b) := by
 obtain ⟨es, h1, h2, h3⟩ := h.ex
 obtain ⟨p1, p2⟩ := changed h h1 h2 h3 (val := val) hj (fun e => { e with val := val }) (fun e hk _ => ⟨hk, rfl, rfl⟩)
 have hjm : j < m.length := (List.getElem?_eq_some_iff.1 hj).1
 have hjs : j < es.size := by rw [← Array.length_toList, show es.toList.length = m.length by rw [← h2]; simp]; exact hjm
 have hfi : es.findIdx? (fun e => (e.born : Int) == (j : Int)) = some j := by
  rw [Array.findIdx?_eq_some_iff_getElem]
  refine ⟨hjs, by simp [h3 j _ (Array.getElem?_eq_getElem hjs)], fun i hi => ?_⟩
  have := h3 i _ (Array.getElem?_eq_getElem (show i < es.size by omega))
  simp [this]
  omega
 refine ⟨_, ?_, p1, p2⟩
 simp [Instr.entryStore, asInt, asIntOf, MapKept.run_getObj_map h1, hfi, MapKept.run_setObj_map _ h1, Result.andThen, setBlock]
end Go.Proofs.Ytpcjppefopjngaa.Mp
