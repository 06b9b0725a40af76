/- A map by its entries, as the kit's own word: what slices.Sorted(maps.Keys(m)) asks. -/
import Derived.Test.YtgdpdigpbbjhpaaMp
import Derived.Maps.Own
import Derived.Sort.KeysCollected
import Derived.Lib.Hide
namespace Go.Proofs.Ytgdpdigpbbjhpaa.Mp
open Go.RowKit Go.ChangeMaps Go.Maps Go.MapKept Go.Sort
open Go.WideElems (Fit rd rg pl rd_mk rg_of rd_key)

variable {P : Program} {k : TypeId} {w : World} {b : Nat} {m : List (Value × Value)}

theorem MapIs.owns {R : Value → Option (DataW Unit × List MemPlace)} (h : MapIs P k w b m) (hl : m.length ≤ maxLen) (hk : ∀ p ∈ m, ∃ s, p.1 = encStr s ∧ keyOf P k p.1 = some (.string s)) (hv : ∀ p ∈ m, ∃ z, R p.2 = some z) :
    ∃ D : DataW Unit, w.ownsMap P k R b m.length D ∧ Maps.size D = m.length ∧ ∃ ks : List (List UInt8), (strKeys D).Perm ks ∧ m.map (·.1) = ks.map encStr := by
  obtain ⟨es, h1, h2, h3⟩ := h.ex
  have hsz : es.size = m.length := by rw [← h2]; simp
  have hst : Stamped es es.size := by
    refine ⟨fun x hx => ?_, ?_, ?_⟩
    · obtain ⟨i, hi⟩ := List.getElem?_of_mem hx
      have hi' : es[i]? = some x := by simpa using hi
      rw [h3 i x hi']
      exact (Array.getElem?_eq_some_iff.1 hi').1
    · have : es.toList.map (·.born) = List.range es.size := by
        apply List.ext_getElem?
        intro i
        rw [List.getElem?_map]
        by_cases hi : i < es.size
        · rw [List.getElem?_range hi]
          have : es.toList[i]? = some es[i] := by simp [hi]
          rw [this]
          simp [h3 i es[i] (Array.getElem?_eq_getElem hi)]
        · have e1 : es.toList[i]? = none := by simp; omega
          have e2 : (List.range es.size)[i]? = none := by simp; omega
          rw [e1, e2]; rfl
      rw [this]
      exact List.nodup_range
    · have : es.toList.map (·.key) = m.map (·.1) := by rw [← h2, List.map_map]; rfl
      rw [this, List.nodup_iff_pairwise_ne, List.pairwise_map]
      exact h.apart
  have hrd : ∀ x ∈ es.toList, ∃ s z, x.key = encStr s ∧ rd P k R x = some (.string s, z) := fun x hx => by
    have hm : (x.key, x.val) ∈ m := by rw [← h2]; exact List.mem_map.2 ⟨x, hx, rfl⟩
    obtain ⟨s, e1, e2⟩ := hk _ hm
    obtain ⟨z, hz⟩ := hv _ hm
    exact ⟨s, z.1, e1, by cases x; exact rd_mk e2 hz⟩
  refine ⟨.map ((es.toList.map (rg P k R)).foldr DataW.insert []), ⟨es, es.size, h1, ⟨by omega, hst, fun x hx => ?_⟩, by omega, rfl⟩, ?_, (es.toList.map (rg P k R)).map (fun p => strOf p.1), ?_, ?_⟩
  · obtain ⟨s, z, _, e⟩ := hrd x hx
    exact ⟨_, e⟩
  · show (((es.toList.map (rg P k R)).foldr DataW.insert []).length) = _
    rw [length_sorted]; simp [hsz]
  · exact (WideShapes.sorted_perm _).map _
  · rw [← h2, List.map_map, List.map_map, List.map_map]
    refine List.map_congr_left fun x hx => ?_
    obtain ⟨s, z, e1, e2⟩ := hrd x hx
    show x.key = encStr (strOf (rg P k R x).1)
    rw [rg_of e2, e1]; rfl
end Go.Proofs.Ytgdpdigpbbjhpaa.Mp
