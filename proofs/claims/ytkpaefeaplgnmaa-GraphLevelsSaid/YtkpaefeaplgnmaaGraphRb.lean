/- The walks of graph: as many rows of as many. -/
import Derived.Test.YtkpaefeaplgnmaaGraphRa
set_option linter.unusedSimpArgs false
set_option linter.unusedVariables false
namespace Go.Proofs.Ytkpaefeaplgnmaa.G
open Go.RowKit Go.Proofs.Ytkpaefeaplgnmaa.PA Go.Proofs.Ytkpaefeaplgnmaa.Mp Go.Proofs.YtkpaefeaplgnmaaW.PrintWords Go.Proofs.YtkpaefeaplgnmaaW.PrintLast Go.Proofs.YtkpaefeaplgnmaaW.PrintMore

theorem info54 : (Try.prog.info? 54).map (fun i => (i.zero, i.size, i.bytes)) = some (some (.slice none 0 0), 1, 24) := by kernel_rfl
theorem info4 : (Try.prog.info? 4).map (fun i => (i.zero, i.size, i.bytes)) = some (some (.bool false), 1, 1) := by kernel_rfl
theorem made_list (z : Value) (hz : z.cells = #[z]) (n : Nat) : madeCells z.cells (n * 1) = Array.replicate n z := by
  rw [hz]
  have := toList_madeCells_one z n
  rw [Nat.mul_one]
  apply Array.ext'
  rw [this]
  simp
theorem mk_of (t e : TypeId) (z : Value) (by' : Nat) (ht : Try.prog.underlying t = some (.slice e)) (hi : (Try.prog.info? e).map (fun i => (i.zero, i.size, i.bytes)) = some (some z, 1, by')) (hz : z.cells = #[z]) (n : Nat) (hn : n ≤ 1000) (hby : by' ≤ 100) (W : World) :
    (Instr.makeSlice t (.int .i64 (n : Int)) (.int .i64 (n : Int))).run Try.prog W = .ok (.slice (some ⟨W.heap.size, 0, none⟩) n n) (W.alloc (.cells (Array.replicate n z) e)) := by
  obtain ⟨i, h1, h2, h3, h4⟩ := info_parts hi
  have hb : by' * n ≤ 100 * 1000 := Nat.mul_le_mul hby hn
  have := run_make (P := Try.prog) W t e i z ht h1 h2 .i64 .i64 (n : Int) (n : Int) (by omega) (by omega) (by rw [h4]; omega) (by omega)
  rw [this, h3]
  simp only [Int.toNat_natCast]
  rw [made_list z hz]

/-- As many rows of truths as there are nodes; the first i are made. -/
structure Rw (w0 W : World) (go n i : Nat) (gi : Nat → Nat) (R : Nat → List Bool) : Prop where
  ot : W.heap[go]? = some (.cells ((List.range n).map (fun v => if v < i then Value.slice (some ⟨gi v, 0, none⟩) n n else .slice none 0 0)).toArray 54 (0, 0))
  it : ∀ v, v < i → W.heap[gi v]? = some (.cells ((R v).map Value.bool).toArray 4 (0, 0)) ∧ (R v).length = n ∧ w0.heap.size ≤ gi v
  ne : ∀ u v, u < i → v < i → u ≠ v → gi u ≠ gi v
  ago : w0.heap.size ≤ go
  bl : Below w0.heap.size w0 W
theorem Rw.step {w0 W : World} {go n i : Nat} {gi : Nat → Nat} (h : Rw w0 W go n i gi (fun _ => List.replicate n false)) (hi : i < n) : Rw w0 ((W.setCell ⟨go, i, none⟩ (.slice (some ⟨W.heap.size, 0, none⟩) n n)).alloc (.cells (Array.replicate n (.bool false)) 4)) go n (i + 1) (fun v => if v = i then W.heap.size else gi v) (fun _ => List.replicate n false) := by
  have lgo := (Array.getElem?_eq_some_iff.1 h.ot).1
  have hlt : ∀ v, v < i → gi v < W.heap.size := fun v hv => (Array.getElem?_eq_some_iff.1 (h.it v hv).1).1
  refine ⟨?_, fun v hv => ?_, fun u v hu hv huv => ?_, h.ago, (h.bl.setCell (p := ⟨go, i, none⟩) h.ago _).alloc (by have := h.bl.size; simpa using this) _⟩
  · rw [Below.heap_alloc _ _ go (by simpa using lgo), heap_setCell_same W go i _ 54 _ h.ot, List.setIfInBounds_toArray]
    congr 3
    apply List.ext_getElem
    · simp
    · intro j h1 h2
      simp only [List.getElem_set, List.getElem_map, List.getElem_range]
      by_cases e : i = j
      · subst e; simp
      · rw [if_neg e]
        by_cases q : j < i
        · rw [if_pos q, if_pos (by omega), if_neg (by omega)]
        · rw [if_neg q, if_neg (by omega)]
  · by_cases e : v = i
    · subst e
      rw [if_pos rfl]
      refine ⟨?_, by simp, h.bl.size⟩
      have hsz : (W.setCell ⟨go, v, none⟩ (.slice (some ⟨W.heap.size, 0, none⟩) n n)).heap.size = W.heap.size := by simp
      generalize W.setCell ⟨go, v, none⟩ (.slice (some ⟨W.heap.size, 0, none⟩) n n) = W' at hsz ⊢
      rw [← hsz, World.alloc_heap_new]
      simp
    · rw [if_neg e]
      obtain ⟨h1, h2, h3⟩ := h.it v (by omega)
      refine ⟨?_, h2, h3⟩
      rw [Below.heap_alloc _ _ _ (by simpa using hlt v (by omega))]
      exact set_far h1 (cells_ne h1 h.ot (by decide))
  · by_cases eu : u = i
    · subst eu
      rw [if_pos rfl, if_neg (by omega)]
      have := hlt v (by omega)
      omega
    · rw [if_neg eu]
      by_cases ev : v = i
      · subst ev
        rw [if_pos rfl]
        have := hlt u (by omega)
        omega
      · rw [if_neg ev]
        exact h.ne u v (by omega) (by omega) huv
set_option maxHeartbeats 2000000 in
theorem rowsB_ok (g n : Nat) (l : List S53) (w : World) (hg : IsG w g n l) (hf : Fits n l) :
    Calls Try.prog 60 #[.pointer (some ⟨g, 0, none⟩)] w fun e w' => ∃ go gi, e = .returned (.slice (some ⟨go, 0, none⟩) n n) ∧ Rw w w' go n n gi (fun _ => List.replicate n false) := by
  obtain ⟨gO, p1, hrow⟩ := hg.rowO
  have lg := World.block_lt_of_cell? w _ p1
  have h12 := hf.top
  have hm1 := mk_of 49 54 (.slice none 0 0) 24 Try.underlying49 info54 rfl n (by omega) (by decide)
  have hm2 := mk_of 54 4 (.bool false) 1 Try.underlying54 info4 rfl n (by omega) (by decide)
  clear hrow
  go_enter Try.func60, Try.ntmps60
  go_wp2
  have hot : (w.alloc (.cells (Array.replicate n (Value.slice none 0 0)) 54)).heap[w.heap.size]? = some (.cells (Array.replicate n (Value.slice none 0 0)) 54 (0, 0)) := World.alloc_heap_new _ _
  have hR0 : Rw w (w.alloc (.cells (Array.replicate n (Value.slice none 0 0)) 54)) w.heap.size n 0 (fun _ => 0) (fun _ => List.replicate n false) := by
    refine ⟨hot.trans ?_, fun v hv => by omega, fun u v hu => by omega, Nat.le_refl _, (Below.refl _ w).alloc (Nat.le_refl _) _⟩
    congr 2
    apply Array.ext'
    apply List.ext_getElem <;> simp
  have lg0 : g < w.heap.size := lg
  generalize w.alloc (.cells (Array.replicate n (Value.slice none 0 0)) 54) = W0 at hR0 ⊢
  have HR0 := Lib.hid hR0
  have HP1 := Lib.hid p1
  clear hR0 hot p1
  go_loopw [13] (fun v13 wr => ∃ (i : Nat) (gi : Nat → Nat), i ≤ n ∧ v13 = .int .i64 i ∧ Rw w wr w.heap.size n i gi (fun _ => List.replicate n false)) (fun v13 _ => n - (intOf v13).toNat)
  case atStart => exact ⟨0, _, Nat.zero_le _, rfl, HR0.out⟩
  case round =>
    obtain ⟨i, gi, hi, rfl, hR⟩ := hrel
    by_cases hlt : i < n
    · have d1 : decide (i < n) = true := decide_eq_true hlt
      have r1 := (hR.bl.cell (World.block_lt_of_cell? w _ HP1.out)).trans HP1.out
      have lgo := (Array.getElem?_eq_some_iff.1 hR.ot).1
      have lg1 : g < wr.heap.size := Nat.lt_of_lt_of_le lg hR.bl.size
      have r2 : wr.cell? ⟨w.heap.size, i, none⟩ = some (.slice none 0 0) := by rw [cell_of hR.ot]; simp [hlt]
      have r3 : wr.frozen? ⟨w.heap.size, i, none⟩ = false := by simp [World.frozen?, hR.ot]
      have HR := Lib.hid hR
      clear hR
      go_wp2
      exact ⟨⟨i + 1, _, by omega, by go_num, HR.out.step hlt⟩, by simp [intOf]; omega⟩
    · have d1 : decide (i < n) = false := decide_eq_false hlt
      obtain rfl : i = n := by omega
      have HR := Lib.hid hR
      clear hR
      go_wp2
      go_ret
      exact ⟨_, _, rfl, HR.out⟩
end Go.Proofs.Ytkpaefeaplgnmaa.G
