/- The walks of graph: edges between two, one edge. -/
import Derived.Test.YtkpaefeaplgnmaaGraphG
set_option linter.unusedSimpArgs false
set_option linter.unusedVariables false
namespace Go.Proofs.Ytkpaefeaplgnmaa.G
open Go.RowKit Go.Proofs.Ytkpaefeaplgnmaa.PA Go.Proofs.Ytkpaefeaplgnmaa.Mp Go.Proofs.YtkpaefeaplgnmaaW.PrintWords Go.Proofs.YtkpaefeaplgnmaaW.PrintLast Go.Proofs.YtkpaefeaplgnmaaW.PrintMore

theorem Mk.look {w : World} {base g gO gI b n c m : Nat} {A : Option Addr} {val : Ix → Value} {row : Ix → List Int} {K : List S53} (h : Mk w base g gO gI b n A c m val row K) (e : S53) {l : Lit} (hk : keyOf Try.prog 53 (ke e) = some l) :
  (Instr.lookup 58 (.map (some b)) (.agg #[.int .i64 e.f0, .int .i64 e.f1]) false).run Try.prog w = .ok (val (.b e)) w := by
 by_cases he : e ∈ K
 ·obtain ⟨j, hj⟩ := List.getElem?_of_mem he
  exact lookup_some keyed Try.underlying58 h.mp (key := ke e) (v := val (.b e)) (j := j) (by rw [List.getElem?_map, hj]; rfl) false
 ·have := lookup_none keyed Try.underlying58 h.mp (zero27 w) hk (fun p hp q => by
   obtain ⟨f, hf, rfl⟩ := List.mem_map.1 hp
   exact he (ke_inj q ▸ hf)) false
  rw [h.out e he]
  exact this
def betw (live : Bool) (l : List S53) (a b : Int) : List Int := if live = true then rw_ l (.b ⟨a, b⟩) else []
set_option maxHeartbeats 2000000 in
theorem between_ok (b : Bool) (A : Option Addr) (n : Nat) (l : List S53) (x y : Int) (w : World) (h : Gn w b A n l) (hl : l.length ≤ 1000) (hx : (Lit.int .i64 x).wf = true) (hy : (Lit.int .i64 y).wf = true) :
  Calls Try.prog 49 #[.pointer A, .int .i64 x, .int .i64 y] w fun e w' => ∃ z, e = .returned z ∧ Kd.R (Kd.int .i64) 3 w' w.heap.size (fun _ => True) z (betw b l x y) ∧ Below w.heap.size w w' := by
 cases b with
 | false =>
  rw [show A = none from h]
  go_enter Try.func49, Try.ntmps49
  go_wp2
  go_ret
  exact ⟨_, rfl, Kd.R_nil _ _ _ _ _, Below.refl _ _⟩
 | true =>
  obtain ⟨g, rfl, hg⟩ := h
  obtain ⟨base, gO, gI, b, A, c, val, K, h1, h2, h3⟩ := hg
  have p1 : w.cell? ⟨g, 3, none⟩ = some (.map (some b)) := by rw [cell_of h1.st]; rfl
  obtain ⟨lk, hlk⟩ := key_ok ⟨x, y⟩ hx hy
  have hrun := h1.look ⟨x, y⟩ hlk
  obtain ⟨A', c', e, hlc, hC⟩ := C_of_R (R_of_own (h1.sep.own (.b ⟨x, y⟩)))
  have hrl := rw_len l (.b ⟨x, y⟩)
  rw [e] at hrun
  have HC := Lib.hid hC
  clear h1 h2 h3 hC e hlk
  simp only [] at hrun
  go_enter Try.func49, Try.ntmps49
  go_wp2_with fail
  refine (cloneI A' c' _ _ HC.out (by omega)).mono ?_
  rintro e w3 ⟨z, rfl, hz, hb3⟩
  have HX := Lib.hid hz
  have HB3 := Lib.hid hb3
  clear hb3 hz
  go_wp2
  go_ret
  exact ⟨z, rfl, HX.out, HB3.out⟩

/-- What Edge tells. -/
def edge (live : Bool) (l : List S53) (i : Int) : S53 × Bool := if live = true ∧ 0 ≤ i ∧ i < l.length then (l.getD i.toNat ⟨0, 0⟩, true) else (⟨0, 0⟩, false)
theorem Gn.M {w : World} {b : Bool} {A : Option Addr} {n : Nat} {l : List S53} (h : Gn w b A n l) : Calls Try.prog 39 #[.pointer A] w fun e w' => e = .returned (.int .i64 (if b = true then (l.length : Int) else 0)) ∧ Below w.heap.size w w' := by
 cases b with
 | false => rw [show A = none from h]; exact m_nil w
 | true => obtain ⟨g, rfl, h⟩ := h; exact m_ok g n l w h
theorem Gn.N {w : World} {b : Bool} {A : Option Addr} {n : Nat} {l : List S53} (h : Gn w b A n l) : Calls Try.prog 14 #[.pointer A] w fun e w' => e = .returned (.int .i64 (if b = true then (n : Int) else 0)) ∧ Below w.heap.size w w' := by
 cases b with
 | false => rw [show A = none from h]; exact n_nil w
 | true => obtain ⟨g, rfl, h⟩ := h; exact n_ok g n l w h
set_option maxHeartbeats 2000000 in
theorem edge_ok (b : Bool) (A : Option Addr) (n : Nat) (l : List S53) (i : Int) (w : World) (h : Gn w b A n l) :
  Calls Try.prog 51 #[.pointer A, .int .i64 i] w fun e w' => e = .returned (.tuple #[.agg #[.int .i64 (edge b l i).1.f0, .int .i64 (edge b l i).1.f1], .bool (edge b l i).2]) ∧ Below w.heap.size w w' := by
 by_cases h0 : i < 0
 ·have d0 : decide (i < 0) = true := decide_eq_true h0
  have he : edge b l i = (⟨0, 0⟩, false) := by simp [edge]; omega
  rw [he]
  go_enter Try.func51, Try.ntmps51
  go_wp2
  exact bodyPost_ret (v := .tuple #[.agg #[.int .i64 0, .int .i64 0], .bool false]) (by simp [results, Try.results51, go_sem]) rfl ⟨rfl, (Below.refl _ _).alloc (Nat.le_refl _) _⟩
 ·have d0 : decide (i < 0) = false := decide_eq_false h0
  have H := Lib.hid h
  by_cases hin : b = true ∧ i < l.length
  ·obtain ⟨rfl, hi⟩ := hin
   obtain ⟨j, rfl⟩ := Int.eq_ofNat_of_zero_le (show 0 ≤ i by omega)
   have hj : j < l.length := by omega
   obtain ⟨g, rfl, hg⟩ := h
   obtain ⟨base, gO, gI, b, A, c, val, K, h1, h2, h3⟩ := hg
   obtain ⟨ad, rfl, c1, c2⟩ := edge_at h2 hj
   have p1 : w.cell? ⟨g, 0, none⟩ = some (.slice (some ad) l.length c) := by rw [cell_of h1.st]; rfl
   have he : edge true l (j : Int) = (l[j], true) := by simp [edge, hj, List.getD]
   have HE := Lib.hid he
   have d1 : decide ((l.length : Int) ≤ (j : Int)) = false := decide_eq_false (by omega)
   have P1 := Lib.hid p1
   have C1 := Lib.hid c1
   have C2 := Lib.hid c2
   clear h1 h2 h3 he p1 c1 c2
   go_enter Try.func51, Try.ntmps51
   go_wp2_with fail
   refine (Gn.M (H.out.below ((Below.refl _ _).alloc (Nat.le_refl _) _))).mono ?_
   rintro e w1 ⟨rfl, hb1⟩
   rw [if_pos rfl]
   have hb2 : Below w.heap.size w w1 := below_step ((Below.refl _ _).alloc (Nat.le_refl _) _) hb1
   have q1 := (hb2.cell (World.block_lt_of_cell? w _ P1.out)).trans P1.out
   have q2 := (hb2.cell (World.block_lt_of_cell? w _ C1.out)).trans C1.out
   have q3 := (hb2.cell (World.block_lt_of_cell? w _ C2.out)).trans C2.out
   have r1 : w1.cell? ⟨w.heap.size, 0, none⟩ = some (.int .i64 0) := (hb1.cell (by simp)).trans (by go_simp)
   have r2 : w1.cell? ⟨w.heap.size, 1, none⟩ = some (.int .i64 0) := (hb1.cell (by simp)).trans (by go_simp)
   have r3 : w1.frozen? ⟨w.heap.size, 0, none⟩ = false := (hb1.frozen (by simp)).trans (by go_simp)
   have r4 : w1.frozen? ⟨w.heap.size, 1, none⟩ = false := (hb1.frozen (by simp)).trans (by go_simp)
   have HB := Lib.hid hb2
   clear hb1 hb2
   go_wp2
   rw [HE.out]
   exact bodyPost_ret (v := .tuple #[.agg #[.int .i64 l[j].f0, .int .i64 l[j].f1], .bool true]) (by simp [results, Try.results51, go_sem, r1, r2]) rfl ⟨rfl, (HB.out.setCell (Nat.le_refl _) _).setCell (Nat.le_refl _) _⟩
  ·have he : edge b l i = (⟨0, 0⟩, false) := by
    unfold edge
    rw [if_neg (by rintro ⟨q1, q2, q3⟩; exact hin ⟨q1, q3⟩)]
   have d1 : decide ((if b = true then (l.length : Int) else 0) ≤ i) = true := by
    apply decide_eq_true
    split
    ·rename_i q; have : ¬ i < l.length := fun r => hin ⟨q, r⟩; omega
    ·omega
   rw [he]
   clear h he
   go_enter Try.func51, Try.ntmps51
   go_wp2_with fail
   refine (Gn.M (H.out.below ((Below.refl _ _).alloc (Nat.le_refl _) _))).mono ?_
   rintro e w1 ⟨rfl, hb1⟩
   have hb2 : Below w.heap.size w w1 := below_step ((Below.refl _ _).alloc (Nat.le_refl _) _) hb1
   have r1 : w1.cell? ⟨w.heap.size, 0, none⟩ = some (.int .i64 0) := (hb1.cell (by simp)).trans (by go_simp)
   have r2 : w1.cell? ⟨w.heap.size, 1, none⟩ = some (.int .i64 0) := (hb1.cell (by simp)).trans (by go_simp)
   have r3 : w1.frozen? ⟨w.heap.size, 0, none⟩ = false := (hb1.frozen (by simp)).trans (by go_simp)
   have r4 : w1.frozen? ⟨w.heap.size, 1, none⟩ = false := (hb1.frozen (by simp)).trans (by go_simp)
   have HB := Lib.hid hb2
   clear hb1 hb2
   generalize (if b = true then (l.length : Int) else 0) = mm at d1 ⊢
   go_wp2
   exact bodyPost_ret (v := .tuple #[.agg #[.int .i64 0, .int .i64 0], .bool false]) (by simp [results, Try.results51, go_sem, r1, r2]) rfl ⟨rfl, by first | exact HB.out | exact (HB.out.setCell (Nat.le_refl _) _).setCell (Nat.le_refl _) _⟩
end Go.Proofs.Ytkpaefeaplgnmaa.G
