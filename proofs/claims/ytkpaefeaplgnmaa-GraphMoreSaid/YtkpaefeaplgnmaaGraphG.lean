/- The walks of graph: the edges of a node. -/
import Derived.Test.YtkpaefeaplgnmaaGraphF
set_option linter.unusedSimpArgs false
set_option linter.unusedVariables false
namespace Go.Proofs.Ytkpaefeaplgnmaa.G
open Go.RowKit Go.Proofs.Ytkpaefeaplgnmaa.PA Go.Proofs.Ytkpaefeaplgnmaa.Mp Go.Proofs.YtkpaefeaplgnmaaW.PrintWords Go.Proofs.YtkpaefeaplgnmaaW.PrintLast Go.Proofs.YtkpaefeaplgnmaaW.PrintMore

theorem side_nil (b : Bool) (w : World) : Calls Try.prog 42 #[.pointer none, .bool b] w fun e w' => e = .returned (.slice none 0 0) ∧ Below w.heap.size w w' := by
 go_enter Try.func42, Try.ntmps42
 go_wp2
 go_ret
 exact ⟨rfl, Below.refl _ _⟩
theorem side_out (g n gO : Nat) (w : World) (p1 : w.cell? ⟨g, 1, none⟩ = some (.slice (some ⟨gO, 0, none⟩) n n)) : Calls Try.prog 42 #[.pointer (some ⟨g, 0, none⟩), .bool false] w fun e w' => e = .returned (.slice (some ⟨gO, 0, none⟩) n n) ∧ Below w.heap.size w w' := by
 go_enter Try.func42, Try.ntmps42
 go_wp2
 go_ret
 exact ⟨rfl, Below.refl _ _⟩
theorem side_in (g n gO : Nat) (w : World) (p1 : w.cell? ⟨g, 2, none⟩ = some (.slice (some ⟨gO, 0, none⟩) n n)) : Calls Try.prog 42 #[.pointer (some ⟨g, 0, none⟩), .bool true] w fun e w' => e = .returned (.slice (some ⟨gO, 0, none⟩) n n) ∧ Below w.heap.size w w' := by
 go_enter Try.func42, Try.ntmps42
 go_wp2
 go_ret
 exact ⟨rfl, Below.refl _ _⟩
theorem at_no (A : Option Addr) (n c : Nat) (v : Int) (w : World) (h : v < 0 ∨ (n : Int) ≤ v) : Calls Try.prog 41 #[.slice A n c, .int .i64 v] w fun e w' => e = .returned (.slice none 0 0) ∧ Below w.heap.size w w' := by
 by_cases h0 : v < 0
 ·have d0 : decide (v < 0) = true := decide_eq_true h0
  clear h
  go_enter Try.func41, Try.ntmps41
  go_wp2
  go_ret
  exact ⟨rfl, Below.refl _ _⟩
 ·have d0 : decide (v < 0) = false := decide_eq_false h0
  have d1 : decide ((n : Int) ≤ v) = true := decide_eq_true (by omega)
  clear h
  go_enter Try.func41, Try.ntmps41
  go_wp2
  go_ret
  exact ⟨rfl, Below.refl _ _⟩
theorem at_ok (gO n c : Nat) (v : Nat) (u : Value) (w : World) (h : v < n) (p : w.cell? ⟨gO, v, none⟩ = some u) : Calls Try.prog 41 #[.slice (some ⟨gO, 0, none⟩) n c, .int .i64 v] w fun e w' => e = .returned u ∧ Below w.heap.size w w' := by
 have d0 : decide ((v : Int) < 0) = false := decide_eq_false (by omega)
 have d1 : decide ((n : Int) ≤ (v : Int)) = false := decide_eq_false (by omega)
 go_enter Try.func41, Try.ntmps41
 go_wp2
 go_ret
 exact ⟨rfl, Below.refl _ _⟩

/-- What Out tells: of a nil one, or a node that is not there, nothing. -/
def outs (live : Bool) (n : Nat) (l : List S53) (v : Int) : List Int := if live = true ∧ 0 ≤ v ∧ v < n then rw_ l (.o v.toNat) else []
def ins (live : Bool) (n : Nat) (l : List S53) (v : Int) : List Int := if live = true ∧ 0 ≤ v ∧ v < n then rw_ l (.i v.toNat) else []
/-- A graph, or nil. -/
def Gn (w : World) : Bool → Option Addr → Nat → List S53 → Prop
 | false, A, _, _ => A = none
 | true, A, n, l => ∃ g, A = some ⟨g, 0, none⟩ ∧ IsG w g n l
theorem Gn.below {w w' : World} {b : Bool} {A : Option Addr} {n : Nat} {l : List S53} (h : Gn w b A n l) (hb : Below w.heap.size w w') : Gn w' b A n l := by
 cases b with
 | false => exact h
 | true => obtain ⟨g, e, h⟩ := h; exact ⟨g, e, h.below hb⟩
theorem C_nil {α : Type} (d : Kd α) (w : World) : Kd.C d w none 0 ([] : List α) := ⟨rfl, by decide, fun h => absurd h (by decide)⟩

set_option maxHeartbeats 2000000 in
theorem out_ok (b : Bool) (A : Option Addr) (n : Nat) (l : List S53) (v : Int) (w : World) (h : Gn w b A n l) (hl : l.length ≤ 1000) :
  Calls Try.prog 15 #[.pointer A, .int .i64 v] w fun e w' => ∃ x, e = .returned x ∧ Kd.R (Kd.int .i64) 3 w' w.heap.size (fun _ => True) x (outs b n l v) ∧ Below w.heap.size w w' := by
 cases b with
 | false =>
  rw [show A = none from h]
  have ho : outs false n l v = [] := by simp [outs]
  rw [ho]
  go_enter Try.func15, Try.ntmps15
  go_wp2_with fail
  refine (side_nil false _).mono ?_
  rintro e w1 ⟨rfl, hb1⟩
  have HB1 := Lib.hid hb1
  clear hb1
  go_wp2_with fail
  refine (at_no none 0 0 v _ (by omega)).mono ?_
  rintro e w2 ⟨rfl, hb2⟩
  have HB2 := Lib.hid (below_step HB1.out hb2)
  clear hb2
  go_wp2_with fail
  refine (cloneI none 0 [] _ (C_nil _ _) (by decide)).mono ?_
  rintro e w3 ⟨x, rfl, hx, hb3⟩
  have HX := Lib.hid (Kd.R_lower hx (HB2.out.size))
  have HB3 := Lib.hid (below_step HB2.out hb3)
  clear hb3 hx
  go_wp2
  go_ret
  exact ⟨x, rfl, HX.out, HB3.out⟩
 | true =>
  obtain ⟨g, rfl, hg⟩ := h
  obtain ⟨gO, p1, hrow⟩ := hg.rowO
  by_cases hv : 0 ≤ v ∧ v < (n : Int)
  ·obtain ⟨j, rfl⟩ := Int.eq_ofNat_of_zero_le hv.1
   have hj : j < n := by omega
   obtain ⟨A', c', p2, hlc, hC⟩ := hrow j hj
   have ho : outs true n l (j : Int) = rw_ l (.o j) := by simp [outs, hj]
   rw [ho]
   have hrl := rw_len l (.o j)
   have HC := Lib.hid hC
   have HP := Lib.hid p2
   clear hrow hC hg p2 ho
   go_enter Try.func15, Try.ntmps15
   go_wp2_with fail
   refine (side_out g n gO _ p1).mono ?_
   rintro e w1 ⟨rfl, hb1⟩
   have HB1 := Lib.hid hb1
   clear hb1
   go_wp2_with fail
   refine (at_ok gO n n j _ _ hj ((HB1.out.cell (World.block_lt_of_cell? w _ HP.out)).trans HP.out)).mono ?_
   rintro e w2 ⟨rfl, hb2⟩
   have HB2 := Lib.hid (below_step HB1.out hb2)
   clear hb2
   go_wp2_with fail
   refine (cloneI A' c' _ _ (Kd.C_below HC.out HB2.out) (by omega)).mono ?_
   rintro e w3 ⟨x, rfl, hx, hb3⟩
   have HX := Lib.hid (Kd.R_lower hx (HB2.out.size))
   have HB3 := Lib.hid (below_step HB2.out hb3)
   clear hb3 hx
   go_wp2
   go_ret
   exact ⟨x, rfl, HX.out, HB3.out⟩
  ·have ho : outs true n l v = [] := by simp [outs]; omega
   rw [ho]
   clear hrow hg ho
   go_enter Try.func15, Try.ntmps15
   go_wp2_with fail
   refine (side_out g n gO _ p1).mono ?_
   rintro e w1 ⟨rfl, hb1⟩
   have HB1 := Lib.hid hb1
   clear hb1
   go_wp2_with fail
   refine (at_no (some ⟨gO, 0, none⟩) n n v _ (by omega)).mono ?_
   rintro e w2 ⟨rfl, hb2⟩
   have HB2 := Lib.hid (below_step HB1.out hb2)
   clear hb2
   go_wp2_with fail
   refine (cloneI none 0 [] _ (C_nil _ _) (by decide)).mono ?_
   rintro e w3 ⟨x, rfl, hx, hb3⟩
   have HX := Lib.hid (Kd.R_lower hx (HB2.out.size))
   have HB3 := Lib.hid (below_step HB2.out hb3)
   clear hb3 hx
   go_wp2
   go_ret
   exact ⟨x, rfl, HX.out, HB3.out⟩
set_option maxHeartbeats 2000000 in
theorem in_ok (b : Bool) (A : Option Addr) (n : Nat) (l : List S53) (v : Int) (w : World) (h : Gn w b A n l) (hl : l.length ≤ 1000) :
  Calls Try.prog 16 #[.pointer A, .int .i64 v] w fun e w' => ∃ x, e = .returned x ∧ Kd.R (Kd.int .i64) 3 w' w.heap.size (fun _ => True) x (ins b n l v) ∧ Below w.heap.size w w' := by
 cases b with
 | false =>
  rw [show A = none from h]
  have ho : ins false n l v = [] := by simp [ins]
  rw [ho]
  go_enter Try.func16, Try.ntmps16
  go_wp2_with fail
  refine (side_nil true _).mono ?_
  rintro e w1 ⟨rfl, hb1⟩
  have HB1 := Lib.hid hb1
  clear hb1
  go_wp2_with fail
  refine (at_no none 0 0 v _ (by omega)).mono ?_
  rintro e w2 ⟨rfl, hb2⟩
  have HB2 := Lib.hid (below_step HB1.out hb2)
  clear hb2
  go_wp2_with fail
  refine (cloneI none 0 [] _ (C_nil _ _) (by decide)).mono ?_
  rintro e w3 ⟨x, rfl, hx, hb3⟩
  have HX := Lib.hid (Kd.R_lower hx (HB2.out.size))
  have HB3 := Lib.hid (below_step HB2.out hb3)
  clear hb3 hx
  go_wp2
  go_ret
  exact ⟨x, rfl, HX.out, HB3.out⟩
 | true =>
  obtain ⟨g, rfl, hg⟩ := h
  obtain ⟨gO, p1, hrow⟩ := hg.rowI
  by_cases hv : 0 ≤ v ∧ v < (n : Int)
  ·obtain ⟨j, rfl⟩ := Int.eq_ofNat_of_zero_le hv.1
   have hj : j < n := by omega
   obtain ⟨A', c', p2, hlc, hC⟩ := hrow j hj
   have ho : ins true n l (j : Int) = rw_ l (.i j) := by simp [ins, hj]
   rw [ho]
   have hrl := rw_len l (.i j)
   have HC := Lib.hid hC
   have HP := Lib.hid p2
   clear hrow hC hg p2 ho
   go_enter Try.func16, Try.ntmps16
   go_wp2_with fail
   refine (side_in g n gO _ p1).mono ?_
   rintro e w1 ⟨rfl, hb1⟩
   have HB1 := Lib.hid hb1
   clear hb1
   go_wp2_with fail
   refine (at_ok gO n n j _ _ hj ((HB1.out.cell (World.block_lt_of_cell? w _ HP.out)).trans HP.out)).mono ?_
   rintro e w2 ⟨rfl, hb2⟩
   have HB2 := Lib.hid (below_step HB1.out hb2)
   clear hb2
   go_wp2_with fail
   refine (cloneI A' c' _ _ (Kd.C_below HC.out HB2.out) (by omega)).mono ?_
   rintro e w3 ⟨x, rfl, hx, hb3⟩
   have HX := Lib.hid (Kd.R_lower hx (HB2.out.size))
   have HB3 := Lib.hid (below_step HB2.out hb3)
   clear hb3 hx
   go_wp2
   go_ret
   exact ⟨x, rfl, HX.out, HB3.out⟩
  ·have ho : ins true n l v = [] := by simp [ins]; omega
   rw [ho]
   clear hrow hg ho
   go_enter Try.func16, Try.ntmps16
   go_wp2_with fail
   refine (side_in g n gO _ p1).mono ?_
   rintro e w1 ⟨rfl, hb1⟩
   have HB1 := Lib.hid hb1
   clear hb1
   go_wp2_with fail
   refine (at_no (some ⟨gO, 0, none⟩) n n v _ (by omega)).mono ?_
   rintro e w2 ⟨rfl, hb2⟩
   have HB2 := Lib.hid (below_step HB1.out hb2)
   clear hb2
   go_wp2_with fail
   refine (cloneI none 0 [] _ (C_nil _ _) (by decide)).mono ?_
   rintro e w3 ⟨x, rfl, hx, hb3⟩
   have HX := Lib.hid (Kd.R_lower hx (HB2.out.size))
   have HB3 := Lib.hid (below_step HB2.out hb3)
   clear hb3 hx
   go_wp2
   go_ret
   exact ⟨x, rfl, HX.out, HB3.out⟩
set_option maxHeartbeats 2000000 in
theorem deg_out_ok (b : Bool) (A : Option Addr) (n : Nat) (l : List S53) (v : Int) (w : World) (h : Gn w b A n l) (hl : l.length ≤ 1000) :
  Calls Try.prog 46 #[.pointer A, .int .i64 v, .bool false] w fun e w' => e = .returned (.int .i64 (outs b n l v).length) ∧ Below w.heap.size w w' := by
 cases b with
 | false =>
  rw [show A = none from h]
  have ho : outs false n l v = [] := by simp [outs]
  rw [ho]
  go_enter Try.func46, Try.ntmps46
  go_wp2_with fail
  refine (side_nil false _).mono ?_
  rintro e w1 ⟨rfl, hb1⟩
  have HB1 := Lib.hid hb1
  clear hb1
  go_wp2_with fail
  refine (at_no none 0 0 v _ (by omega)).mono ?_
  rintro e w2 ⟨rfl, hb2⟩
  have HB2 := Lib.hid (below_step HB1.out hb2)
  clear hb2
  go_wp2
  go_ret
  exact ⟨rfl, HB2.out⟩
 | true =>
  obtain ⟨g, rfl, hg⟩ := h
  obtain ⟨gO, p1, hrow⟩ := hg.rowO
  by_cases hv : 0 ≤ v ∧ v < (n : Int)
  ·obtain ⟨j, rfl⟩ := Int.eq_ofNat_of_zero_le hv.1
   have hj : j < n := by omega
   obtain ⟨A', c', p2, hlc, hC⟩ := hrow j hj
   have ho : outs true n l (j : Int) = rw_ l (.o j) := by simp [outs, hj]
   rw [ho]
   have hrl := rw_len l (.o j)
   have HC := Lib.hid hC
   have HP := Lib.hid p2
   clear hrow hC hg p2 ho
   go_enter Try.func46, Try.ntmps46
   go_wp2_with fail
   refine (side_out g n gO _ p1).mono ?_
   rintro e w1 ⟨rfl, hb1⟩
   have HB1 := Lib.hid hb1
   clear hb1
   go_wp2_with fail
   refine (at_ok gO n n j _ _ hj ((HB1.out.cell (World.block_lt_of_cell? w _ HP.out)).trans HP.out)).mono ?_
   rintro e w2 ⟨rfl, hb2⟩
   have HB2 := Lib.hid (below_step HB1.out hb2)
   clear hb2
   go_wp2
   go_ret
   exact ⟨rfl, HB2.out⟩
  ·have ho : outs true n l v = [] := by simp [outs]; omega
   rw [ho]
   clear hrow hg ho
   go_enter Try.func46, Try.ntmps46
   go_wp2_with fail
   refine (side_out g n gO _ p1).mono ?_
   rintro e w1 ⟨rfl, hb1⟩
   have HB1 := Lib.hid hb1
   clear hb1
   go_wp2_with fail
   refine (at_no (some ⟨gO, 0, none⟩) n n v _ (by omega)).mono ?_
   rintro e w2 ⟨rfl, hb2⟩
   have HB2 := Lib.hid (below_step HB1.out hb2)
   clear hb2
   go_wp2
   go_ret
   exact ⟨rfl, HB2.out⟩
set_option maxHeartbeats 2000000 in
theorem deg_in_ok (b : Bool) (A : Option Addr) (n : Nat) (l : List S53) (v : Int) (w : World) (h : Gn w b A n l) (hl : l.length ≤ 1000) :
  Calls Try.prog 46 #[.pointer A, .int .i64 v, .bool true] w fun e w' => e = .returned (.int .i64 (ins b n l v).length) ∧ Below w.heap.size w w' := by
 cases b with
 | false =>
  rw [show A = none from h]
  have ho : ins false n l v = [] := by simp [ins]
  rw [ho]
  go_enter Try.func46, Try.ntmps46
  go_wp2_with fail
  refine (side_nil true _).mono ?_
  rintro e w1 ⟨rfl, hb1⟩
  have HB1 := Lib.hid hb1
  clear hb1
  go_wp2_with fail
  refine (at_no none 0 0 v _ (by omega)).mono ?_
  rintro e w2 ⟨rfl, hb2⟩
  have HB2 := Lib.hid (below_step HB1.out hb2)
  clear hb2
  go_wp2
  go_ret
  exact ⟨rfl, HB2.out⟩
 | true =>
  obtain ⟨g, rfl, hg⟩ := h
  obtain ⟨gO, p1, hrow⟩ := hg.rowI
  by_cases hv : 0 ≤ v ∧ v < (n : Int)
  ·obtain ⟨j, rfl⟩ := Int.eq_ofNat_of_zero_le hv.1
   have hj : j < n := by omega
   obtain ⟨A', c', p2, hlc, hC⟩ := hrow j hj
   have ho : ins true n l (j : Int) = rw_ l (.i j) := by simp [ins, hj]
   rw [ho]
   have hrl := rw_len l (.i j)
   have HC := Lib.hid hC
   have HP := Lib.hid p2
   clear hrow hC hg p2 ho
   go_enter Try.func46, Try.ntmps46
   go_wp2_with fail
   refine (side_in g n gO _ p1).mono ?_
   rintro e w1 ⟨rfl, hb1⟩
   have HB1 := Lib.hid hb1
   clear hb1
   go_wp2_with fail
   refine (at_ok gO n n j _ _ hj ((HB1.out.cell (World.block_lt_of_cell? w _ HP.out)).trans HP.out)).mono ?_
   rintro e w2 ⟨rfl, hb2⟩
   have HB2 := Lib.hid (below_step HB1.out hb2)
   clear hb2
   go_wp2
   go_ret
   exact ⟨rfl, HB2.out⟩
  ·have ho : ins true n l v = [] := by simp [ins]; omega
   rw [ho]
   clear hrow hg ho
   go_enter Try.func46, Try.ntmps46
   go_wp2_with fail
   refine (side_in g n gO _ p1).mono ?_
   rintro e w1 ⟨rfl, hb1⟩
   have HB1 := Lib.hid hb1
   clear hb1
   go_wp2_with fail
   refine (at_no (some ⟨gO, 0, none⟩) n n v _ (by omega)).mono ?_
   rintro e w2 ⟨rfl, hb2⟩
   have HB2 := Lib.hid (below_step HB1.out hb2)
   clear hb2
   go_wp2
   go_ret
   exact ⟨rfl, HB2.out⟩
end Go.Proofs.Ytkpaefeaplgnmaa.G
