/- The walks of graph: what may be. -/
import Derived.Test.YtkpaefeaplgnmaaPAx2
import Derived.Deep.RegionHeld3
import Derived.Lib.Hide
import Derived.Outline
import Derived.OwnWalk
set_option linter.unusedSimpArgs false
set_option linter.unusedVariables false
namespace Go.Proofs.Ytkpaefeaplgnmaa.G
open Go.RowKit Go.Proofs.Ytkpaefeaplgnmaa.PA Go.Proofs.YtkpaefeaplgnmaaW.PrintWords Go.Proofs.YtkpaefeaplgnmaaW.PrintLast Go.Proofs.YtkpaefeaplgnmaaW.PrintMore

theorem add_more (a : Addr) (n : Nat) {m : Nat} (hm : 0 < m) : a.add (n + m) = ⟨(a.add n).block, (a.add n).off + m, none⟩ := by
 unfold Addr.add
 rw [if_neg (by omega)]
 by_cases h : n = 0
 ·subst h; simp
 ·simp [h]; omega
theorem edge_at {w : World} {A : Option Addr} {l : List S53} (h : Kd.C k53 w A l.length l) {i : Nat} (hi : i < l.length) : ∃ ad, A = some ad ∧ w.cell? (ad.add (i * 2)) = some (.int .i64 l[i].f0) ∧ w.cell? ⟨(ad.add (i * 2)).block, (ad.add (i * 2)).off + 1, none⟩ = some (.int .i64 l[i].f1) := by
 obtain ⟨ad, rfl, hc⟩ := h.2.2 (by omega)
 obtain ⟨cs, h1, h2, h3⟩ := hc i l[i] (List.getElem?_eq_getElem hi)
 rw [k53_open h2, show k53.sz = 2 from rfl] at h3
 exact ⟨ad, rfl, h3 0 _ rfl, by rw [← add_more _ _ (by decide)]; exact h3 1 _ rfl⟩

/-- May an edge be? -/
def fit (n : Int) (e : S53) : Bool := decide (0 ≤ e.f0) && decide (e.f0 < n) && decide (0 ≤ e.f1) && decide (e.f1 < n)
/-- The first edge that may not be. -/
def bad (n : Int) (l : List S53) : Nat := l.findIdx (fun e => !fit n e)
def chk (n : Int) (l : List S53) : Int × Int := if n < 1 ∨ 12 < n ∨ 30 < l.length then (-1, 11) else if bad n l < l.length then ((bad n l : Int), 11) else (0, 0)

theorem bad_at {n : Int} {l : List S53} {i : Nat} (hi : i < l.length) (hb : i ≤ bad n l) (hf : fit n l[i] = false) : bad n l = i := by
 apply Nat.le_antisymm ?_ hb
 unfold bad
 by_cases h : l.findIdx (fun e => !fit n e) ≤ i
 ·exact h
 ·have := List.not_of_lt_findIdx (p := fun e => !fit n e) (xs := l) (i := i) (by omega)
  simp [hf] at this
theorem bad_past {n : Int} {l : List S53} {i : Nat} (hi : i < l.length) (hb : i ≤ bad n l) (hf : fit n l[i] = true) : i + 1 ≤ bad n l := by
 rcases Nat.lt_or_ge i (bad n l) with h | h
 ·exact h
 ·have e : bad n l = i := Nat.le_antisymm h hb
  have h2 : l.findIdx (fun e => !fit n e) < l.length := by rw [show l.findIdx (fun e => !fit n e) = bad n l from rfl, e]; exact hi
  have := List.findIdx_getElem (w := h2)
  have e2 : l.findIdx (fun e => !fit n e) = i := e
  simp only [e2] at this
  simp [hf] at this
theorem node_ok (b : Nat) (n v : Int) (w : World) (hb : w.cell? ⟨b, 0, none⟩ = some (.int .i64 n)) : Calls Try.prog 43 #[.int .i64 v, .pointer (some ⟨b, 0, none⟩)] w fun e w' => e = .returned (.bool (decide (0 ≤ v) && decide (v < n))) ∧ Below w.heap.size w w' := by
 by_cases h0 : 0 ≤ v
 ·have d0 : decide (0 ≤ v) = true := decide_eq_true h0
  rw [d0, Bool.true_and]
  go_enter Try.func43, Try.ntmps43
  go_wp2
  go_ret
  exact ⟨rfl, Below.refl _ _⟩
 ·have d0 : decide (0 ≤ v) = false := decide_eq_false h0
  rw [d0, Bool.false_and]
  go_enter Try.func43, Try.ntmps43
  go_wp2
  go_ret
  exact ⟨rfl, Below.refl _ _⟩

set_option maxHeartbeats 4000000 in
theorem check_ok (n : Int) (A : Option Addr) (c : Nat) (l : List S53) (w : World) (hr : Kd.C k53 w A l.length l) (hl : (l.length : Int) ≤ 9223372036854775807) :
  Calls Try.prog 18 #[.int .i64 n, .slice A l.length c] w fun e w' => e = .returned (.tuple #[.int .i64 (chk n l).1, .int .i64 (chk n l).2]) ∧ Below w.heap.size w w' := by
 have HR := Lib.hid hr
 clear hr
 by_cases h1 : n < 1
 ·have d1 : decide (n < 1) = true := decide_eq_true h1
  have hc : chk n l = (-1, 11) := by simp [chk, h1]
  have HC := Lib.hid hc
  clear hc
  go_enter Try.func18, Try.ntmps18
  go_wp2
  go_ret2
  rw [HC.out]
  exact ⟨rfl, (Below.refl _ _).alloc (Nat.le_refl _) _⟩
 have d1 : decide (n < 1) = false := decide_eq_false h1
 by_cases h2 : 12 < n
 ·have d2 : decide (12 < n) = true := decide_eq_true h2
  have hc : chk n l = (-1, 11) := by simp [chk, h2]
  have HC := Lib.hid hc
  clear hc
  go_enter Try.func18, Try.ntmps18
  go_wp2
  go_ret2
  rw [HC.out]
  exact ⟨rfl, (Below.refl _ _).alloc (Nat.le_refl _) _⟩
 have d2 : decide (12 < n) = false := decide_eq_false h2
 by_cases h3 : 30 < l.length
 ·have d3 : decide (30 < (l.length : Int)) = true := decide_eq_true (by omega)
  have hc : chk n l = (-1, 11) := by simp [chk, h3]
  have HC := Lib.hid hc
  clear hc
  go_enter Try.func18, Try.ntmps18
  go_wp2
  go_ret2
  rw [HC.out]
  exact ⟨rfl, (Below.refl _ _).alloc (Nat.le_refl _) _⟩
 have d3 : decide (30 < (l.length : Int)) = false := decide_eq_false (by omega)
 have hc : chk n l = if bad n l < l.length then ((bad n l : Int), 11) else (0, 0) := by simp [chk, h1, h2, h3]
 have HC := Lib.hid hc
 clear hc
 go_enter Try.func18, Try.ntmps18
 go_wp2_with fail
 have HB0 := Lib.hid (show Below w.heap.size w (w.alloc (.cells #[.int .i64 n] 3)) from (Below.refl _ _).alloc (Nat.le_refl _) _)
 have hw0 : (w.alloc (.cells #[.int .i64 n] 3)).cell? ⟨w.heap.size, 0, none⟩ = some (.int .i64 n) := by go_simp
 have hl0 : w.heap.size < (w.alloc (.cells #[.int .i64 n] 3)).heap.size := by simp
 generalize hW : w.alloc (.cells #[.int .i64 n] 3) = W0 at HB0 hw0 hl0 ⊢
 obtain ⟨B0, hB0⟩ : ∃ B0, B0 = w.heap.size := ⟨_, rfl⟩
 rw [← hB0] at hw0 hl0 ⊢
 have HBE := Lib.hid hB0
 clear hW hB0
 go_loopw [23] (fun v23 wr => ∃ i : Nat, i ≤ l.length ∧ i ≤ bad n l ∧ v23 = .int .i64 i ∧ Below W0.heap.size W0 wr) (fun v23 _ => l.length - (intOf v23).toNat)
 case atStart => exact ⟨0, Nat.zero_le _, Nat.zero_le _, rfl, Below.refl _ _⟩
 case round =>
  obtain ⟨i, hi, hib, rfl, hb⟩ := hrel
  by_cases hlt : i < l.length
  ·obtain ⟨ad, rfl, c1, c2⟩ := edge_at HR.out hlt
   have q0 := (hb.cell (p := ⟨B0, 0, none⟩) hl0).trans hw0
   have q1 : wr.cell? (ad.add (i * 2)) = some (.int .i64 l[i].f0) := by
    have h1 := World.block_lt_of_cell? w _ c1
    exact (hb.cell (Nat.lt_of_lt_of_le h1 HB0.out.size)).trans ((HB0.out.cell h1).trans c1)
   have q2 : wr.cell? ⟨(ad.add (i * 2)).block, (ad.add (i * 2)).off + 1, none⟩ = some (.int .i64 l[i].f1) := by
    have h1 := World.block_lt_of_cell? w _ c2
    exact (hb.cell (Nat.lt_of_lt_of_le h1 HB0.out.size)).trans ((HB0.out.cell h1).trans c2)
   obtain ⟨x, hx⟩ : ∃ x, x = l[i].f0 := ⟨_, rfl⟩
   obtain ⟨y, hy⟩ : ∃ y, y = l[i].f1 := ⟨_, rfl⟩
   rw [← hx] at q1
   rw [← hy] at q2
   have hl1 : B0 < wr.heap.size := Nat.lt_of_lt_of_le hl0 hb.size
   have hfit : fit n l[i] = ((decide (0 ≤ x) && decide (x < n)) && (decide (0 ≤ y) && decide (y < n))) := by rw [hx, hy]; simp [fit, Bool.and_assoc]
   have HF := Lib.hid hfit
   have HB := Lib.hid hb
   have HIB := Lib.hid hib
   clear hfit hb c1 c2 hx hy hib
   go_wp2_with fail
   have l1 : B0 < (wr.alloc (Obj.cells #[Value.int IntKind.i64 x, Value.int IntKind.i64 y] 53)).heap.size := by simp; omega
   refine (node_ok B0 n x _ (by go_simp)).mono ?_
   rintro e w2 ⟨rfl, hb2⟩
   have HB2 := Lib.hid (below_step (below_step HB.out (below_alloc (Below.refl _ _) _)) hb2)
   have q02 : w2.cell? ⟨B0, 0, none⟩ = some (.int .i64 n) := (hb2.cell l1).trans (by go_simp)
   have q22 : w2.cell? ⟨wr.heap.size, 1, none⟩ = some (.int .i64 y) := (hb2.cell (by simp)).trans (by go_simp)
   have q12 : w2.cell? ⟨wr.heap.size, 0, none⟩ = some (.int .i64 x) := (hb2.cell (by simp)).trans (by go_simp)
   clear hb2
   cases hp : (decide (0 ≤ x) && decide (x < n)) with
   | false =>
    have hft : fit n l[i] = false := by rw [HF.out, hp]; rfl
    have hbd : bad n l = i := bad_at hlt HIB.out hft
    have HBD := Lib.hid hbd
    clear hft hbd hp
    go_wp2
    go_ret2
    rw [HC.out, HBD.out, if_pos hlt]
    exact ⟨rfl, below_step HB0.out HB2.out⟩
   | true =>
    have HP := Lib.hid hp
    clear hp
    go_wp2_with fail
    refine (node_ok B0 n y _ (by go_simp)).mono ?_
    rintro e w3 ⟨rfl, hb3⟩
    have HB3 := Lib.hid (below_step HB2.out hb3)
    clear hb3
    cases hq : (decide (0 ≤ y) && decide (y < n)) with
    | false =>
     have hft : fit n l[i] = false := by rw [HF.out, HP.out, hq]; rfl
     have hbd : bad n l = i := bad_at hlt HIB.out hft
     have HBD := Lib.hid hbd
     clear hft hbd hq
     go_wp2
     go_ret2
     rw [HC.out, HBD.out, if_pos hlt]
     exact ⟨rfl, below_step HB0.out HB3.out⟩
    | true =>
     have hft : fit n l[i] = true := by rw [HF.out, HP.out, hq]; rfl
     have hbd := bad_past hlt HIB.out hft
     have HBD := Lib.hid hbd
     clear hft hbd hq
     go_wp2
     go_roundw
     case rel => exact ⟨i + 1, by omega, HBD.out, by go_num, HB3.out⟩
     case measure => simp [intOf]; omega
  ·have hie : i = l.length := by omega
   have HIE := Lib.hid hie
   have HIB := Lib.hid hib
   have HB := Lib.hid hb
   clear hb hib hie
   go_wp2
   go_ret2
   rw [HC.out, if_neg (by have := HIE.out; have := HIB.out; omega)]
   exact ⟨rfl, below_step HB0.out HB.out⟩
end Go.Proofs.Ytkpaefeaplgnmaa.G
