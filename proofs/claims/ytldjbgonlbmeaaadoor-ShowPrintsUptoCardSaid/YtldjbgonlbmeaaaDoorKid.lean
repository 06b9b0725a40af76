/- tree.kids: what yields the places of a form's kids that stand behind it. -/
import Derived.Test.YtldjbgonlbmeaaaDoorPAx0
import Derived.RangeFuncBox
import Derived.RangeFuncNested
import Derived.RangeFuncBound
import Derived.RangeFuncCalls
import Derived.RangeFuncLeaves
import Derived.Shelf.Abstract
import Derived.Shelf.RegionOpen
import Derived.OwnWalkIn
import Derived.TacticsInMore
import Derived.LoopNIn
import Derived.LoopIn
import Derived.Sort.QuietIn
import Derived.Sort.LoopGhostIn
import Derived.Lib.Hide
import Derived.Outline
set_option linter.unusedSimpArgs false
set_option linter.unusedVariables false
namespace Go.Proofs.YtldjbgonlbmeaaaDoor.T
open Go.RowKit Go.Shelf Go.Proofs.YtldjbgonlbmeaaaDoor.PA Go.Proofs.YtldjbgonlbmeaaaDoorW.PrintWords Go.Proofs.YtldjbgonlbmeaaaDoorW.PrintLast Go.Proofs.YtldjbgonlbmeaaaDoorW.PrintMore
attribute [local go_sem] Oper.semAt_some

abbrev Fm := S61
abbrev kFm : Kd Fm := k61
abbrev zFm : Fm := z61
def I (x : Int) : Value := .int .i64 x
theorem grown_none {w w' : World} (hb : Below w.heap.size w w') : w.grownBy w' none := ⟨hb.os, hb.tape, hb.output, hb.size, fun k hk _ => hb.block k hk⟩
theorem cell_of {w : World} {B i : Nat} {cs : Array Value} {t : TypeId} (h : w.heap[B]? = some (.cells cs t (0, 0))) : w.cell? ⟨B, i, none⟩ = cs[i]? := by simp [World.cell?, h]
theorem set_far {w : World} {B g j : Nat} {u : Value} {o : Obj} (h : w.heap[B]? = some o) (hne : B ≠ g) : (w.setCell ⟨g, j, none⟩ u).heap[B]? = some o := by rw [Below.heap_setCell _ _ _ _ hne, h]
theorem yields {F : Fence} {m : Nat} {P : Program} {l : Nat} {args : Array Value} {W : World} {R : Ending → World → Prop} (h : YieldAt F m P l args W R) : ∃ fn tmps assign body, (Instr.yield l args).run P W = .ok (.round l fn tmps assign body) W ∧ RoundIn F m P l fn tmps assign body W R := h
theorem int_at {w : World} {A : Option Addr} {n : Nat} {l : List Int} (h : Kd.C (Kd.int .i64) w A n l) {i : Nat} (hi : i < l.length) : ∃ ad, A = some ad ∧ w.cell? (ad.add i) = some (.int .i64 l[i]) := by
 have hn : l.length = n := h.1
 obtain ⟨ad, rfl, hc⟩ := h.2.2 (by omega)
 obtain ⟨cs, h1, h2, h3⟩ := hc i l[i] (List.getElem?_eq_getElem hi)
 have h2' : cs = [.int .i64 l[i]] := h2
 subst h2'
 have := h3 0 _ rfl
 rw [show (Kd.int .i64).sz = 1 from rfl, Nat.mul_one, Nat.add_zero] at this
 exact ⟨ad, rfl, this⟩
theorem form_at {w : World} {A : Option Addr} {l : List Fm} (h : Kd.C kFm w A l.length l) {i : Nat} (hi : i < l.length) : ∃ ad A3 c3, A = some ad ∧ w.cell? (ad.add (i * 5)) = some (.int .u8 l[i].f0) ∧ w.cell? ⟨(ad.add (i * 5)).block, (ad.add (i * 5)).off + 1, none⟩ = some (.string l[i].f1) ∧ w.cell? ⟨(ad.add (i * 5)).block, (ad.add (i * 5)).off + 2, none⟩ = some (.int .i64 l[i].f2) ∧ w.cell? ⟨(ad.add (i * 5)).block, (ad.add (i * 5)).off + 3, none⟩ = some (.slice A3 l[i].f3.length c3) ∧ w.cell? ⟨(ad.add (i * 5)).block, (ad.add (i * 5)).off + 4, none⟩ = some (.int .i64 l[i].f4) ∧ l[i].f3.length ≤ c3 ∧ (Kd.int .i64).C w A3 l[i].f3.length l[i].f3 := by
 have := at_T61 h (i : Int) (by omega) (by omega)
 have e : rd_T61 l (i : Int) = l[i] := by unfold rd_T61; simp [List.getD_eq_getElem?_getD, hi]
 rw [e] at this
 simpa using this
def kd (l : List Fm) (i : Nat) : List Nat := ((l.getD i zFm).f3.filter fun k => decide ((i : Int) < k) && decide (k < (l.length : Int))).map Int.toNat
theorem kd_lt {l : List Fm} {i k : Nat} (h : k ∈ kd l i) : i < k ∧ k < l.length := by
 unfold kd at h
 obtain ⟨x, hx, rfl⟩ := List.mem_map.1 h
 have := (List.mem_filter.1 hx).2
 simp at this
 omega

def KpG (n₀ Bg : Nat) (W W' : World) : Prop := Below n₀ W W' ∧ W'.heap[Bg]? = W.heap[Bg]? ∧ W'.heap[Bg + 1]? = W.heap[Bg + 1]?
theorem KpG.t {n₀ Bg : Nat} {A B C : World} (h : KpG n₀ Bg A B) (k : KpG n₀ Bg B C) : KpG n₀ Bg A C := ⟨h.1.trans k.1, k.2.1.trans h.2.1, k.2.2.trans h.2.2⟩
theorem KpG.b {n₀ Bg : Nat} {w : World} (hn : n₀ ≤ w.heap.size) (hB : Bg + 1 < w.heap.size) (W : World) (l : Nat) (o o' : Obj) (hl : w.heap.size ≤ l) (h : W.heap[l]? = some o) (a : o.isCells = false) (b : o.isWalk = false) : KpG n₀ Bg W (W.putObj l o') :=
 ⟨belowK_b hn W l o o' hl h a b, World.putObj_heap_other (by omega), World.putObj_heap_other (by omega)⟩

set_option maxHeartbeats 1000000 in
theorem kids_in (F : Fence) (n : Nat) (hF : F.fn 47) (hro : F.round = none) (A : Option Addr) (m c : Nat) (v : Int) (w : World) :
  CallsIn F n Tryd.prog 47 #[.slice A m c, .int .i64 v] w fun e w' => e = .returned (.func (.func 55) #[] #[.pointer (some ⟨w.heap.size, 0, none⟩), .pointer (some ⟨w.heap.size + 1, 0, none⟩)]) ∧ w' = (w.alloc (.cells #[.slice A m c] 22)).alloc (.cells #[.int .i64 v] 3) := by
 refine callsIn_of_wp Tryd.func47 rfl hF ?_ hro
 simp only [Tryd.ntmps47, List.size_toArray, List.length_cons, List.length_nil, Nat.reduceAdd, Nat.reduceSub, Array.replicate_succ, Array.replicate_zero, List.push_toArray, List.append_toArray, List.nil_append, List.cons_append]
 gi_wp2
 go_ret
 exact ⟨rfl, rfl⟩

set_option maxRecDepth 100000 in
set_option maxHeartbeats 2000000 in
theorem kids1_in (m : Nat) (hm : 1 ≤ m) (L Bg v : Nat) (A : Option Addr) (c : Nat) (l : List Fm) (w0 : World) (hv : v < l.length) (hC : Kd.C kFm w0 A l.length l) (hmx : l.length ≤ 9223372036854775807) (hB0 : w0.heap.size ≤ Bg) (J Jx : List (Fin l.length) → World → Prop)
  (hY : ∀ pre x W, J pre W → pre.length < l[v].f3.length → YieldAt Fence.wide (m - 1) Tryd.prog L #[.int .i64 (x.1 : Int)] W fun e W' =>
   (e = .returned (.bool true) ∧ J (pre ++ [x]) W' ∧ KpG w0.heap.size Bg W W') ∨ (e = .returned (.bool false) ∧ Jx (pre ++ [x]) W'))
  (W : World) (hJd : ∀ pre W k, J pre W → J pre (W.drewN k)) (hBg : W.heap[Bg]? = some (.cells #[.slice A l.length c] 22 (0, 0))) (hBv : W.heap[Bg + 1]? = some (.cells #[.int .i64 (v : Int)] 3 (0, 0)))
  (hW : Below w0.heap.size w0 W) (h0 : J [] W) :
  CallsIn Fence.wide m Tryd.prog 55 #[.func (.yield L) #[] #[], .pointer (some ⟨Bg, 0, none⟩), .pointer (some ⟨Bg + 1, 0, none⟩)] W fun e W' => (∃ v, e = .returned v) ∧
   ((∃ ys, ys.map Fin.val = kd l v ∧ J ys W') ∨ (∃ pre, True ∧ Jx pre W')) := by
 obtain ⟨ad, A3, c3, rfl, e0, e1, e2, e3, e4, h3, hK⟩ := form_at hC hv
 have q1 := (hW.cell (World.block_lt_of_cell? w0 _ e3)).trans e3
 have cg : W.cell? ⟨Bg, 0, none⟩ = some (.slice (some ad) l.length c) := by simp [World.cell?, hBg]
 have cv : W.cell? ⟨Bg + 1, 0, none⟩ = some (.int .i64 (v : Int)) := by simp [World.cell?, hBv]
 have HK := Lib.hid hK
 have HBg := Lib.hid hBg
 have HBv := Lib.hid hBv
 have HW := Lib.hid hW
 have hkd : kd l v = (l[v].f3.filter fun k => decide ((v : Int) < k) && decide (k < (l.length : Int))).map Int.toNat := by unfold kd; rw [List.getD_eq_getElem?_getD, List.getElem?_eq_getElem hv]; rfl
 obtain ⟨xs, hxs⟩ : ∃ xs, xs = l[v].f3 := ⟨_, rfl⟩
 rw [← hxs] at HK hkd h3 q1 hY
 have HKD := Lib.hid hkd
 clear hkd
 have hx44 : xs.length ≤ 9223372036854775807 := HK.out.2.1
 clear hC hK hBg hBv hW e0 e1 e2 e3 e4
 refine callsIn_of_wp Tryd.func55 rfl trivial ?_ rfl
 simp only [Tryd.ntmps55, List.size_toArray, List.length_cons, List.length_nil, Nat.reduceAdd, Nat.reduceSub, Array.replicate_succ, Array.replicate_zero, List.push_toArray, List.append_toArray, List.nil_append, List.cons_append]
 have d0 : decide ((v : Int) < (l.length : Int)) = true := decide_eq_true (by omega)
 have HX := Lib.hid hxs
 clear hxs
 gi_wp2
 gi_loopw [12] (fun v12 wr => ∃ (k : Nat) (pre : List (Fin l.length)), k ≤ xs.length ∧ v12 = .int .i64 k ∧ pre.map Fin.val = (((xs.take k).filter fun k => decide ((v : Int) < k) && decide (k < (l.length : Int))).map Int.toNat) ∧ J pre wr ∧ KpG w0.heap.size Bg W wr) (fun v12 _ => xs.length - (intOf v12).toNat)
 case atStart => exact ⟨0, [], Nat.zero_le _, rfl, by simp, h0, Below.refl _ _, rfl, rfl⟩
 case round =>
  obtain ⟨k, pre, hk, rfl, hpre, hJ, hKp⟩ := hrel
  have HKP := Lib.hid hKp
  clear hKp
  have rg : wr.cell? ⟨Bg, 0, none⟩ = some (.slice (some ad) l.length c) := by simp [World.cell?, HKP.out.2.1, HBg.out]
  have rv : wr.cell? ⟨Bg + 1, 0, none⟩ = some (.int .i64 (v : Int)) := by simp [World.cell?, HKP.out.2.2, HBv.out]
  by_cases hlt : k < xs.length
  ·have hb := (HW.out).trans HKP.out.1
   obtain ⟨ad3, rfl, c1⟩ := int_at HK.out hlt
   have r1 := (hb.cell (World.block_lt_of_cell? w0 _ c1)).trans c1
   have htk : xs.take (k + 1) = xs.take k ++ [xs[k]] := List.take_succ_eq_append_getElem hlt
   have hpl : pre.length ≤ k := by
    have e1 := congrArg List.length hpre
    rw [List.length_map, List.length_map] at e1
    have e2 := List.length_filter_le (fun k => decide ((v : Int) < k) && decide (k < (l.length : Int))) (xs.take k)
    rw [List.length_take] at e2
    omega
   obtain ⟨x, hx⟩ : ∃ x, x = xs[k] := ⟨_, rfl⟩
   rw [← hx] at r1 htk
   have HTK := Lib.hid htk
   have HPRE := Lib.hid hpre
   clear c1 hb hx htk hpre
   have d1 : decide (k < xs.length) = true := decide_eq_true hlt
   have d1' : decide ((k : Int) < (xs.length : Int)) = true := decide_eq_true (by omega)
   by_cases h1 : (v : Int) < x
   ·by_cases h2 : x < (l.length : Int)
    ·obtain ⟨y, rfl⟩ : ∃ y : Fin l.length, x = ((y.1 : Nat) : Int) := ⟨⟨x.toNat, by omega⟩, by simp; omega⟩
     have hnx : ((xs.take (k + 1)).filter fun k => decide ((v : Int) < k) && decide (k < (l.length : Int))).map Int.toNat = pre.map Fin.val ++ [y.1] := by
      rw [HTK.out, List.filter_append, List.map_append, ← HPRE.out, List.filter_cons_of_pos (by simp; omega)]
      rfl
     have HNX := Lib.hid hnx
     obtain ⟨fn, tmps, assign, body, hy, hR⟩ := yields (hY pre y wr hJ (by omega))
     have d2 : decide ((y.1 : Int) > (v : Int)) = true := decide_eq_true h1
     have d3 : decide ((y.1 : Int) < (l.length : Int)) = true := decide_eq_true h2
     have d4 : decide (y.1 < l.length) = true := decide_eq_true y.2
     have d5 : decide (v < y.1) = true := decide_eq_true (by omega)
     clear hnx hJ h1 h2 hpl
     gi_wp2
     refine hR.mono ?_
     rintro e W3 (⟨rfl, hJ3, hk3⟩ | ⟨rfl, hJx3⟩)
     ·have HJ3 := Lib.hid hJ3
      have HK3 := Lib.hid hk3
      clear hJ3 hk3
      gi_wp2
      go_roundw
      case rel => exact ⟨k + 1, pre ++ [y], by omega, by go_num, by rw [HNX.out, List.map_append]; rfl, HJ3.out, HKP.out.t HK3.out⟩
      case measure => simp [intOf]; omega
     ·have HJ3 := Lib.hid hJx3
      clear hJx3
      gi_wp2
      refine bodyPost_ret (results_none rfl _ _ _) rfl ?_
      exact ⟨⟨_, rfl⟩, .inr ⟨pre ++ [y], trivial, HJ3.out⟩⟩
    ·have hnx : ((xs.take (k + 1)).filter fun k => decide ((v : Int) < k) && decide (k < (l.length : Int))).map Int.toNat = pre.map Fin.val := by
      rw [HTK.out, List.filter_append, List.map_append, ← HPRE.out]
      simp [h2]
     have HNX := Lib.hid hnx
     have d2 : decide (x > (v : Int)) = true := decide_eq_true h1
     have d3 : decide (x < (l.length : Int)) = false := decide_eq_false h2
     have HJ := Lib.hid hJ
     clear hnx h1 h2 hJ hpl
     gi_wp2
     refine ⟨fun _ h => (by cases h), ?_⟩
     gi_wp2
     go_roundw
     case rel => exact ⟨k + 1, pre, by omega, by go_num, HNX.out.symm, HJ.out, HKP.out⟩
     case measure => simp [intOf]; omega
   ·have hnx : ((xs.take (k + 1)).filter fun k => decide ((v : Int) < k) && decide (k < (l.length : Int))).map Int.toNat = pre.map Fin.val := by
     rw [HTK.out, List.filter_append, List.map_append, ← HPRE.out]
     simp [h1]
    have HNX := Lib.hid hnx
    have d2 : decide (x > (v : Int)) = false := decide_eq_false h1
    have HJ := Lib.hid hJ
    clear hnx h1 hJ hpl
    gi_wp2
    refine ⟨fun _ h => (by cases h), ?_⟩
    gi_wp2
    go_roundw
    case rel => exact ⟨k + 1, pre, by omega, by go_num, HNX.out.symm, HJ.out, HKP.out⟩
    case measure => simp [intOf]; omega
  ·have hkl : k = xs.length := by omega
   have HKL := Lib.hid hkl
   have HPRE := Lib.hid hpre
   have d1 : decide (k < xs.length) = false := decide_eq_false hlt
   have d1' : decide ((k : Int) < (xs.length : Int)) = false := decide_eq_false (by omega)
   have HJ := Lib.hid hJ
   clear hkl hJ hpre
   gi_wp2
   go_end0
   exact ⟨⟨_, rfl⟩, .inl ⟨pre, by rw [HPRE.out, HKD.out, HKL.out, List.take_length], HJ.out⟩⟩
theorem kids_stops (m : Nat) (hm : 1 ≤ m) (Bg v : Nat) (A : Option Addr) (c : Nat) (l : List Fm) (w0 w : World) (hv : v < l.length) (hC : Kd.C kFm w0 A l.length l) (hB0 : w0.heap.size ≤ Bg) (hb : Below w0.heap.size w0 w) (hBg : w.heap[Bg]? = some (.cells #[.slice A l.length c] 22 (0, 0))) (hBv : w.heap[Bg + 1]? = some (.cells #[.int .i64 (v : Int)] 3 (0, 0))) :
  SeqStopsK Fence.wide m Tryd.prog 55 #[.pointer (some ⟨Bg, 0, none⟩), .pointer (some ⟨Bg + 1, 0, none⟩)] (fun x : Fin l.length => #[Value.int .i64 (x.1 : Int)]) (KpG w0.heap.size Bg) (fun ys => ys.map Fin.val = kd l v) (fun _ => True) l[v].f3.length w := fun L J Jx W hW hJ _ hY h0 =>
 kids1_in m hm L Bg v A c l w0 hv hC hC.2.1 hB0 J Jx hY W (fun pre W1 k hj => hJ pre W1 _ none hj (grown_none (pw_below_drewN (Below.refl _ _) k)) (fun r e => by cases e))
  ((hW.block Bg (Array.getElem?_eq_some_iff.1 hBg).1).trans hBg) ((hW.block (Bg + 1) (Array.getElem?_eq_some_iff.1 hBv).1).trans hBv) (below_then hb hb.size hW) h0
end Go.Proofs.YtldjbgonlbmeaaaDoor.T
