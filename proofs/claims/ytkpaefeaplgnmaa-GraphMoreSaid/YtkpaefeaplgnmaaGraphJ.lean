/- The walks of graph: what yields the nodes to which edges lead. -/
import Derived.Test.YtkpaefeaplgnmaaGraphI
import Derived.RangeFuncBox
import Derived.RangeFuncNested
import Derived.RangeFuncBound
import Derived.RangeFuncCalls
import Derived.RangeFuncLeaves
import Derived.Shelf.Abstract
import Derived.Shelf.RegionOpen
import Derived.OwnWalkIn
import Derived.TacticsInMore
import Derived.LoopNIn
import Derived.LoopIn
import Derived.Sort.QuietIn
import Derived.Sort.LoopGhostIn
set_option linter.unusedSimpArgs false
set_option linter.unusedVariables false
namespace Go.Proofs.Ytkpaefeaplgnmaa.G
open Go.RowKit Go.Shelf Go.Proofs.Ytkpaefeaplgnmaa.PA Go.Proofs.Ytkpaefeaplgnmaa.Mp Go.Proofs.YtkpaefeaplgnmaaW.PrintWords Go.Proofs.YtkpaefeaplgnmaaW.PrintLast Go.Proofs.YtkpaefeaplgnmaaW.PrintMore
attribute [local go_sem] Oper.semAt_some

/-- The nodes to which edges lead from one. -/
def nxt (l : List S53) (v : Nat) : List Nat := (rw_ l (.o v)).map fun i => (l.getD i.toNat ⟨0, 0⟩).f1.toNat

/-- What the iterator wants kept: what lay ahead of all, and its two boxes. -/
def KpG (n₀ Bg : Nat) (W W' : World) : Prop := Below n₀ W W' ∧ W'.heap[Bg]? = W.heap[Bg]? ∧ W'.heap[Bg + 1]? = W.heap[Bg + 1]?
theorem KpG.t {n₀ Bg : Nat} {A B C : World} (h : KpG n₀ Bg A B) (k : KpG n₀ Bg B C) : KpG n₀ Bg A C := ⟨h.1.trans k.1, k.2.1.trans h.2.1, k.2.2.trans h.2.2⟩
theorem KpG.b {n₀ Bg : Nat} {w : World} (hn : n₀ ≤ w.heap.size) (hB : Bg + 1 < w.heap.size) (W : World) (l : Nat) (o o' : Obj) (hl : w.heap.size ≤ l) (h : W.heap[l]? = some o) (a : o.isCells = false) (b : o.isWalk = false) : KpG n₀ Bg W (W.putObj l o') :=
  ⟨belowK_b hn W l o o' hl h a b, World.putObj_heap_other (by omega), World.putObj_heap_other (by omega)⟩

set_option maxHeartbeats 1000000 in
theorem next_in (F : Fence) (n : Nat) (hF : F.fn 59) (hro : F.round = none) (g : Nat) (v : Int) (w : World) :
    CallsIn F n Try.prog 59 #[.pointer (some ⟨g, 0, none⟩), .int .i64 v] w fun e w' => e = .returned (.func (.func 64) #[] #[.pointer (some ⟨w.heap.size, 0, none⟩), .pointer (some ⟨w.heap.size + 1, 0, none⟩)]) ∧ w' = (w.alloc (.cells #[.pointer (some ⟨g, 0, none⟩)] 24)).alloc (.cells #[.int .i64 v] 3) := by
  refine callsIn_of_wp Try.func59 rfl hF ?_ hro
  simp only [Try.ntmps59, List.size_toArray, List.length_cons, List.length_nil, Nat.reduceAdd, Nat.reduceSub, Array.replicate_succ, Array.replicate_zero, List.push_toArray, List.append_toArray, List.nil_append, List.cons_append]
  gi_wp2
  go_ret
  exact ⟨rfl, rfl⟩

theorem int_at {w : World} {A : Option Addr} {n : Nat} {l : List Int} (h : Kd.C (Kd.int .i64) w A n l) {i : Nat} (hi : i < l.length) : ∃ ad, A = some ad ∧ w.cell? (ad.add i) = some (.int .i64 l[i]) := by
  have hn : l.length = n := h.1
  obtain ⟨ad, rfl, hc⟩ := h.2.2 (by omega)
  obtain ⟨cs, h1, h2, h3⟩ := hc i l[i] (List.getElem?_eq_getElem hi)
  have h2' : cs = [.int .i64 l[i]] := h2
  subst h2'
  have := h3 0 _ rfl
  rw [show (Kd.int .i64).sz = 1 from rfl, Nat.mul_one, Nat.add_zero] at this
  exact ⟨ad, rfl, this⟩
theorem rw_at {l : List S53} {x : Ix} {k : Nat} (h : k < (rw_ l x).length) : ∃ j : Nat, (rw_ l x)[k] = (j : Int) ∧ ∃ hj : j < l.length, P_ x l[j] = true := by
  have hm := List.getElem_mem h
  unfold rw_ idxs at hm
  obtain ⟨j, hj, e⟩ := List.mem_map.1 hm
  obtain ⟨h1, h2⟩ := List.mem_filter.1 hj
  have h3 := List.mem_range.1 h1
  rw [List.getElem?_eq_getElem h3] at h2
  exact ⟨j, e.symm, h3, h2⟩
theorem yields {F : Fence} {m : Nat} {P : Program} {l : Nat} {args : Array Value} {W : World} {R : Ending → World → Prop} (h : YieldAt F m P l args W R) : ∃ fn tmps assign body, (Instr.yield l args).run P W = .ok (.round l fn tmps assign body) W ∧ RoundIn F m P l fn tmps assign body W R := h

set_option maxRecDepth 100000 in
set_option maxHeartbeats 2000000 in
theorem next1_in (m : Nat) (hm : 1 ≤ m) (L Bg g n v : Nat) (l : List S53) (w0 : World) (hv : v < n) (hf : Fits n l) (hg : IsG w0 g n l) (hB0 : w0.heap.size ≤ Bg) (J Jx : List (Fin n) → World → Prop)
    (hY : ∀ pre x W, J pre W → pre.length < 30 → YieldAt Fence.wide (m - 1) Try.prog L #[.int .i64 (x.1 : Int)] W fun e W' =>
      (e = .returned (.bool true) ∧ J (pre ++ [x]) W' ∧ KpG w0.heap.size Bg W W') ∨ (e = .returned (.bool false) ∧ Jx (pre ++ [x]) W'))
    (W : World) (hJd : ∀ pre W k, J pre W → J pre (W.drewN k)) (hBg : W.heap[Bg]? = some (.cells #[.pointer (some ⟨g, 0, none⟩)] 24 (0, 0))) (hBv : W.heap[Bg + 1]? = some (.cells #[.int .i64 (v : Int)] 3 (0, 0)))
    (hW : Below w0.heap.size w0 W) (h0 : J [] W) :
    CallsIn Fence.wide m Try.prog 64 #[.func (.yield L) #[] #[], .pointer (some ⟨Bg, 0, none⟩), .pointer (some ⟨Bg + 1, 0, none⟩)] W fun e W' => (∃ v, e = .returned v) ∧
      ((∃ ys, ys.map Fin.val = nxt l v ∧ J ys W') ∨ (∃ pre, True ∧ Jx pre W')) := by
  obtain ⟨gO, p1, hrow⟩ := hg.rowO
  obtain ⟨A, c, p2, hlc, hC⟩ := hrow v hv
  obtain ⟨A0, c0, p0, hE⟩ : ∃ A0 c0, w0.cell? ⟨g, 0, none⟩ = some (.slice A0 l.length c0) ∧ Kd.C k53 w0 A0 l.length l := by
    obtain ⟨base, gO, gI, b, A, c, val, K, h1, h2, h3⟩ := hg
    exact ⟨A, c, by rw [cell_of h1.st]; rfl, h2⟩
  have q1 := (hW.cell (World.block_lt_of_cell? w0 _ p1)).trans p1
  have q2 := (hW.cell (World.block_lt_of_cell? w0 _ p2)).trans p2
  have cg : W.cell? ⟨Bg, 0, none⟩ = some (.pointer (some ⟨g, 0, none⟩)) := by simp [World.cell?, hBg]
  have cv : W.cell? ⟨Bg + 1, 0, none⟩ = some (.int .i64 (v : Int)) := by simp [World.cell?, hBv]
  have HC := Lib.hid hC
  have HE := Lib.hid hE
  have HP0 := Lib.hid p0
  have HBg := Lib.hid hBg
  have HW := Lib.hid hW
  have hrl := rw_len l (.o v)
  have hl30 := hf.few
  clear hC hE hrow p0 p1 p2 hg hBg hBv hW
  refine callsIn_of_wp Try.func64 rfl trivial ?_ rfl
  simp only [Try.ntmps64, List.size_toArray, List.length_cons, List.length_nil, Nat.reduceAdd, Nat.reduceSub, Array.replicate_succ, Array.replicate_zero, List.push_toArray, List.append_toArray, List.nil_append, List.cons_append]
  have d0 : decide ((v : Int) < (n : Int)) = true := decide_eq_true (by omega)
  gi_wp2
  gi_quiet (fail)
  have hJ0 := hJd [] W nq h0
  have hK0 : KpG w0.heap.size Bg W (W.drewN nq) := ⟨pw_below_drewN (Below.refl _ _) nq, rfl, rfl⟩
  generalize W.drewN nq = W1 at hJ0 hK0 ⊢
  have HK0 := Lib.hid hK0
  have HJ0 := Lib.hid hJ0
  clear hK0 hJ0 cg cv q1 q2
  gi_wp2
  gi_loopw [14] (fun v14 wr => ∃ (k : Nat) (pre : List (Fin n)), k ≤ (rw_ l (.o v)).length ∧ v14 = .int .i64 k ∧ pre.map Fin.val = (nxt l v).take k ∧ pre.length = k ∧ J pre wr ∧ KpG w0.heap.size Bg W wr) (fun v14 _ => (rw_ l (.o v)).length - (intOf v14).toNat)
  case atStart => exact ⟨0, [], Nat.zero_le _, rfl, by simp, rfl, HJ0.out, HK0.out⟩
  case round =>
    obtain ⟨k, pre, hk, rfl, hpre, hlen, hJ, hKp⟩ := hrel
    have HPRE := Lib.hid hpre
    have HLEN := Lib.hid hlen
    have HKP := Lib.hid hKp
    clear hpre hlen hKp
    by_cases hlt : k < (rw_ l (.o v)).length
    · have hb := (HW.out).trans HKP.out.1
      obtain ⟨j, hj, hjl, hP⟩ := rw_at hlt
      obtain ⟨ad, rfl, c1⟩ := int_at HC.out hlt
      obtain ⟨ade, rfl, _, c2⟩ := edge_at HE.out hjl
      have hfit := hf.fit _ (List.getElem_mem hjl)
      obtain ⟨x, hx⟩ : ∃ x : Fin n, l[j].f1 = ((x.1 : Nat) : Int) := ⟨⟨l[j].f1.toNat, by omega⟩, by simp; omega⟩
      have r1 := (hb.cell (World.block_lt_of_cell? w0 _ c1)).trans c1
      have r2 := (hb.cell (World.block_lt_of_cell? w0 _ c2)).trans c2
      rw [hj] at r1
      rw [hx] at r2
      have r0 := (hb.cell (World.block_lt_of_cell? w0 _ HP0.out)).trans HP0.out
      have rg : wr.cell? ⟨Bg, 0, none⟩ = some (.pointer (some ⟨g, 0, none⟩)) := by simp [World.cell?, HKP.out.2.1, HBg.out]
      have hnx : (nxt l v).take (k + 1) = (nxt l v).take k ++ [x.1] := by
        unfold nxt
        rw [List.take_succ_eq_append_getElem (by simpa using hlt), List.getElem_map, hj]
        simp [hjl, hx]
      have HNX := Lib.hid hnx
      obtain ⟨fn, tmps, assign, body, hy, hR⟩ := yields (hY pre x wr hJ (by rw [HLEN.out]; omega))
      clear hnx hx hj c1 c2 hb hfit hJ hP
      have d1 : decide (k < (rw_ l (.o v)).length) = true := decide_eq_true hlt
      have d2 : decide (j < l.length) = true := decide_eq_true hjl
      gi_wp2
      refine hR.mono ?_
      rintro e W3 (⟨rfl, hJ3, hk3⟩ | ⟨rfl, hJx3⟩)
      · have HJ3 := Lib.hid hJ3
        have HK3 := Lib.hid hk3
        clear hJ3 hk3
        gi_wp2
        go_roundw
        case rel => exact ⟨k + 1, pre ++ [x], by omega, by go_num, by rw [HNX.out, List.map_append, HPRE.out]; rfl, by simp [HLEN.out], HJ3.out, HKP.out.t HK3.out⟩
        case measure => simp [intOf]; omega
      · have HJ3 := Lib.hid hJx3
        clear hJx3
        gi_wp2
        refine bodyPost_ret (results_none rfl _ _ _) rfl ?_
        exact ⟨⟨_, rfl⟩, .inr ⟨pre ++ [x], trivial, HJ3.out⟩⟩
    · have hkl : k = (rw_ l (.o v)).length := by omega
      have HKL := Lib.hid hkl
      have d1 : decide (k < (rw_ l (.o v)).length) = false := decide_eq_false hlt
      have HJ := Lib.hid hJ
      clear hkl hJ
      gi_wp2
      go_end0
      exact ⟨⟨_, rfl⟩, .inl ⟨pre, by rw [HPRE.out, List.take_of_length_le]; unfold nxt; rw [List.length_map]; have := HKL.out; omega, HJ.out⟩⟩
end Go.Proofs.Ytkpaefeaplgnmaa.G
