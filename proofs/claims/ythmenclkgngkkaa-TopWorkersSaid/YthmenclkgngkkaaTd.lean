/- Va, Vb, PermLib, ShelfD, PermWalk, ShelfE, Tu, InRound, Ch, Cc, Td -/
import Derived.Test.YthmenclkgngkkaaCo
import Derived.RangeFuncBox
import Derived.RangeFuncNested
import Derived.RangeFuncBound
import Derived.RangeFuncCalls
import Derived.RangeFuncLeaves
import Derived.Shelf.Abstract
import Derived.Shelf.RegionOpen
import Derived.OwnWalkIn
import Derived.TacticsInMore
import Derived.LoopNIn
import Derived.LoopIn
import Derived.Sort.QuietIn
import Derived.Sort.LoopGhostIn
import Derived.Maps.AppendAt
import Derived.Below
import Derived.Ground.Names2Prog
import Derived.Shelf.Slices.Delete
import Derived.Shelf.Slices.Cells
import Derived.Shelf.Slices.Empties
import Derived.Test.YthmenclkgngkkaaProg
import Derived.Test.YthmenclkgngkkaaPAx8
import Derived.Lib.OwnBridge
import Derived.Lib.Hide
import Derived.Outline
import Derived.Shelf.SlicesE.Reverse
import Derived.Shelf.Spec.SlicesGrow
import Derived.Ground.SlgnProg
import Derived.Ground.Names8Prog
import Derived.Test.YthmenclkgngkkaaWLast
import Derived.Test.YthmenclkgngkkaaWWords
import Derived.OrdersIn
section
/- The walks of slices.Values, and what it yields. -/
set_option linter.unusedSimpArgs false
set_option linter.unusedVariables false
set_option linter.unusedSimpArgs false
set_option linter.unusedVariables false
namespace Go.Proofs.Ythmenclkgngkkaa.M
open Go.RowKit Go.Shelf Go.Proofs.Ythmenclkgngkkaa.PA Go.Proofs.YthmenclkgngkkaaW.PrintWords Go.Proofs.YthmenclkgngkkaaW.PrintLast Go.Proofs.YthmenclkgngkkaaW.PrintMore
attribute [local go_sem] Oper.semAt_some
def KpV (n₀ Bs : Nat) (W W' : World) : Prop := Below n₀ W W' ∧ W'.heap[Bs]? = W.heap[Bs]?
theorem KpV.t {n₀ Bs : Nat} {A B C : World} (h : KpV n₀ Bs A B) (k : KpV n₀ Bs B C) : KpV n₀ Bs A C := ⟨h.1.trans k.1, k.2.trans h.2⟩
theorem KpV.b {n₀ Bs : Nat} {w : World} (hn : n₀ ≤ w.heap.size) (hB : Bs < w.heap.size) (W : World) (l : Nat) (o o' : Obj) (hl : w.heap.size ≤ l) (h : W.heap[l]? = some o) (a : o.isCells = false) (b : o.isWalk = false) : KpV n₀ Bs W (W.putObj l o') :=
 ⟨belowK_b hn W l o o' hl h a b, World.putObj_heap_other (by omega)⟩
theorem gr_none {A B : World} (hb : Below A.heap.size A B) : A.grownBy B none := ⟨hb.os, hb.tape, hb.output, hb.size, fun k hk _ => hb.block k hk⟩
theorem yields {F : Fence} {m : Nat} {P : Program} {l : Nat} {args : Array Value} {W : World} {R : Ending → World → Prop} (h : YieldAt F m P l args W R) : ∃ fn tmps assign body, (Instr.yield l args).run P W = .ok (.round l fn tmps assign body) W ∧ RoundIn F m P l fn tmps assign body W R := h
def ag (x : S26) : Value := .agg #[.int .i64 x.f0, .int .i64 x.f1, .int .i64 x.f2]
set_option maxHeartbeats 1000000 in
theorem values_in (F : Fence) (n : Nat) (hF : F.fn 40) (hro : F.round = none) (A : Option Addr) (k c : Nat) (w : World) :
  CallsIn F n Try.prog 40 #[.slice A k c] w fun e w' => e = .returned (.func (.func 61) #[] #[.pointer (some ⟨w.heap.size, 0, none⟩)]) ∧ w' = w.alloc (.cells #[.slice A k c] 22) := by
 refine callsIn_of_wp Try.func40 rfl hF ?_ hro
 simp only [Try.ntmps40, List.size_toArray, List.length_cons, List.length_nil, Nat.reduceAdd, Nat.reduceSub, Array.replicate_succ, Array.replicate_zero, List.push_toArray, List.append_toArray, List.nil_append, List.cons_append]
 gi_wp2
 go_ret
 exact ⟨rfl, rfl⟩
set_option maxRecDepth 100000 in
set_option maxHeartbeats 2000000 in
theorem values1_in (m : Nat) (hm : 1 ≤ m) (L Bs c : Nat) (A : Option Addr) (l : List S26) (w0 : World) (hC : Kd.C k26 w0 A l.length l) (hB0 : w0.heap.size ≤ Bs) (J Jx : List S26 → World → Prop)
  (hY : ∀ pre x W, J pre W → pre.length < l.length → YieldAt Fence.wide (m - 1) Try.prog L #[ag x] W fun e W' =>
   (e = .returned (.bool true) ∧ J (pre ++ [x]) W' ∧ KpV w0.heap.size Bs W W') ∨ (e = .returned (.bool false) ∧ Jx (pre ++ [x]) W'))
  (W : World) (hJd : ∀ pre W k, J pre W → J pre (W.drewN k)) (hJa : ∀ pre W o, J pre W → J pre (W.alloc o)) (hBs : W.heap[Bs]? = some (.cells #[.slice A l.length c] 22 (0, 0)))
  (hW : Below w0.heap.size w0 W) (h0 : J [] W) :
  CallsIn Fence.wide m Try.prog 61 #[.func (.yield L) #[] #[], .pointer (some ⟨Bs, 0, none⟩)] W fun e W' => (∃ v, e = .returned v) ∧
   ((∃ ys, ys = l ∧ J ys W') ∨ (∃ pre, True ∧ Jx pre W')) := by
 have cs : W.cell? ⟨Bs, 0, none⟩ = some (.slice A l.length c) := by simp [World.cell?, hBs]
 have hBl : Bs < W.heap.size := (Array.getElem?_eq_some_iff.1 hBs).1
 have hmx : l.length ≤ 9223372036854775807 := hC.2.1
 have HC := Lib.hid hC
 have HBs := Lib.hid hBs
 have HW := Lib.hid hW
 have HJ0 := Lib.hid h0
 clear hC hBs hW h0
 refine callsIn_of_wp Try.func61 rfl trivial ?_ rfl
 simp only [Try.ntmps61, List.size_toArray, List.length_cons, List.length_nil, Nat.reduceAdd, Nat.reduceSub, Array.replicate_succ, Array.replicate_zero, List.push_toArray, List.append_toArray, List.nil_append, List.cons_append]
 gi_wp2
 gi_loopw [7] (fun v7 wr => ∃ (k : Nat), k ≤ l.length ∧ v7 = .int .i64 k ∧ J (l.take k) wr ∧ KpV w0.heap.size Bs W wr) (fun v7 _ => l.length - (intOf v7).toNat)
 case atStart => exact ⟨0, Nat.zero_le _, rfl, by simpa using HJ0.out, Below.refl _ _, rfl⟩
 case round =>
  obtain ⟨k, hk, rfl, hJ, hKp⟩ := hrel
  have HKP := Lib.hid hKp
  clear hKp
  by_cases hlt : k < l.length
  ·have hb := (HW.out).trans HKP.out.1
   obtain ⟨ad, rfl, q0, q1, q2⟩ := msg_at HC.out hlt
   obtain ⟨x, hx⟩ : ∃ x, x = l[k] := ⟨_, rfl⟩
   have htk : l.take (k + 1) = l.take k ++ [x] := by rw [List.take_succ_eq_append_getElem hlt, hx]
   rw [← hx] at q0 q1 q2
   replace q0 := (hb.cell (World.block_lt_of_cell? w0 _ q0)).trans q0
   replace q1 := (hb.cell (World.block_lt_of_cell? w0 _ q1)).trans q1
   replace q2 := (hb.cell (World.block_lt_of_cell? w0 _ q2)).trans q2
   have HTK := Lib.hid htk
   have hlk : (l.take k).length < l.length := by rw [List.length_take]; omega
   obtain ⟨fn, tmps, assign, body, hy, hR⟩ := yields (hY (l.take k) x (wr.alloc (.cells #[.int .i64 x.f0, .int .i64 x.f1, .int .i64 x.f2] 26)) (hJa _ _ _ hJ) hlk)
   have hka : KpV w0.heap.size Bs wr (wr.alloc (.cells #[.int .i64 x.f0, .int .i64 x.f1, .int .i64 x.f2] 26)) := ⟨(below_alloc (Below.refl _ _) _ : Below wr.heap.size wr _).mono hb.size, Below.heap_alloc _ _ _ (by
    have := HKP.out.2
    rw [HBs.out] at this
    exact (Array.getElem?_eq_some_iff.1 this).1)⟩
   have HKA := Lib.hid hka
   unfold ag at hy
   clear hx htk hb hJ hka
   have d1 : decide ((k : Int) < (l.length : Int)) = true := decide_eq_true (by omega)
   gi_wp2
   refine hR.mono ?_
   rintro e W3 (⟨rfl, hJ3, hk3⟩ | ⟨rfl, hJx3⟩)
   ·rw [← HTK.out] at hJ3
    have HJ3 := Lib.hid hJ3
    have HK3 := Lib.hid hk3
    clear hJ3 hk3
    gi_wp2
    go_roundw
    case rel => exact ⟨k + 1, by omega, by go_num, HJ3.out, HKP.out.t (HKA.out.t HK3.out)⟩
    case measure => simp [intOf]; omega
   ·have HJ3 := Lib.hid hJx3
    clear hJx3
    gi_wp2
    refine bodyPost_ret (results_none rfl _ _ _) rfl ?_
    exact ⟨⟨_, rfl⟩, .inr ⟨_, trivial, HJ3.out⟩⟩
  ·have hkl : k = l.length := by omega
   have d1 : decide ((k : Int) < (l.length : Int)) = false := decide_eq_false (by omega)
   rw [hkl, List.take_length] at hJ
   have HJ := Lib.hid hJ
   clear hkl hJ
   gi_wp2
   go_end0
   exact ⟨⟨_, rfl⟩, .inl ⟨l, rfl, HJ.out⟩⟩
theorem values_stops (m : Nat) (hm : 1 ≤ m) (Bs c : Nat) (A : Option Addr) (l : List S26) (w0 w : World) (hC : Kd.C k26 w0 A l.length l) (hB0 : w0.heap.size ≤ Bs) (hb : Below w0.heap.size w0 w) (hBs : w.heap[Bs]? = some (.cells #[.slice A l.length c] 22 (0, 0))) :
  SeqStopsK Fence.wide m Try.prog 61 #[.pointer (some ⟨Bs, 0, none⟩)] (fun x : S26 => #[ag x]) (KpV w0.heap.size Bs) (fun ys => ys = l) (fun _ => True) l.length w := fun L J Jx W hW hJ _ hY h0 =>
 values1_in m hm L Bs c A l w0 hC hB0 J Jx hY W (fun pre W1 k hj => hJ pre W1 _ none hj (gr_none (pw_below_drewN (Below.refl _ _) k)) (fun r e => by cases e)) (fun pre W1 o hj => hJ pre W1 _ none hj (World.grownBy_alloc W1 o none) (fun r e => by cases e))
  ((hW.block Bs (Array.getElem?_eq_some_iff.1 hBs).1).trans hBs) (below_then hb hb.size hW) h0
end Go.Proofs.Ythmenclkgngkkaa.M
end
section
/- The walk of slices.AppendSeq over slices.Values, of Collect, of SortedFunc, of mail.Sorted. -/
set_option linter.unusedSimpArgs false
set_option linter.unusedVariables false
set_option linter.unusedSimpArgs false
set_option linter.unusedVariables false
namespace Go.Proofs.Ythmenclkgngkkaa.M
open Go.RowKit Go.Shelf Go.Proofs.Ythmenclkgngkkaa.Sk Go.Proofs.Ythmenclkgngkkaa.PA Go.Proofs.YthmenclkgngkkaaW.PrintWords Go.Proofs.YthmenclkgngkkaaW.PrintLast Go.Proofs.YthmenclkgngkkaaW.PrintMore
attribute [local go_sem] Oper.semAt_some
def mark (D : Nat) : Deferred := { target := .collected D, args := #[] }
def Marks (n₀ : Nat) (Ds : List Nat) (W : World) : Prop := Ds.Nodup ∧ ∀ D ∈ Ds, n₀ ≤ D ∧ W.heap[D]? = some (.deferred (some []))
theorem leaves_all {F : Fence} {m : Nat} {P : Program} {fn : Func} {tmps : Array Value} {R : Ending → World → Prop} {n₀ : Nat} : ∀ (Ds : List Nat) (W : World), Marks n₀ Ds W →
  (∀ W', Below n₀ W W' → (∀ (k : Nat) (c : Array Value) (t : TypeId) (f : Nat × Nat), W.heap[k]? = some (.cells c t f) → W'.heap[k]? = some (.cells c t f)) → LeavesInM F m P fn tmps R [] .returning W') → LeavesInM F m P fn tmps R (Ds.map mark) .returning W
 | [], W, _, h => h W (Below.refl _ _) (fun _ _ _ _ hk => hk)
 | D :: Ds, W, hM, h => by
  obtain ⟨hn, hD⟩ := hM
  obtain ⟨hD0, hDk⟩ := hD D List.mem_cons_self
  have hn' := List.nodup_cons.1 hn
  refine ⟨by simp, .inl ⟨D, _, rfl, run_takeDeferred hDk, ?_⟩⟩
  refine leaves_all (n₀ := n₀) Ds _ ⟨hn'.2, fun D' hD' => ?_⟩ (fun W' hb hc => ?_)
  ·have := hD D' (List.mem_cons_of_mem _ hD')
   exact ⟨this.1, (World.putObj_heap_other (fun e => hn'.1 (by rw [← e]; exact hD'))).trans this.2⟩
  ·refine h W' (Below.trans ((Below.refl n₀ W).grown (grownBy_putObj' W D _) (by have := (Array.getElem?_eq_some_iff.1 hDk).1; omega) (fun k e => by cases e; exact hD0)) hb) (fun k c t f hk => hc k c t f ((World.putObj_heap_other (fun e => ?_)).trans hk))
   rw [← e] at hDk
   rw [hDk] at hk
   cases hk
theorem Marks.kept {n₀ : Nat} {Ds : List Nat} {W W' : World} (h : Marks n₀ Ds W) (hk : ∀ D ∈ Ds, W.heap[D]? = some (.deferred (some [])) → W'.heap[D]? = some (.deferred (some []))) : Marks n₀ Ds W' := ⟨h.1, fun D hD => ⟨(h.2 D hD).1, hk D hD (h.2 D hD).2⟩⟩
theorem Marks.lt {n₀ : Nat} {Ds : List Nat} {W : World} (h : Marks n₀ Ds W) : ∀ D ∈ Ds, D < W.heap.size := fun D hD => (Array.getElem?_eq_some_iff.1 (h.2 D hD).2).1

theorem wpListIn_run {F : Fence} {n : Nat} {P : Program} {ops rest : _} {Q : Exit → Act → World → Prop} {o : Oper} {a : Act} {w w1 : World} {v u v1 : Value} {t t' : TypeId} (hF : ∀ f, F.fn f) (hg : o.guard = none) (s x : Operand)
  (ho : o.op = .call { callee := .builtin .append, args := #[s, x], argTypes := #[t, t'] }) (hs : a.eval s = v) (hx : a.eval x = u) (hr : (Builtin.append_ #[t, t'] o.type #[v, u]).run P w = .ok v1 w1)
  (h : wpListIn F n P ops Q rest (a.put o.dst v1) w1) : wpListIn F n P ops Q (o :: rest) a w := by
 refine wpListIn_plain hg fun K hK => ⟨fun f _ => hF f, ?_⟩
 ·rw [Oper.semAt_eq _ _ _ (by simp [ho])]
  unfold execOp
  simp only [ho, resolve, invoke, builtin, Sem.run_bind, Sem.run_pure, Result.andThen_ok, List.map_toArray, List.map_cons, List.map_nil, hs, hx, hr]
  exact hK _ _ h
def MidV (W1 : World) (pre : List S26) (W : World) : Prop :=
 ∃ v, Boxed W W1.heap.size 22 v ∧ W.ownsRow W1.heap.size 26 3 v pre.length (pre.flatMap e3) ∧ Below W1.heap.size W1 W
theorem own_row_ne {W : World} {base e n : Nat} {s : Nat} {v : Value} {cs : List Value} {row : Option Nat} {B : Nat} (h : W.ownsRow base e s v n cs) (hr : ∀ r, row = some r → B ≤ r ∧ ∃ o : Obj, W.heap[r]? = some o ∧ o.isCells = false) : v.ownBlock = none ∨ v.ownBlock ≠ row := by
 cases hv : v.ownBlock with
 | none => exact .inl rfl
 | some k =>
  refine .inr fun e => ?_
  obtain ⟨_, o, ho, hc⟩ := hr k e.symm
  obtain ⟨cells, hc'⟩ := own_typed h k hv
  rw [hc'] at ho
  cases ho
  cases hc
theorem MidV.own {W1 : World} {B : Nat} (hB : W1.heap.size ≤ B) : OwnFrom B (MidV W1) := fun s W W' row hs hg hr => by
 obtain ⟨v, hb, ho, hbl⟩ := hs
 refine ⟨v, hb.kept hg (fun e => ?_), ho.kept hg (own_row_ne ho hr), hbl.grown hg hbl.size (fun k e => Nat.le_trans hB (hr k e).1)⟩
 obtain ⟨_, o, ho, hc⟩ := hr _ e.symm
 rw [show W.heap[W1.heap.size]? = _ from hb] at ho
 cases ho
 cases hc
theorem kf_alloc (B : Nat) (W : World) (o : Obj) : KeepsFrom B W (W.alloc o) := ⟨by simp, fun k _ _ hk _ => (Below.heap_alloc _ _ _ (Array.getElem?_eq_some_iff.1 hk).1).trans hk⟩
def AxV (W1 : World) (Bs : Nat) (x : S26) (a' : Act) (W : World) : Prop := ∃ B5, a' = { tmps := #[.slice none 0 0, .func (.func 61) #[] #[.pointer (some ⟨Bs, 0, none⟩)], .pointer (some ⟨W1.heap.size, 0, none⟩), undef, .slice none 0 0, .pointer (some ⟨B5, 0, none⟩), .func (.func 61) #[] #[.pointer (some ⟨Bs, 0, none⟩)], ag x, undef, undef, undef, undef, undef], defers := [] } ∧ W.heap[B5]? = some (.cells #[.int .i64 x.f0, .int .i64 x.f1, .int .i64 x.f2] 26 (0, 0))
theorem AxV.own {W1 : World} {Bs B : Nat} (x : S26) (a' : Act) : OwnFrom B (fun (_ : Unit) W => AxV W1 Bs x a' W) := fun _ W W' row hs hg hr => by
 obtain ⟨B5, e, hb⟩ := hs
 refine ⟨B5, e, (hg.block B5 (Array.getElem?_eq_some_iff.1 hb).1 (fun e => ?_)).trans hb⟩
 obtain ⟨_, o, ho, hc⟩ := hr _ e.symm
 rw [hb] at ho
 cases ho
 cases hc
theorem fm_snoc (pre : List S26) (x : S26) : (pre ++ [x]).flatMap e3 = pre.flatMap e3 ++ e3 x := by simp
set_option maxRecDepth 100000 in
set_option maxHeartbeats 4000000 in
theorem appseq_in (m Bs c : Nat) (A : Option Addr) (l : List S26) (w0 W1 : World) (hC : Kd.C k26 w0 A l.length l) (hm : 5 ≤ m) (hB0 : w0.heap.size ≤ Bs) (hb : Below w0.heap.size w0 W1) (hBs : W1.heap[Bs]? = some (.cells #[.slice A l.length c] 22 (0, 0))) (hlen : l.length ≤ 1000000) :
  CallsIn Fence.wide m Try.prog 85 #[.slice none 0 0, .func (.func 61) #[] #[.pointer (some ⟨Bs, 0, none⟩)]] W1 fun e W' => ∃ v, e = .returned v ∧ W'.ownsRow W1.heap.size 26 3 v l.length (l.flatMap e3) ∧ Below W1.heap.size W1 W' := by
 have HC := Lib.hid hC
 have HB := Lib.hid hb
 have hs := hb.size
 have lB := (Array.getElem?_eq_some_iff.1 hBs).1
 have HBs := Lib.hid hBs
 clear hC hb hBs
 refine callsIn_of_wp_marks Try.func85 rfl trivial ?_ rfl
 simp only [Try.ntmps85, List.size_toArray, List.length_cons, List.length_nil, Nat.reduceAdd, Nat.reduceSub, Array.replicate_succ, Array.replicate_zero, List.push_toArray, List.append_toArray, List.nil_append, List.cons_append]
 gi_wp2
 have b1 := Boxed.new W1 22 (.slice none 0 0)
 have hA1 : Below W1.heap.size W1 (W1.alloc (.cells #[.slice none 0 0] 22)) := (Below.refl _ W1).alloc (Nat.le_refl _) _
 have hz : (W1.alloc (.cells #[.slice none 0 0] 22)).heap.size = W1.heap.size + 1 := by simp
 have hT : MidV W1 [] (W1.alloc (.cells #[.slice none 0 0] 22)) := ⟨_, b1, World.ownsRow_nil _ _ _ _, hA1⟩
 generalize W1.alloc (.cells #[.slice none 0 0] 22) = W2 at b1 hA1 hT hz ⊢
 have hbW2 : Below w0.heap.size w0 W2 := below_then HB.out hs hA1
 refine wpIn_rangeFunc_ownH rfl (by omega) (gf := 61) (lb := #[.pointer (some ⟨Bs, 0, none⟩)]) rfl trivial (enters_of Try.func61 (by kernel_rfl) rfl)
  (values_stops (m - 1) (by omega) Bs c A l w0 W2 HC.out hB0 hbW2 ((hA1.block _ lB).trans HBs.out)) KpV.t (KpV.b (by omega) (by omega)) (Below.refl _ _) (fun _ => rfl)
  (MidV W1) (fun _ _ _ => False) (MidV.own (by omega)) (fun _ _ _ _ _ hs _ _ => hs) hT (AxV W1 Bs) AxV.own ?assign ?body ?done ?stop
 case assign =>
  intro L pre x W3 K hI hK
  unfold ag
  obtain ⟨v3, hb3, ho3, hbl3⟩ := hI
  gi_wp2
  refine hK _ _ (kf_alloc _ _ _) ⟨(Below.refl _ _).alloc (Nat.le_trans hs hbl3.size) _, Below.heap_alloc _ _ _ (by have := hbl3.size; omega)⟩ ⟨v3, hb3.kept (World.grownBy_alloc _ _ none) (by simp), ho3.alloc _, hbl3.alloc hbl3.size _⟩ ⟨_, rfl, World.alloc_heap_new _ _⟩
 case body =>
  rintro L pre x a' W3 _ _ ⟨v, hbx, hrow, hbl⟩ ⟨B5, rfl, hB5⟩ hpl
  obtain ⟨i0, hi, hz0, hz1, hz2⟩ := info_parts info26
  have c0 : W3.cell? ⟨B5, 0, none⟩ = some (.int .i64 x.f0) := by rw [blk_cell hB5]; rfl
  have c1 : W3.cell? ⟨B5, 1, none⟩ = some (.int .i64 x.f1) := by rw [blk_cell hB5]; rfl
  have c2 : W3.cell? ⟨B5, 2, none⟩ = some (.int .i64 x.f2) := by rw [blk_cell hB5]; rfl
  have cb := hbx.cell
  have hl3 : W1.heap.size ≤ W3.heap.size := hbl.size
  obtain ⟨v4, w4, hrun, r1, r2, r3, r4⟩ := run_append_own_at (P := Try.prog) (W3.alloc (.cells #[.int .i64 x.f0, .int .i64 x.f1, .int .i64 x.f2] 26)) W1.heap.size 22 22 26 i0 _ 3 24 Try.underlying22 hi hz0 hz1 hz2 rfl (by decide) v pre.length (pre.flatMap e3) (hrow.alloc _) ⟨W3.heap.size, 0, none⟩ 1 1 (e3 x) rfl
   (fun j u hj => by rw [add_plain, blk_cell (World.alloc_heap_new W3 _), ← Array.getElem?_toList]; exact hj) (fun u hu => by simp [e3] at hu; rcases hu with rfl | rfl | rfl <;> rfl) (by unfold maxLen; omega) (by omega) (by simp; omega)
  obtain ⟨g4, cap4, rfl, _, _⟩ := r1.form (by omega)
  have hne : some W1.heap.size ≠ v.ownBlock := own_ne hrow hbx (by decide)
  have bx4 : Boxed w4 W1.heap.size 22 v := (hbx.kept (World.grownBy_alloc W3 _ none) (by simp)).kept r2 hne
  have p3 := bx4.cell
  have p4 := bx4.frozen
  have hfin : Below W1.heap.size W3 (w4.setCell ⟨W1.heap.size, 0, none⟩ (.slice (some ⟨g4, 0, none⟩) (pre.length + 1) cap4)) := (((Below.refl _ W3).alloc hl3 _).grown r2 (by simp; omega) (fun k e => own_base hrow k e)).setCell (p := ⟨W1.heap.size, 0, none⟩) (Nat.le_refl _) _
  have hk4 : KeepsFrom W2.heap.size W3 (w4.setCell ⟨W1.heap.size, 0, none⟩ (.slice (some ⟨g4, 0, none⟩) (pre.length + 1) cap4)) := by
   refine (kf_alloc _ _ _).trans (((KeepsOthers.of_grownBy r2 fun j o ej hj => ?_).trans (KeepsOthers.setCell _ _ _)).from _)
   obtain ⟨c', hc'⟩ := own_typed (hrow.alloc _) j ej
   rw [hc'] at hj
   cases hj
   rfl
  have hmid : MidV W1 (pre ++ [x]) (w4.setCell ⟨W1.heap.size, 0, none⟩ (.slice (some ⟨g4, 0, none⟩) (pre.length + 1) cap4)) := by
   refine ⟨_, bx4.set _, ?_, hbl.trans hfin⟩
   rw [fm_snoc, List.length_append, List.length_singleton]
   refine r1.kept (grownBy_setCell' w4 W1.heap.size _) (.inr fun e => ?_)
   rcases r4 with h4 | h4
   ·exact hne (by rw [← e, h4])
   ·rw [h4] at e
    injection e with e
    have := hbx.lt
    simp at e
    omega
  have HRUN := Lib.hid hrun
  have HFIN := Lib.hid hfin
  have HK4 := Lib.hid hk4
  have HMID := Lib.hid hmid
  clear hrun hfin hk4 hmid r1 r2 r3 r4 hrow hbl hbx bx4 hne
  gi_wp2_with (gi_at_builtin; refine wpListIn_run (fun _ => trivial) rfl _ _ rfl rfl rfl HRUN.out ?_)
  exact ⟨HK4.out, ⟨HFIN.out.mono hs, HFIN.out.block _ (by omega)⟩, HMID.out⟩
 case done =>
  rintro D ys W3 hD hys ⟨v, hbx, hrow, hbl⟩ hDk
  subst hys
  have cb := hbx.cell
  have HROW := Lib.hid hrow
  have HBL := Lib.hid hbl
  have HDK := Lib.hid hDk
  clear hrow hbl hbx hDk
  gi_wp2
  refine leaves_all (n₀ := W1.heap.size) [D] W3 ⟨List.nodup_cons.2 ⟨(by simp), List.nodup_nil⟩, fun D' hD' => ?_⟩ (fun W' hb hc => ?_)
  ·rw [List.mem_singleton.1 hD']
   exact ⟨by omega, HDK.out⟩
  ·refine ⟨_, results_tmp rfl _ _ _, _, rfl, own_move HROW.out (fun k hk => ?_), HBL.out.trans ⟨hb.os, hb.tape, hb.output, hb.size, fun q hq => hb.block q (by omega)⟩⟩
   obtain ⟨c, hcc⟩ := own_typed HROW.out k hk
   rw [hc k _ _ _ hcc, hcc]
 case stop =>
  rintro D c pre W3 _ _ h _
  exact h.elim
theorem R_e3 {w : World} {b : Nat} {v : Value} {l : List S26} (h : w.ownsRow b 26 3 v l.length (l.flatMap e3)) : Kd.R k26 26 w b (fun _ => True) v l :=
 ⟨fun _ _ => trivial, l.flatMap e3, h, reps_fm (enc := e3) (k := 3) (fun _ => rfl) (fun x => k26_mkM _ _ _ x) _⟩
theorem collect_ok (Bs c : Nat) (A : Option Addr) (l : List S26) (w0 w : World) (hC : Kd.C k26 w0 A l.length l) (hB0 : w0.heap.size ≤ Bs) (hb : Below w0.heap.size w0 w) (hBs : w.heap[Bs]? = some (.cells #[.slice A l.length c] 22 (0, 0))) (hlen : l.length ≤ 1000000) :
  Calls Try.prog 60 #[.func (.func 61) #[] #[.pointer (some ⟨Bs, 0, none⟩)]] w fun e w' => ∃ v, e = .returned v ∧ Kd.R k26 26 w' w.heap.size (fun _ => True) v l ∧ Below w.heap.size w w' := by
 have H := Lib.hid (callsIn_wide.1 (appseq_in 10 Bs c A l w0 w hC (by omega) hB0 hb hBs hlen))
 clear hC hb hBs
 go_enter Try.func60, Try.ntmps60
 go_wp2_with fail
 refine H.out.mono ?_
 rintro e w1 ⟨v, rfl, hv, hb1⟩
 have HV := Lib.hid (R_e3 hv)
 have HB1 := Lib.hid hb1
 clear hv hb1
 go_wp2_with fail
 go_ret
 exact ⟨_, rfl, HV.out, HB1.out⟩
theorem sortedF_ok (Bs c : Nat) (A : Option Addr) (l : List S26) (w0 w : World) (hC : Kd.C k26 w0 A l.length l) (hB0 : w0.heap.size ≤ Bs) (hb : Below w0.heap.size w0 w) (hBs : w.heap[Bs]? = some (.cells #[.slice A l.length c] 22 (0, 0))) (hlen : l.length ≤ 1000000) :
  Calls Try.prog 39 #[.func (.func 61) #[] #[.pointer (some ⟨Bs, 0, none⟩)], .func (.func 41) #[] #[]] w fun e w' => ∃ v, e = .returned v ∧ Kd.R k26 26 w' w.heap.size (fun _ => True) v (l.mergeSort le) ∧ Below w.heap.size w w' := by
 have H := Lib.hid (collect_ok Bs c A l w0 w hC hB0 hb hBs hlen)
 clear hC hb hBs
 go_enter Try.func39, Try.ntmps39
 go_wp2_with fail
 refine H.out.mono ?_
 rintro e w1 ⟨v, rfl, hv, hb1⟩
 obtain ⟨A1, c1, rfl⟩ := Kd.R_slice hv
 have HS := Lib.hid (sort_ok A1 l.length c1 l w.heap.size w1 hv (by omega))
 have HB1 := Lib.hid hb1
 clear hv hb1
 go_wp2_with fail
 refine HS.out.mono ?_
 rintro e w2 ⟨rfl, hv2, hb2⟩
 have HV2 := Lib.hid hv2
 have HB2 := Lib.hid (HB1.out.trans hb2)
 clear hv2 hb2
 go_wp2_with fail
 go_ret
 exact ⟨_, rfl, HV2.out, HB2.out⟩
theorem sorted_ok (A : Option Addr) (c : Nat) (l : List S26) (w : World) (hC : Kd.C k26 w A l.length l) (hlen : l.length ≤ 1000000) :
  Calls Try.prog 13 #[.slice A l.length c] w fun e w' => ∃ v, e = .returned v ∧ Kd.R k26 26 w' w.heap.size (fun _ => True) v (l.mergeSort le) ∧ Below w.heap.size w w' := by
 have HV := Lib.hid (callsIn_wide.1 (values_in Fence.wide 10 trivial rfl A l.length c w))
 have hA1 : Below w.heap.size w (w.alloc (.cells #[.slice A l.length c] 22)) := (Below.refl _ w).alloc (Nat.le_refl _) _
 have H := Lib.hid (sortedF_ok w.heap.size c A l w (w.alloc (.cells #[.slice A l.length c] 22)) hC (Nat.le_refl _) hA1 (World.alloc_heap_new _ _) hlen)
 have HA1 := Lib.hid hA1
 clear hC hA1
 go_enter Try.func13, Try.ntmps13
 go_wp2_with fail
 refine HV.out.mono ?_
 rintro e w1 ⟨rfl, rfl⟩
 go_wp2_with fail
 refine H.out.mono ?_
 rintro e w2 ⟨v, rfl, hv, hb⟩
 have HV2 := Lib.hid (Kd.R_lower hv HA1.out.size)
 have HB2 := Lib.hid (below_step HA1.out hb)
 clear hv hb
 go_wp2_with fail
 go_ret
 exact ⟨_, rfl, HV2.out, HB2.out⟩
def mail_Sorted.f (l : List S26) : Option (List S26) := if l.length ≤ 1000000 then some (l.mergeSort le) else none
theorem mail_Sorted.calls (A0 : Option Addr) (c0 : Nat) (l0 : List S26) (r : List S26) (w : World) (hr0 : Kd.C k26 w A0 l0.length l0) (_ : l0.length ≤ c0) (h : mail_Sorted.f l0 = some r) :
  Calls Try.prog 13 #[.slice A0 l0.length c0] w fun e w' => ∃ v0_ : Value, e = .returned v0_ ∧ Kd.R k26 26 w' w.heap.size (fun _ => True) v0_ r ∧ Below w.heap.size w w' := by
 unfold mail_Sorted.f at h
 split at h
 ·injection h with h
  subst h
  exact sorted_ok A0 c0 l0 w hr0 ‹_›
 ·cases h
end Go.Proofs.Ythmenclkgngkkaa.M
end
section
/- Orders of some numbers: plain lists, no program in sight. -/
namespace Go.Proofs.Ythmenclkgngkkaa.Perm

def fact : Nat → Nat
  | 0 => 1
  | n + 1 => (n + 1) * fact n

theorem fact_pos : ∀ n, 0 < fact n
  | 0 => Nat.one_pos
  | n + 1 => Nat.mul_pos (Nat.succ_pos n) (fact_pos n)
theorem fact_mono : ∀ {m n : Nat}, m ≤ n → fact m ≤ fact n
  | m, 0, h => by obtain rfl : m = 0 := by omega
                  exact Nat.le_refl _
  | m, n + 1, h => by
    by_cases e : m = n + 1
    · rw [e]; exact Nat.le_refl _
    · refine Nat.le_trans (fact_mono (show m ≤ n by omega)) ?_
      show fact n ≤ (n + 1) * fact n
      rw [Nat.succ_mul]
      exact Nat.le_add_left _ _

def ordF : Nat → Nat → List Int → List Int
  | 0, _, _ => []
  | r + 1, k, left => left.getD (k / fact r) 0 :: ordF r (k % fact r) (left.eraseIdx (k / fact r))

theorem div_lt {r k : Nat} (h : k < fact (r + 1)) : k / fact r < r + 1 := by
  rw [Nat.div_lt_iff_lt_mul (fact_pos r)]; exact h

theorem cons_erase {l : List Int} {i : Nat} (h : i < l.length) : (l[i] :: l.eraseIdx i).Perm l := by
  have e : l = l.take i ++ l[i] :: l.drop (i + 1) := by
    rw [← List.drop_eq_getElem_cons h, List.take_append_drop]
  rw [List.eraseIdx_eq_take_drop_succ]
  exact List.perm_middle.symm.trans (by rw [← e])

theorem ordF_perm : ∀ (r k : Nat) (left : List Int), left.length = r → k < fact r → (ordF r k left).Perm left
  | 0, _, left, hl, _ => by
    obtain rfl : left = [] := by simpa using hl
    exact List.Perm.nil
  | r + 1, k, left, hl, hk => by
    have hi := div_lt hk
    have hi' : k / fact r < left.length := by omega
    have h1 : (left.eraseIdx (k / fact r)).length = r := by rw [List.length_eraseIdx]; simp [hi']; omega
    refine (List.Perm.cons _ (ordF_perm r (k % fact r) _ h1 (Nat.mod_lt _ (fact_pos r)))).trans ?_
    rw [show left.getD (k / fact r) 0 = left[k / fact r] by simp [List.getD, hi']]
    exact cons_erase hi'

def upto (n : Nat) : List Int := (List.range n).map (fun i : Nat => (i : Int))

def ord (n k : Nat) : List Int := ordF n (k % fact n) (upto n)

theorem ord_perm (n k : Nat) : (ord n k).Perm (upto n) := ordF_perm n _ _ (by simp [upto]) (Nat.mod_lt _ (fact_pos n))

theorem upto_mem {n : Nat} {x : Int} : x ∈ upto n ↔ 0 ≤ x ∧ x < n := by
  unfold upto
  rw [List.mem_map]
  constructor
  · rintro ⟨i, hi, rfl⟩
    rw [List.mem_range] at hi
    omega
  · intro h
    exact ⟨x.toNat, by rw [List.mem_range]; omega, by omega⟩

theorem upto_snoc (n : Nat) : upto (n + 1) = upto n ++ [(n : Int)] := by simp [upto, List.range_succ]

end Go.Proofs.Ythmenclkgngkkaa.Perm
end
section
/- Contracts of the library's functions, laid over this program. -/
namespace Go.Proofs
open Go.Shelf
def Try.laysNm223_ren : Go.Shelf.Ren := ⟨fun | 23 => 83 | n => n, fun | 22 => 89 | 3 => 3 | 4 => 4 | 0 => 0 | n => n, fun | n => n⟩
theorem Try.laysNm223 : Go.Proofs.Lays2.n23 Try.prog Try.laysNm223_ren := {
  mixed := by kernel_rfl
  f23 := Try.func83.trans (congrArg some (by kernel_rfl))
  t0 := Try.underlying0
  a0 := Try.isAgg0
  z0 := Try.sizeOf0
  v0 := Try.zeroValue0
  t3 := Try.underlying3
  a3 := Try.isAgg3
  z3 := Try.sizeOf3
  v3 := Try.zeroValue3
  t4 := Try.underlying4
  a4 := Try.isAgg4
  z4 := Try.sizeOf4
  v4 := Try.zeroValue4
  t22 := Try.underlying89
  a22 := Try.isAgg89
  z22 := Try.sizeOf89
  v22 := Try.zeroValue89
  i3 := by kernel_rfl }
open Go.RowKit Go.Lib Go.Sort in
theorem Try.slices_Delete_int (blk off cap i j : Nat) (zs : List Int) (w : World) (hH : Holds (Value.int .i64) w blk off zs.toArray) (hcap : zs.length ≤ cap) (hm : cap ≤ 9223372036854775807) (hij : i ≤ j) (hj : j ≤ zs.length) :
    Calls Try.prog 83 #[.slice (some ⟨blk, off, none⟩) zs.length cap, .int .i64 i, .int .i64 j] w fun e w' => e = .returned (.slice (some ⟨blk, off, none⟩) (zs.length - (j - i)) cap) ∧ ∃ q, w' = putRow (Value.int .i64) (Sort.ahead w q) blk off (zs.take i ++ zs.drop j ++ List.replicate (j - i) 0).toArray := Any.slices_Delete_int Try.laysNm223 blk off cap i j zs w hH hcap hm hij hj
end Go.Proofs
end
section
/- The walk of perm.From, perm.Right and perm.Turn. -/
namespace Go.Proofs.Ythmenclkgngkkaa.Perm
open Go.RowKit Go.Proofs.Ythmenclkgngkkaa.PA Go.Proofs.YthmenclkgngkkaaW.PrintWords Go.Proofs.YthmenclkgngkkaaW.PrintLast Go.Proofs.YthmenclkgngkkaaW.PrintMore

theorem u_mod (x : Int) : IntKind.u64.wrap x = x % 18446744073709551616 := IntKind.wrap_u64 x
theorem wrap_id {x : Int} (h0 : -9223372036854775808 ≤ x) (h1 : x ≤ 9223372036854775807) : wrap64 x = x := by
  unfold wrap64; omega

theorem fact16 : fact 16 = 20922789888000 := by decide

theorem many_l (n : Nat) (hn : n ≤ 16) (d : Nat) : ∀ (i k : Nat), i + d = n → d < k → perm_Many.l0 k (fact i) n i = some ((fact n : Nat) : Int) := by
  induction d with
  | zero =>
    intro i k hi hk
    obtain ⟨k, rfl⟩ : ∃ m, k = m + 1 := ⟨k - 1, by omega⟩
    obtain rfl : i = n := by omega
    simp only [perm_Many.l0]
    rw [if_neg (Int.lt_irrefl _)]
  | succ d ih =>
    intro i k hi hk
    obtain ⟨k, rfl⟩ : ∃ m, k = m + 1 := ⟨k - 1, by omega⟩
    have hlt : (i : Int) < n := by omega
    have hf := fact_mono (show i + 1 ≤ 16 by omega)
    rw [fact16] at hf
    have e1 : wrap64 ((i : Int) + 1) = ((i + 1 : Nat) : Int) := by rw [wrap_id (by omega) (by omega)]; omega
    have e2 : IntKind.u64.wrap ((fact i : Int) * IntKind.u64.wrap ((i + 1 : Nat) : Int)) = ((fact (i + 1) : Nat) : Int) := by
      have e3 : IntKind.u64.wrap ((i + 1 : Nat) : Int) = ((i + 1 : Nat) : Int) := by rw [u_mod]; omega
      have e4 : (fact i : Int) * ((i + 1 : Nat) : Int) = ((fact (i + 1) : Nat) : Int) := by
        rw [← Int.natCast_mul, Nat.mul_comm]; rfl
      rw [e3, e4, u_mod]; omega
    simp only [perm_Many.l0]
    rw [if_pos hlt, e1, e2]
    exact ih (i + 1) k (by omega) (by omega)

theorem many_yes (n : Nat) (hn : n ≤ 16) : perm_Many.f 20 n = some ((fact n : Nat) : Int) := by
  unfold perm_Many.f
  rw [if_neg (by omega), decide_eq_false (by omega)]
  show (if false = true then some 0 else perm_Many.l0 19 1 n 0) = _
  rw [if_neg Bool.false_ne_true]
  exact many_l n hn n 0 19 (by omega) (by omega)
theorem many_no (n : Int) (hn : n < 0 ∨ 16 < n) : perm_Many.f 20 n = some 0 := by
  unfold perm_Many.f
  by_cases h : n < 0
  · rw [if_pos h]; rfl
  · rw [if_neg h, decide_eq_true (show n > 16 by omega)]; rfl

theorem from_no (n k : Int) (w : World) (hn : n < 0 ∨ 16 < n) :
    Calls Try.prog 55 #[.int .i64 n, .int .u64 k] w fun e w' => e = .returned (.tuple #[.slice none 0 0, .int .i64 2]) ∧ Below w.heap.size w w' := by
  have H := Lib.hid (many_no n hn)
  clear hn
  go_enter Try.func55, Try.ntmps55
  go_wp2_with fail
  refine (perm_Many.calls 20 n 0 _ H.out).mono ?_
  rintro e w' ⟨rfl, ⟨m, rfl⟩⟩
  go_wp2_with fail
  go_ret2
  exact ⟨rfl, pw_below_drewN (Below.refl _ _) _⟩

def I (x : Int) : Value := .int .i64 x

def half (i n : Nat) : List Int := upto i ++ List.replicate (n - i) 0
theorem half_set (i n : Nat) (h : i < n) : (half i n).set i (i : Int) = half (i + 1) n := by
  unfold half
  have hl : (upto i).length = i := by simp [upto]
  rw [List.set_append_right _ _ (by omega), hl, Nat.sub_self, show n - i = (n - (i + 1)) + 1 by omega, List.replicate_succ, List.set_cons_zero, upto_snoc, List.append_assoc]
  rfl
theorem half_full (n : Nat) : half n n = upto n := by simp [half]

theorem del_own {base blk cap j r : Nat} {left : List Int} {W : World} (h : W.ownsRow base 3 1 (.slice (some ⟨blk, 0, none⟩) (r + 1) cap) (r + 1) (left.map I)) (hj : j < r + 1) :
    Calls Try.prog 83 #[.slice (some ⟨blk, 0, none⟩) (r + 1) cap, .int .i64 j, .int .i64 ((j : Int) + 1)] W fun e w' => e = .returned (.slice (some ⟨blk, 0, none⟩) r cap) ∧ w'.ownsRow base 3 1 (.slice (some ⟨blk, 0, none⟩) r cap) r ((left.eraseIdx j).map I) ∧ W.grownBy w' (some blk) := by
  obtain ⟨g, cap', e1, hb, hlt, hn, hm, hl, hH⟩ := Lib.holds_of_ownsRow (enc := I) h (by simp)
  injection e1 with e1 e2 e3
  injection e1 with e1
  injection e1 with e1
  subst e1 e3
  have hc := Try.slices_Delete_int blk 0 cap j (j + 1) left W hH (by omega) (by unfold maxLen at hm; omega) (by omega) (by omega)
  rw [hl] at hc
  refine hc.mono ?_
  rintro e w' ⟨rfl, q, rfl⟩
  have hy : (left.take j ++ left.drop (j + 1) ++ List.replicate (j + 1 - j) 0).length = r + 1 := by
    simp; omega
  have hown := Lib.ownsRow_putRow (q := q) (k := r) h hy (by omega)
  have ht : (left.take j ++ left.drop (j + 1) ++ List.replicate (j + 1 - j) 0).take r = left.eraseIdx j := by
    rw [List.eraseIdx_eq_take_drop_succ, List.take_append_of_le_length (by simp; omega), List.take_of_length_le (by simp; omega)]
  rw [ht] at hown
  refine ⟨by rw [show r + 1 - (j + 1 - j) = r by omega], hown, ?_⟩
  exact ⟨rfl, rfl, rfl, by simp [Go.Sort.ahead], fun k hk hne => by
    have : blk ≠ k := fun e => hne (by rw [e])
    simp [Go.Sort.putRow, Go.Sort.mapBlock, Go.Sort.ahead, Array.getElem?_modify, this]⟩

set_option maxRecDepth 100000 in
set_option maxHeartbeats 4000000 in
theorem from_yes (n k : Nat) (w : World) (hn : n ≤ 16) (hk : (k : Int) ≤ 18446744073709551615) :
    Calls Try.prog 55 #[.int .i64 n, .int .u64 k] w fun e w' => ∃ v, e = .returned (.tuple #[v, .int .i64 0]) ∧ w'.ownsRow w.heap.size 3 1 v (ord n k).length ((ord n k).map I) ∧ Below w.heap.size w w' := by
  have H := Lib.hid (many_yes n hn)
  have hf1 : 1 ≤ fact n := fact_pos n
  have hf2 := fact_mono hn
  rw [fact16] at hf2
  obtain ⟨f, hf⟩ : ∃ f, f = fact n := ⟨_, rfl⟩
  rw [← hf] at hf1 hf2
  have b0 : ((f : Int) == 0) = false := by rw [beq_eq_false_iff_ne]; omega
  have hn' : (n : Int) ≤ 16 := by omega
  have HF := Lib.hid hf
  rw [← hf] at H
  clear hf
  obtain ⟨i0, hi, hz0, hz1, hz2⟩ := info_parts info3
  have HB := Lib.hid (Below.refl w.heap.size w)
  go_enter Try.func55, Try.ntmps55
  go_wp2_with fail
  refine (perm_Many.calls 20 n f _ H.out).mono ?_
  rintro e w' ⟨rfl, ⟨m, rfl⟩⟩
  go_wp2_with ((with_reducible refine gate_dst (N := 20) rfl ?_); refine wpList_make_full _ rfl (.tmp 19) (.tmp 19) 89 rfl w.heap.size 3 i0 (.int .i64 0) 1 Try.underlying89 hi hz0 hz1 .i64 .i64 n n n rfl rfl rfl rfl (by rw [hz2]; omega) (by unfold maxLen; omega) (Nat.le_refl _) ?_; intro w1 ho1 hg1)
  have HB1 := Lib.hid (show Below w.heap.size w w1 from ⟨hg1.os, hg1.tape, hg1.output, hg1.size, fun k hk => hg1.block k hk (by simp)⟩)
  have HO1 := Lib.hid ho1
  clear ho1 hg1 HB
  go_loopw [8, 23] (fun _ v23 wr => ∃ i : Nat, i ≤ n ∧ v23 = .int .i64 i ∧ wr.ownsRow w.heap.size 3 1 (.slice (some ⟨w.heap.size, 0, none⟩) n n) n ((half i n).map I) ∧ Below w.heap.size w wr) (fun _ v23 _ => n - (intOf v23).toNat)
  case atStart =>
    refine ⟨0, Nat.zero_le _, rfl, ?_, HB1.out⟩
    have e : (madeCells (Value.int IntKind.i64 0).cells (n * 1)).toList = (half 0 n).map I := by
      rw [show (Value.int IntKind.i64 0).cells = #[Value.int IntKind.i64 0] from rfl, toList_madeCells_one]
      simp [half, upto, I]
    rw [← e]; exact HO1.out
  case round =>
    obtain ⟨i, hin, rfl, ho, hb⟩ := hrel
    clear HB1 HO1
    by_cases hlt : i < n
    · have hc : wr.cell? ⟨w.heap.size, i, none⟩ = some (I ((half i n).getD i 0)) := by
        rw [ho.cellAt i (by omega), List.getElem?_map]
        have : i < (half i n).length := by simp [half, upto]; omega
        simp [List.getD, List.getElem?_eq_getElem this]
      have hfz : wr.frozen? ⟨w.heap.size, i, none⟩ = false := ho.frozenAt i
      generalize I ((half i n).getD i 0) = v0 at hc
      have HO := Lib.hid ho; clear ho
      have HB := Lib.hid hb; clear hb
      go_wp2
      go_roundw
      case rel =>
        refine ⟨i + 1, by omega, by go_num, ?_, HB.out.setCell (Nat.le_refl _) _⟩
        have := (HO.out.stored i (.int .i64 i)).1
        rw [show (Value.int .i64 (i : Int)) = I (i : Int) from rfl, ← List.map_set, half_set i n hlt] at this
        exact this
      case measure => simp [intOf]; omega
    · obtain rfl : i = n := by omega
      rw [half_full] at ho
      have HO := Lib.hid ho; clear ho
      have HB := Lib.hid hb; clear hb
      go_wp2_with ((with_reducible refine gate_dst (N := 32) rfl ?_); refine wpList_make_own _ rfl (.const (.int .i64 0)) (.tmp 31) 89 rfl w.heap.size 3 i0 (.int .i64 0) 1 Try.underlying89 hi hz0 hz1 .i64 .i64 i i rfl rfl rfl (by rw [hz2]; omega) (by unfold maxLen; omega) (HB.out.size) ?_; intro w2 ho2 hg2)
      have hne : wr.heap.size ≠ w.heap.size := by
        have := (HO.out.lt w.heap.size rfl).2
        omega
      have HO2 := Lib.hid (ho2 : w2.ownsRow w.heap.size 3 1 (.slice (some ⟨wr.heap.size, 0, none⟩) 0 i) 0 (([] : List Int).map I))
      have HOL := Lib.hid (HO.out.kept hg2 (Or.inr (by simp [Value.ownBlock])))
      have HB2 := Lib.hid (HB.out.grown hg2 HB.out.size (fun k h => by cases h))
      clear ho2 hg2 HO HB
      go_loopw [1, 6, 7, 9, 10, 11] (fun v1 v6 v7 v9 v10 _ wr => ∃ (r kk : Nat) (left out : List Int), v1 = .int .u64 kk ∧ v6 = .int .u64 (fact r) ∧ v7 = .slice (some ⟨w.heap.size, 0, none⟩) r i ∧ v10 = .int .i64 r ∧ kk < fact r ∧ r ≤ i ∧ left.length = r ∧ wr.ownsRow w.heap.size 3 1 (.slice (some ⟨w.heap.size, 0, none⟩) r i) r (left.map I) ∧
        wr.ownsRow w.heap.size 3 1 v9 out.length (out.map I) ∧ v9.ownBlock ≠ some w.heap.size ∧ out.length + r = i ∧ ord i k = out ++ ordF r kk left ∧ Below w.heap.size w wr) (fun _ _ _ _ v10 _ _ => (intOf v10).toNat)
      case atStart =>
        have hf3 := HF.out
        refine ⟨i, k % fact i, upto i, [], ?_, ?_, rfl, rfl, Nat.mod_lt _ (fact_pos i), Nat.le_refl _, by simp [upto], HOL.out, HO2.out, by simp [Value.ownBlock]; exact hne, by simp, rfl, HB2.out⟩
        · rw [← hf3]; rfl
        · rw [← hf3]
      case round =>
        obtain ⟨r, kk, left, out, rfl, rfl, rfl, rfl, hkk, hri, hll, hol, hoo, hnb, hlen, hord, hb⟩ := hrel
        clear HB2 HOL HO2
        have HOL := Lib.hid hol; clear hol
        have HOO := Lib.hid hoo; clear hoo
        have HB := Lib.hid hb; clear hb
        have HN := Lib.hid hnb; clear hnb
        have HD := Lib.hid hord; clear hord
        cases r with
        | zero =>
          have hr0 : decide (((0 : Nat) : Int) > 0) = false := by decide
          go_wp2
          go_ret2
          have hout : ord i k = out := by rw [HD.out]; simp [ordF]
          refine ⟨_, rfl, ?_, HB.out⟩
          rw [hout]; exact HOO.out
        | succ r =>
          have hj := div_lt hkk
          obtain ⟨G, hG⟩ : ∃ G, G = fact r := ⟨_, rfl⟩
          have hG1 : 1 ≤ G := by rw [hG]; exact fact_pos r
          have hG2 := fact_mono (show r ≤ 16 by omega)
          have hF2 := fact_mono (show r + 1 ≤ 16 by omega)
          rw [fact16, ← hG] at hG2
          rw [fact16] at hF2
          obtain ⟨F, hF⟩ : ∃ F, F = fact (r + 1) := ⟨_, rfl⟩
          have eF : ((fact (r + 1) : Nat) : Int) / ((r : Int) + 1) = (G : Int) := by
            rw [hG, show (r : Int) + 1 = ((r + 1 : Nat) : Int) by omega, ← Int.natCast_ediv]
            congr 1
            show (r + 1) * fact r / (r + 1) = fact r
            exact Nat.mul_div_cancel_left _ (Nat.succ_pos r)
          rw [← hF] at eF hF2
          obtain ⟨j, hjd⟩ : ∃ j, j = kk / fact r := ⟨_, rfl⟩
          have eJ : (kk : Int) / (G : Int) = (j : Int) := by rw [hG, hjd, Int.natCast_ediv]
          obtain ⟨k2, hk2⟩ : ∃ k2, k2 = kk % fact r := ⟨_, rfl⟩
          have eM : (kk : Int) % (G : Int) = (k2 : Int) := by rw [hG, hk2, Int.natCast_emod]
          rw [← hjd] at hj
          have hj' : j < left.length := by omega
          have hc : wr.cell? ⟨w.heap.size, j, none⟩ = some (.int .i64 (left.getD j 0)) := by
            rw [HOL.out.cellAt j (by omega), List.getElem?_map]
            simp [List.getD, List.getElem?_eq_getElem hj', I]
          obtain ⟨x, hx⟩ : ∃ x, x = left.getD j 0 := ⟨_, rfl⟩
          rw [← hx] at hc
          have hk3 : (kk : Int) ≤ 20922789888000 := by omega
          rw [← hF] at hkk
          have Hx := Lib.hid hx; clear hx
          have Hk2 := Lib.hid hk2; clear hk2
          have Hjd := Lib.hid hjd; clear hjd
          have HG := Lib.hid hG; clear hG
          have HF' := Lib.hid hF
          rw [← hF]
          clear hF
          have HL := Lib.hid hll; clear hll
          have HE := Lib.hid hlen; clear hlen
          have hE2 : out.length ≤ 16 := by have := HE.out; omega
          go_wp2_with (at_builtin; refine print_append_cells (w0 := w) w.heap.size rfl (.tmp 49) (.tmp 54) 89 3 (.int .i64 0) 1 8 rfl Try.underlying89 info3 rfl (by decide) (by decide) u9 out.length (out.map I) [.int .i64 x] rfl rfl rfl ?c1 HOO.out HB.out HB.out.size ?c2 ?_; (case c1 => (intro u hu; rw [List.mem_singleton.1 hu]; rfl)); (case c2 => omega); intro v9 w4 ho4 hb4 hg4 hat)
          have HL4 := (HOL.out.alloc (.cells #[.int .i64 x] 3)).lt w.heap.size rfl
          have hlt4 := (HOL.out).lt w.heap.size rfl
          have hv9 : v9.ownBlock ≠ some w.heap.size := by
            rcases hat with e | ⟨b, e, hb⟩
            · rw [e]; exact HN.out
            · rw [e]; intro q; injection q with q; omega
          have HOL4 := HOL.out.kept hg4 (Or.inr (fun e => HN.out e.symm))
          have HV := Lib.hid hv9
          have HO4 := Lib.hid ho4
          have HB4 := Lib.hid hb4
          clear ho4 hb4 hg4 hat hv9 HL4 hlt4
          refine (del_own HOL4 hj).mono ?_
          rintro e w5 ⟨rfl, ho5, hg5⟩
          have HO5 := Lib.hid ho5
          have HG5 := Lib.hid hg5
          clear ho5 hg5 HOL4
          go_wp2
          go_roundw
          case rel =>
            have h1 := HE.out
            have h2 := HL.out
            have h3 := Hk2.out
            refine ⟨r, kk % fact r, left.eraseIdx j, out ++ [x], ?_, ?_, rfl, by go_num, Nat.mod_lt _ (fact_pos r), by omega, ?_, HO5.out, ?_, HV.out, ?_, ?_, HB4.out.grown HG5.out HB4.out.size (fun k h => by cases h; exact Nat.le_refl _)⟩
            · rw [h3]
            · rw [HG.out]
            · rw [List.length_eraseIdx, if_pos (by omega)]; omega
            · have := HO4.out.kept HG5.out (Or.inr HV.out)
              simpa [I] using this
            · simp; omega
            · rw [HD.out, ordF, ← Hjd.out, ← Hx.out, List.append_assoc]; rfl
          case measure => simp [intOf]

def perm_From.f (n k : Int) : Option (List Int × Int) := if 0 ≤ n ∧ n ≤ 16 ∧ 0 ≤ k ∧ k ≤ 18446744073709551615 then some (ord n.toNat k.toNat, 0) else if n < 0 ∨ 16 < n then some ([], 2) else none

theorem R_of_owns {w : World} {base : Nat} {v : Value} {l : List Int} (h : w.ownsRow base 3 1 v l.length (l.map I)) : Kd.R (Kd.int .i64) 3 w base (fun _ => True) v l := by
  refine ⟨fun _ _ => trivial, l.map I, h, ?_⟩
  clear h
  induction l with
  | nil => exact Reps.none _ _
  | cons x l ih => exact Reps.one (show Kd.M (Kd.int .i64) _ _ _ x [.int .i64 x] from rfl) ih

theorem perm_From.calls (a0 a1 : Int) (r1 : List Int) (r2 : Int) (w : World) (h : perm_From.f a0 a1 = some (r1, r2)) :
    Calls Try.prog 55 #[.int .i64 a0, .int .u64 a1] w fun e w' => ∃ v0_ : Value, e = .returned (.tuple #[v0_, .int .i64 r2]) ∧ Kd.R (Kd.int .i64) 3 w' w.heap.size (fun _ => True) v0_ r1 ∧ Below w.heap.size w w' := by
  unfold perm_From.f at h
  split at h
  · rename_i hr
    cases h
    obtain ⟨n, rfl⟩ := Int.eq_ofNat_of_zero_le hr.1
    obtain ⟨k, rfl⟩ := Int.eq_ofNat_of_zero_le hr.2.2.1
    simp only [Int.toNat_natCast]
    refine (from_yes n k w (by omega) hr.2.2.2).mono ?_
    rintro e w' ⟨v, rfl, ho, hb⟩
    exact ⟨v, rfl, R_of_owns ho, hb⟩
  · split at h
    · rename_i hr
      cases h
      refine (from_no a0 a1 w hr).mono ?_
      rintro e w' ⟨rfl, hb⟩
      exact ⟨_, rfl, Kd.R_nil _ _ _ _ _, hb⟩
    · cases h

end Go.Proofs.Ythmenclkgngkkaa.Perm
end
section
/- The shelf's contracts (slices.Reverse, slices.Grow), laid over this program. -/
namespace Go.Proofs
open Go.Shelf
def Try.revE_ren : Go.Shelf.Ren := ⟨fun | 35 => 33 | n => n, fun | 22 => 56 | 23 => 22 | 3 => 3 | 4 => 4 | 0 => 0 | n => n, fun | n => n⟩
theorem Try.revE : Go.Proofs.SlLaysE.n35 Try.prog Try.revE_ren := {
  mixed := by kernel_rfl
  f35 := ⟨Try.f33.name, by decide, Try.func33.trans (congrArg some (by kernel_rfl))⟩
  t0 := Try.underlying0
  a0 := Try.isAgg0
  z0 := Try.sizeOf0
  v0 := Try.zeroValue0
  t3 := Try.underlying3
  a3 := Try.isAgg3
  z3 := Try.sizeOf3
  v3 := Try.zeroValue3
  t4 := Try.underlying4
  a4 := Try.isAgg4
  z4 := Try.sizeOf4
  v4 := Try.zeroValue4
  t22 := Try.underlying56
  a22 := Try.isAgg56
  z22 := Try.sizeOf56
  v22 := Try.zeroValue56
  a23 := Try.isAgg22
  z23 := Try.sizeOf22 }
def Try.growE_ren : Go.Shelf.Ren := ⟨fun | 4 => 59 | n => n, fun | 22 => 22 | 25 => 26 | 3 => 3 | 4 => 4 | 9 => 9 | 20 => 20 | 0 => 0 | n => n, fun | n => n⟩
theorem Try.growE : Go.Proofs.Lays8.n4 Try.prog Try.growE_ren := {
  mixed := by kernel_rfl
  f4 := ⟨Try.f59.name, by decide, Try.func59.trans (congrArg some (by kernel_rfl))⟩
  t0 := Try.underlying0
  a0 := Try.isAgg0
  z0 := Try.sizeOf0
  v0 := Try.zeroValue0
  t3 := Try.underlying3
  a3 := Try.isAgg3
  z3 := Try.sizeOf3
  v3 := Try.zeroValue3
  t4 := Try.underlying4
  a4 := Try.isAgg4
  z4 := Try.sizeOf4
  v4 := Try.zeroValue4
  t9 := Try.underlying9
  a9 := Try.isAgg9
  z9 := Try.sizeOf9
  v9 := Try.zeroValue9
  t20 := Try.underlying20
  a20 := Try.isAgg20
  z20 := Try.sizeOf20
  v20 := Try.zeroValue20
  t22 := Try.underlying22
  a22 := Try.isAgg22
  z22 := Try.sizeOf22
  v22 := Try.zeroValue22 }
end Go.Proofs
end
section
/- The walk of mail.turned: a row in the order of a number. -/
set_option linter.unusedSimpArgs false
set_option linter.unusedVariables false
set_option linter.unusedSimpArgs false
set_option linter.unusedVariables false
namespace Go.Proofs.Ythmenclkgngkkaa.M
open Go.RowKit Go.Proofs.Ythmenclkgngkkaa.Perm Go.Proofs.Ythmenclkgngkkaa.Sk Go.Proofs.Ythmenclkgngkkaa.PA Go.Proofs.YthmenclkgngkkaaW.PrintWords Go.Proofs.YthmenclkgngkkaaW.PrintMore Go.Proofs.YthmenclkgngkkaaW.PrintLast
def zm : S26 := ⟨0, 0, 0⟩
def turn1 (row : List S26) (k : Nat) : List S26 := (ord row.length k).map (fun x => row.getD x.toNat zm)
def tso (row : List S26) (p : List Int) (i n : Nat) : List S26 := (p.take i).map (fun x => row.getD x.toNat zm) ++ List.replicate (n - i) zm
theorem tso_set (row : List S26) (p : List Int) (i n : Nat) (hp : p.length = n) (hi : i < n) : (tso row p i n).set i (row.getD (p.getD i 0).toNat zm) = tso row p (i + 1) n := by
 unfold tso
 have hl : ((p.take i).map (fun x => row.getD x.toNat zm)).length = i := by simp; omega
 rw [List.set_append_right _ _ (by omega), hl, Nat.sub_self, show n - i = (n - (i + 1)) + 1 by omega, List.replicate_succ, List.set_cons_zero, List.take_succ_eq_append_getElem (by omega), List.map_append, List.append_assoc]
 simp [List.getD, show i < p.length by omega]
theorem tso_len (row : List S26) (p : List Int) (i n : Nat) (hp : p.length = n) (hi : i ≤ n) : (tso row p i n).length = n := by
 unfold tso
 simp; omega
theorem ord_len (n k : Nat) : (ord n k).length = n := by
 have := (ord_perm n k).length_eq
 rw [this]; simp [upto]
theorem fm_zero (n : Nat) : (List.replicate n zm).flatMap e3 = List.replicate (n * 3) (Value.int .i64 0) := by
 induction n with
 | zero => rfl
 | succ n ih => rw [List.replicate_succ, List.flatMap_cons, ih, show (n + 1) * 3 = n * 3 + 1 + 1 + 1 by omega, List.replicate_succ, List.replicate_succ, List.replicate_succ]; rfl
theorem made26 (n : Nat) : madeCells (Value.agg #[.int .i64 0, .int .i64 0, .int .i64 0]).cells (n * 3) = ((List.replicate n zm).flatMap e3).toArray := by
 rw [fm_zero]
 apply Array.ext
 ·simp [madeCells]
 ·intro j h1 h2
  have : j % 3 = 0 ∨ j % 3 = 1 ∨ j % 3 = 2 := by omega
  simp only [madeCells, Value.cells, Array.getElem_map, Array.getElem_range, List.getElem_toArray, List.getElem_replicate]
  rcases this with h | h | h <;> simp [h]
theorem make26 (n : Nat) (hn : n ≤ 1000) (W : World) :
  (Instr.makeSlice 22 (.int .i64 (n : Int)) (.int .i64 (n : Int))).run Try.prog W = .ok (.slice (some ⟨W.heap.size, 0, none⟩) n n) (W.alloc (.cells ((List.replicate n zm).flatMap e3).toArray 26)) := by
 obtain ⟨i, h1, h2, h3, h4⟩ := info_parts info26
 have := run_make (P := Try.prog) W 22 26 i _ Try.underlying22 h1 h2 .i64 .i64 (n : Int) (n : Int) (by omega) (by omega) (by rw [h4]; omega) (by omega)
 rw [this, h3]
 simp only [Int.toNat_natCast]
 rw [made26]
theorem own26 (w : World) (b : Nat) (l : List S26) (hb : b ≤ w.heap.size) (hl : l.length ≤ 1000) : (w.alloc (.cells (l.flatMap e3).toArray 26)).ownsRow b 26 3 (.slice (some ⟨w.heap.size, 0, none⟩) l.length l.length) l.length (l.flatMap e3) := by
 have hf : (l.flatMap e3).length = l.length * 3 := by
  clear hl
  induction l with
  | nil => rfl
  | cons a l ih => rw [List.flatMap_cons, List.length_append, ih]; simp [e3]; omega
 exact ⟨hf, .inr ⟨w.heap.size, l.length, (l.flatMap e3).toArray, rfl, hb, World.alloc_heap_new _ _, Nat.le_refl _, by unfold maxLen; omega, by simpa using hf, by rw [List.take_of_length_le (by simp [hf])]⟩⟩
set_option maxRecDepth 100000 in
set_option maxHeartbeats 4000000 in
theorem turned_ok (A : Option Addr) (c : Nat) (l : List S26) (k : Nat) (w : World) (hC : Kd.C k26 w A l.length l) (h16 : l.length ≤ 16) (hk : (k : Int) ≤ 18446744073709551615) :
  Calls Try.prog 32 #[.slice A l.length c, .int .u64 k] w fun e w' => ∃ v, e = .returned v ∧ Kd.R k26 26 w' w.heap.size (fun _ => True) v (turn1 l k) ∧ Below w.heap.size w w' := by
 have HC := Lib.hid hC
 have HM := Lib.hid (make26 l.length (by omega))
 have HFR := Lib.hid (from_yes l.length k w h16 hk)
 have hpm : ∀ x ∈ ord l.length k, 0 ≤ x ∧ x < l.length := fun x hx => upto_mem.1 ((ord_perm l.length k).mem_iff.1 hx)
 have hpl := ord_len l.length k
 have ht1 : turn1 l k = tso l (ord l.length k) l.length l.length := by unfold turn1 tso; rw [List.take_of_length_le (by omega)]; simp
 rw [ht1]
 have HPL := Lib.hid hpl
 have HPM := Lib.hid hpm
 generalize ord l.length k = p at HFR HPL HPM ⊢
 clear hC hk hpm hpl ht1
 go_enter Try.func32, Try.ntmps32
 go_wp2_with fail
 refine HFR.out.mono ?_
 rintro e w1 ⟨v1, rfl, hp, hb1⟩
 have hP := R_of_owns hp
 obtain ⟨A1, c1, rfl⟩ := Kd.R_slice hP
 rw [HPL.out] at hP ⊢
 have hm := HM.out
 have HB1 := Lib.hid hb1
 have HP := Lib.hid hP
 clear hp hP hb1 HFR
 go_wp2
 have hO0 := R_e3 (own26 w1 w.heap.size (List.replicate l.length zm) HB1.out.size (by simp; omega))
 have hbA : Below w1.heap.size w1 (w1.alloc (.cells ((List.replicate l.length zm).flatMap e3).toArray 26)) := (Below.refl _ w1).alloc (Nat.le_refl _) _
 simp only [List.length_replicate] at hO0
 have hP2 := Kd.R_below HP.out hbA
 have hB2 := below_then HB1.out HB1.out.size hbA
 obtain ⟨G, hG⟩ : ∃ G, G = w1.heap.size := ⟨_, rfl⟩
 generalize w1.alloc (.cells ((List.replicate l.length zm).flatMap e3).toArray 26) = w2 at hO0 hP2 hB2 ⊢
 rw [← hG] at hO0 ⊢
 have HO0 := Lib.hid hO0
 have HP2 := Lib.hid hP2
 have HB2 := Lib.hid hB2
 clear hO0 hP2 hB2 hbA HP HB1 hm HM
 clear hG
 go_loopw [8, 9, 22] (fun _ _ v22 wr => ∃ i : Nat, i ≤ l.length ∧ v22 = .int .i64 i ∧ Kd.R k26 26 wr w.heap.size (fun _ => True) (.slice (some ⟨G, 0, none⟩) l.length l.length) (tso l p i l.length) ∧ Kd.R (Kd.int .i64) 3 wr w.heap.size (fun _ => True) (.slice A1 l.length c1) p ∧ Below w.heap.size w wr) (fun _ _ v22 _ => l.length - (intOf v22).toNat)
 case atStart => exact ⟨0, Nat.zero_le _, rfl, by simpa [tso] using HO0.out, HP2.out, HB2.out⟩
 case round =>
  obtain ⟨i, hi, rfl, hO, hP, hB⟩ := hrel
  have HO := Lib.hid hO
  have HP := Lib.hid hP
  have HB := Lib.hid hB
  clear hO hP hB HO0 HP2 HB2
  by_cases hlt : i < l.length
  ·have di : decide ((i : Int) < (l.length : Int)) = true := decide_eq_true (by omega)
   obtain ⟨hpl, _, hPC⟩ := Kd.R_reads' HP.out
   obtain ⟨ad, hA1, hcp⟩ := Kd.at_int hPC (i : Int) (by omega) (by omega)
   subst hA1
   obtain ⟨x, hx⟩ : ∃ x, x = p.getD i 0 := ⟨_, rfl⟩
   have hip : i < p.length := by omega
   have hxm : x ∈ p := by rw [hx]; simp [List.getD, hip]
   obtain ⟨hx0, hx1⟩ := HPM.out x hxm
   obtain ⟨m, rfl⟩ : ∃ m : Nat, x = (m : Int) := ⟨x.toNat, by omega⟩
   have hcp' : wr.cell? (ad.add i) = some (.int .i64 (m : Int)) := by
    rw [hx]
    simpa [rd, List.getD] using hcp
   have hml : m < l.length := by omega
   obtain ⟨ad2, e, q0, q1, q2⟩ := msg_at HC.out hml
   subst e
   replace q0 := (HB.out.cell (World.block_lt_of_cell? w _ q0)).trans q0
   replace q1 := (HB.out.cell (World.block_lt_of_cell? w _ q1)).trans q1
   replace q2 := (HB.out.cell (World.block_lt_of_cell? w _ q2)).trans q2
   have hset := tso_set l p i l.length hpl.symm hlt
   rw [← hx] at hset
   have hgm : l.getD (m : Int).toNat zm = l[m] := by simp [List.getD, hml]
   rw [hgm] at hset
   have hil : i < (tso l p i l.length).length := by rw [tso_len l p i l.length hpl.symm hi]; exact hlt
   obtain ⟨c0, c1', c2⟩ := msg_own HO.out hil
   generalize l[m] = y at q0 q1 q2 hset
   have f0 := row_free HO.out (i * 3)
   have f1 := row_free HO.out (i * 3 + 1)
   have f2 := row_free HO.out (i * 3 + 2)
   have hgg := own_ge HO.out
   have HO3 := put3 HO.out i hil y
   rw [hset] at HO3
   have HO3 := Lib.hid HO3
   have HB3 := Lib.hid (((HB.out.setCell (p := ⟨G, i * 3, none⟩) hgg (.int .i64 y.f0)).setCell (p := ⟨G, i * 3 + 1, none⟩) hgg (.int .i64 y.f1)).setCell (p := ⟨G, i * 3 + 2, none⟩) hgg (.int .i64 y.f2))
   obtain ⟨_, inn, hown, _⟩ := id HO.out
   obtain ⟨cells, hcl⟩ := own_typed hown G rfl
   have HP3 := Lib.hid (Kd.R_mono (Kd.R_far (Kd.R_far (Kd.R_far (Kd.R_types HP.out hcl (by simp [Kd.int]; decide)) (p := ⟨G, i * 3, none⟩) (fun k hk => hk.2) (.int .i64 y.f0)) (p := ⟨G, i * 3 + 1, none⟩) (fun k hk => hk.2) (.int .i64 y.f1)) (p := ⟨G, i * 3 + 2, none⟩) (fun k hk => hk.2) (.int .i64 y.f2)) (fun k hk => hk.1))
   generalize (tso l p i l.length)[i].f0 = y0 at c0
   generalize (tso l p i l.length)[i].f1 = y1 at c1'
   generalize (tso l p i l.length)[i].f2 = y2 at c2
   clear hcp hPC hxm hx hgm hset hil hown hcl HO HP HB hpl hip
   go_wp2
   refine ⟨⟨i + 1, by omega, by go_num, HO3.out, HP3.out, HB3.out⟩, by simp [intOf]; omega⟩
  ·have d1 : decide ((i : Int) < (l.length : Int)) = false := decide_eq_false (by omega)
   have hil : i = l.length := by omega
   rw [hil] at HO
   clear hil
   go_wp2
   go_ret
   exact ⟨_, rfl, HO.out, HB.out⟩
end Go.Proofs.Ythmenclkgngkkaa.M
end
section
/- A region that draws its order, in a round of a range over a function: walked as anywhere. -/
set_option linter.unusedSimpArgs false
set_option linter.unusedVariables false
namespace Go.Proofs.Ythmenclkgngkkaa.InRound
open Go.RowKit Go.Proofs.YthmenclkgngkkaaW.PrintWords Go.Proofs.YthmenclkgngkkaaW.PrintLast
variable {P : Program} {ops : Array Oper} {Q : Exit → Act → World → Prop} {md : Region.Mode} {S : World → Prop} {ds : List Nat} {L n : Nat}

theorem wpIn_of_wp {o : Oper} {a : Act} {w : World} {K : Act → World → Prop} (hd : ∀ c, o.op ≠ .defer c) (h : o.wp P a w K Q) : o.wpIn (Fence.wide.inRound L) n P a w K Q := by
  refine ⟨fun _ _ => trivial, ?_⟩
  rw [Oper.semAt_eq _ _ _ hd]
  unfold Oper.wp at h
  revert h
  generalize (execOp a.eval o).run P w = r
  intro h
  cases r with
  | ok v w' =>
    cases v with
    | value v => exact h
    | skip => exact h
    | defer d => exact h
    | enter f args => exact ⟨fun h => (by cases h), CallsIn.inRound L (callsIn_wide.2 h)⟩
    | row r args =>
      exact ⟨fun h => (by cases h), fun c cs _ => by
        obtain ⟨v, w', r, s⟩ := h c cs
        exact ⟨v, w', r, stepsIn_wide.2 s⟩⟩
    | _ => exact h.elim
  | halt k w' => cases k <;> exact h

def plain (ops : Array Oper) : Bool := ops.all fun o => match o.op with | .defer _ => false | _ => true
theorem plain_at (h : plain ops = true) {i : Nat} {o : Oper} (ho : ops[i]? = some o) : ∀ c, o.op ≠ .defer c := by
  intro c hc
  obtain ⟨hi, rfl⟩ := Array.getElem?_eq_some_iff.1 ho
  have := (Array.all_eq_true.1 h) i hi
  rw [hc] at this
  cases this
theorem wpOpIn_of_wpOp (hp : plain ops = true) (hQ : ∀ a w, ¬ Q .outgrown a w) {i : Nat} {K K' : Act → World → Prop} (hK : ∀ a w, K a w → K' a w) {a : Act} {w : World} (h : wpOp P ops Q i K a w) : wpOpIn (Fence.wide.inRound L) n P ops Q i K' a w := by
  unfold wpOp at h
  unfold wpOpIn
  split at h
  · rename_i hn; rw [hn]; exact hK _ _ h
  · rename_i o ho
    rw [ho]
    simp only
    split at h
    · rename_i hw
      rw [if_pos hw]
      rcases h with h | ⟨_, a', w', h⟩
      · exact wpIn_of_wp (plain_at hp ho) (Oper.wp_mono hK h)
      · exact absurd h (hQ _ _)
    · rename_i hw
      rw [if_neg hw]
      exact ⟨fun _ _ => trivial, hK _ _ h⟩
theorem wpAnyIn_of_wpAny (hp : plain ops = true) (hQ : ∀ a w, ¬ Q .outgrown a w) : ∀ (fuel : Nat) (listed : Array Bool) (a : Act) (w : World), wpAny P md ops Q fuel listed a w → wpAnyIn (Fence.wide.inRound L) n P md ops Q fuel listed a w
  | 0, _, _, _, h => h
  | fuel + 1, listed, a, w, h => ⟨h.1, fun i hi => wpOpIn_of_wpOp hp hQ (fun a' w' h' => wpAnyIn_of_wpAny hp hQ fuel _ a' w' h') (h.2 i hi)⟩
theorem startR_ {id m : Nat} {a : Act} {w : World} (hp : plain ops = true) (hQ : ∀ a w, ¬ Q .outgrown a w) (l : Array Bool) (hm : P.follows .mixedOrders = true) (hn : ops.size = m) (hl : Array.replicate m false = l) (hS : S w.drew)
    (h : S w.drew → wpAnyLast P .any ops Q S ds m l a w.drew) : (Code.region id ops true).wpIn (Fence.wide.inRound L) n P Q a w := by
  subst hn
  subst hl
  exact wpIn_region_any hm (wpAnyIn_of_wpAny hp hQ _ _ _ _ (wpAny_of_last _ _ _ _ (h hS)))
theorem wpIn_of_wpW {o : Oper} {a : Act} {w : World} {K : Act → World → Prop} (hd : ∀ c, o.op ≠ .defer c) (h : o.wp P a w K Q) : o.wpIn Fence.wide n P a w K Q := by
  refine ⟨fun _ _ => trivial, ?_⟩
  rw [Oper.semAt_eq _ _ _ hd]
  unfold Oper.wp at h
  revert h
  generalize (execOp a.eval o).run P w = r
  intro h
  cases r with
  | ok v w' =>
    cases v with
    | value v => exact h
    | skip => exact h
    | defer d => exact h
    | enter f args => exact ⟨fun h => (by cases h), callsIn_wide.2 h⟩
    | row r args =>
      exact ⟨fun h => (by cases h), fun c cs _ => by
        obtain ⟨v, w', r, s⟩ := h c cs
        exact ⟨v, w', r, stepsIn_wide.2 s⟩⟩
    | _ => exact h.elim
  | halt k w' => cases k <;> exact h
theorem wpOpIn_of_wpOpW (hp : plain ops = true) (hQ : ∀ a w, ¬ Q .outgrown a w) {i : Nat} {K K' : Act → World → Prop} (hK : ∀ a w, K a w → K' a w) {a : Act} {w : World} (h : wpOp P ops Q i K a w) : wpOpIn Fence.wide n P ops Q i K' a w := by
  unfold wpOp at h
  unfold wpOpIn
  split at h
  · rename_i hn; rw [hn]; exact hK _ _ h
  · rename_i o ho
    rw [ho]
    simp only
    split at h
    · rename_i hw
      rw [if_pos hw]
      rcases h with h | ⟨_, a', w', h⟩
      · exact wpIn_of_wpW (plain_at hp ho) (Oper.wp_mono hK h)
      · exact absurd h (hQ _ _)
    · rename_i hw
      rw [if_neg hw]
      exact ⟨fun _ _ => trivial, hK _ _ h⟩
theorem wpAnyIn_of_wpAnyW (hp : plain ops = true) (hQ : ∀ a w, ¬ Q .outgrown a w) : ∀ (fuel : Nat) (listed : Array Bool) (a : Act) (w : World), wpAny P md ops Q fuel listed a w → wpAnyIn Fence.wide n P md ops Q fuel listed a w
  | 0, _, _, _, h => h
  | fuel + 1, listed, a, w, h => ⟨h.1, fun i hi => wpOpIn_of_wpOpW hp hQ (fun a' w' h' => wpAnyIn_of_wpAnyW hp hQ fuel _ a' w' h') (h.2 i hi)⟩
theorem startW_ {id m : Nat} {a : Act} {w : World} (hp : plain ops = true) (hQ : ∀ a w, ¬ Q .outgrown a w) (l : Array Bool) (hm : P.follows .mixedOrders = true) (hn : ops.size = m) (hl : Array.replicate m false = l) (hS : S w.drew)
    (h : S w.drew → wpAnyLast P .any ops Q S ds m l a w.drew) : (Code.region id ops true).wpIn Fence.wide n P Q a w := by
  subst hn
  subst hl
  exact wpIn_region_any hm (wpAnyIn_of_wpAnyW hp hQ _ _ _ _ (wpAny_of_last _ _ _ _ (h hS)))
end Go.Proofs.Ythmenclkgngkkaa.InRound
end
section
/- The walks of slices.Chunk, and what it yields. -/
set_option linter.unusedSimpArgs false
set_option linter.unusedVariables false
set_option linter.unusedSimpArgs false
set_option linter.unusedVariables false
namespace Go.Proofs.Ythmenclkgngkkaa.M
open Go.RowKit Go.Shelf Go.Proofs.Ythmenclkgngkkaa.PA Go.Proofs.YthmenclkgngkkaaW.PrintWords Go.Proofs.YthmenclkgngkkaaW.PrintLast Go.Proofs.YthmenclkgngkkaaW.PrintMore
attribute [local go_sem] Oper.semAt_some max2_int min2_int
def KpC (n₀ Bs : Nat) (W W' : World) : Prop := Below n₀ W W' ∧ W'.heap[Bs]? = W.heap[Bs]? ∧ W'.heap[Bs + 1]? = W.heap[Bs + 1]?
theorem KpC.t {n₀ Bs : Nat} {A B C : World} (h : KpC n₀ Bs A B) (k : KpC n₀ Bs B C) : KpC n₀ Bs A C := ⟨h.1.trans k.1, k.2.1.trans h.2.1, k.2.2.trans h.2.2⟩
theorem KpC.b {n₀ Bs : Nat} {w : World} (hn : n₀ ≤ w.heap.size) (hB : Bs + 1 < w.heap.size) (W : World) (l : Nat) (o o' : Obj) (hl : w.heap.size ≤ l) (h : W.heap[l]? = some o) (a : o.isCells = false) (b : o.isWalk = false) : KpC n₀ Bs W (W.putObj l o') :=
 ⟨belowK_b hn W l o o' hl h a b, World.putObj_heap_other (by omega), World.putObj_heap_other (by omega)⟩
def chv (A : Option Addr) (n i : Nat) : Value := .slice (A.map (fun ad => ad.add (i * 3))) (min 16 (n - i)) (min 16 (n - i))
def starts (n : Nat) : List Nat := (List.range ((n + 15) / 16)).map (fun j => 16 * j)
set_option maxHeartbeats 1000000 in
theorem chunk_ok (A : Option Addr) (k c : Nat) (w : World) :
  Calls Try.prog 31 #[.slice A k c, .int .i64 16] w fun e w' => e = .returned (.func (.func 58) #[] #[.pointer (some ⟨w.heap.size, 0, none⟩), .pointer (some ⟨w.heap.size + 1, 0, none⟩)]) ∧ w' = (w.alloc (.cells #[.slice A k c] 22)).alloc (.cells #[.int .i64 16] 3) := by
 go_enter Try.func31, Try.ntmps31
 go_wp2
 go_ret
 exact ⟨rfl, rfl⟩
set_option maxRecDepth 100000 in
set_option maxHeartbeats 4000000 in
theorem chunk1_in (m : Nat) (hm : 1 ≤ m) (L Bs c : Nat) (A : Option Addr) (l : List S26) (w0 : World) (hC : Kd.C k26 w0 A l.length l) (hlc : l.length ≤ c) (hl : l.length ≤ 1000000) (hB0 : w0.heap.size ≤ Bs) (J Jx : List Nat → World → Prop)
  (hY : ∀ pre x W, J pre W → pre.length < (l.length + 15) / 16 → YieldAt Fence.wide (m - 1) Try.prog L #[chv A l.length x] W fun e W' =>
   (e = .returned (.bool true) ∧ J (pre ++ [x]) W' ∧ KpC w0.heap.size Bs W W') ∨ (e = .returned (.bool false) ∧ Jx (pre ++ [x]) W'))
  (W : World) (hJd : ∀ pre W, J pre W → J pre W.drew) (hBs : W.heap[Bs]? = some (.cells #[.slice A l.length c] 22 (0, 0))) (hBn : W.heap[Bs + 1]? = some (.cells #[.int .i64 16] 3 (0, 0)))
  (hW : Below w0.heap.size w0 W) (h0 : J [] W) :
  CallsIn Fence.wide m Try.prog 58 #[.func (.yield L) #[] #[], .pointer (some ⟨Bs, 0, none⟩), .pointer (some ⟨Bs + 1, 0, none⟩)] W fun e W' => (∃ v, e = .returned v) ∧
   ((∃ ys, ys = starts l.length ∧ J ys W') ∨ (∃ pre, True ∧ Jx pre W')) := by
 have HC := Lib.hid hC
 have HBs := Lib.hid hBs
 have HBn := Lib.hid hBn
 have HW := Lib.hid hW
 have HJ0 := Lib.hid h0
 clear hC hBs hBn hW h0
 refine callsIn_of_wp Try.func58 rfl trivial ?_ rfl
 simp only [Try.ntmps58, List.size_toArray, List.length_cons, List.length_nil, Nat.reduceAdd, Nat.reduceSub, Array.replicate_succ, Array.replicate_zero, List.push_toArray, List.append_toArray, List.nil_append, List.cons_append]
 gi_wp2
 gi_loopw [4, 5] (fun v4 _ wr => ∃ (k : Nat), k ≤ (l.length + 15) / 16 ∧ v4 = .int .i64 ((16 * k : Nat) : Int) ∧ J ((List.range k).map (fun j => 16 * j)) wr ∧ KpC w0.heap.size Bs W wr) (fun v4 _ _ => l.length + 16 - (intOf v4).toNat)
 case atStart => exact ⟨0, Nat.zero_le _, rfl, by simpa using HJ0.out, Below.refl _ _, rfl, rfl⟩
 case round =>
  obtain ⟨k, hk, rfl, hJ, hKp⟩ := hrel
  have HKP := Lib.hid hKp
  have cs : wr.cell? ⟨Bs, 0, none⟩ = some (.slice A l.length c) := by simp [World.cell?, hKp.2.1.trans HBs.out]
  have cn : wr.cell? ⟨Bs + 1, 0, none⟩ = some (.int .i64 16) := by simp [World.cell?, hKp.2.2.trans HBn.out]
  clear hKp
  obtain ⟨i, hi⟩ : ∃ i, i = 16 * k := ⟨_, rfl⟩
  have no_out : ∀ {p : Prop}, ((∃ v, Ending.outgrown = Ending.returned v) ∧ p) → False := fun h => by obtain ⟨⟨v, e⟩, _⟩ := h; cases e
  rw [← hi]
  have HI := Lib.hid hi
  have hib : i ≤ l.length + 15 := by omega
  by_cases hlt : i < l.length
  ·have d1 : decide ((i : Int) < (l.length : Int)) = true := decide_eq_true (by omega)
   clear hi
   have di1 : (i ≤ l.length) = True := eq_true (by omega)
   have di2 : (c = i) = False := eq_false (by omega)
   gi_wp2
   refine InRound.startW_ (by kernel_rfl) (fun _ _ h => no_out h) (m := 7) (S := fun w' => w'.cell? ⟨Bs, 0, none⟩ = some (.slice A l.length c) ∧ w'.cell? ⟨Bs + 1, 0, none⟩ = some (.int .i64 16)) (ds := []) #[false,false,false,false,false,false,false] (by kernel_rfl) rfl rfl ⟨cs, cn⟩ (fun hHeld => ?_)
   refine pure_ (i := 2) (N := some 15) (v := ?_) (a' := ?_) #[false,false,true,false,false,false,false] rfl rfl (by kernel_rfl) (fun _ _ _ h => h) (Or.inl ⟨by rfl, ?_⟩) ?_ ?_
   rotate_left
   ·intro w'
    go_simp
    with_reducible rfl
   rotate_left
   ·simp only [Act.put, List.setIfInBounds_toArray, List.set_cons_zero, List.set_cons_succ, i64_w, i32_w]
    rfl
   refine take_ (i := 0) (N := some 13) (v := ?_) (a' := ?_) #[true,false,true,false,false,false,false] rfl rfl (by kernel_rfl) (fun _ _ _ h => h) (Or.inl ⟨by rfl, ?_⟩) hHeld ?_ ?_
   rotate_left
   ·rintro w' ⟨s0, s1⟩
    go_simp
    with_reducible rfl
   rotate_left
   ·simp only [Act.put, List.setIfInBounds_toArray, List.set_cons_zero, List.set_cons_succ, i64_w, i32_w]
    rfl
   refine take_ (i := 1) (N := some 14) (v := ?_) (a' := ?_) #[true,true,true,false,false,false,false] rfl rfl (by kernel_rfl) (fun _ _ _ h => h) (Or.inl ⟨by rfl, ?_⟩) hHeld ?_ ?_
   rotate_left
   ·rintro w' ⟨s0, s1⟩
    go_simp
    with_reducible rfl
   rotate_left
   ·simp only [Act.put, List.setIfInBounds_toArray, List.set_cons_zero, List.set_cons_succ, i64_w, i32_w]
    rfl
   refine pure_ (i := 3) (N := some 16) (v := ?_) (a' := ?_) #[true,true,true,true,false,false,false] rfl rfl (by kernel_rfl) (fun _ _ _ h => h) (Or.inl ⟨by rfl, ?_⟩) ?_ ?_
   rotate_left
   ·intro w'
    go_simp
    with_reducible rfl
   rotate_left
   ·simp only [Act.put, List.setIfInBounds_toArray, List.set_cons_zero, List.set_cons_succ, i64_w, i32_w]
    rfl
   refine pure_ (i := 4) (N := some 17) (v := ?_) (a' := ?_) #[true,true,true,true,true,false,false] rfl rfl (by kernel_rfl) (fun _ _ _ h => h) (Or.inl ⟨by rfl, ?_⟩) ?_ ?_
   rotate_left
   ·intro w'
    go_simp
    with_reducible rfl
   rotate_left
   ·simp only [Act.put, List.setIfInBounds_toArray, List.set_cons_zero, List.set_cons_succ, i64_w, i32_w]
    rfl
   refine pure_ (i := 5) (N := some 18) (v := ?_) (a' := ?_) #[true,true,true,true,true,true,false] rfl rfl (by kernel_rfl) (fun _ _ _ h => h) (Or.inl ⟨by rfl, ?_⟩) ?_ ?_
   rotate_left
   ·intro w'
    go_simp
    with_reducible rfl
   rotate_left
   ·simp only [Act.put, List.setIfInBounds_toArray, List.set_cons_zero, List.set_cons_succ, i64_w, i32_w]
    rfl
   refine pure_ (i := 6) (N := some 5) (v := ?_) (a' := ?_) #[true,true,true,true,true,true,true] rfl rfl (by kernel_rfl) (fun _ _ _ h => h) (Or.inl ⟨by rfl, ?_⟩) ?_ ?_
   rotate_left
   ·intro w'
    go_simp
    with_reducible rfl
   rotate_left
   ·simp only [Act.put, List.setIfInBounds_toArray, List.set_cons_zero, List.set_cons_succ, i64_w, i32_w]
    rfl
   refine done_ (by kernel_rfl) ?_
   clear hHeld di1 di2
   obtain ⟨n, hn⟩ : ∃ n, n = min 16 (l.length - i) := ⟨_, rfl⟩
   have hmn : min (16 : Int) ((l.length - i : Nat) : Int) = ((n : Nat) : Int) := by omega
   rw [hmn]
   clear hmn
   have cs' : wr.drew.cell? ⟨Bs, 0, none⟩ = some (.slice A l.length c) := cs
   have hn1 : 1 ≤ n := by omega
   have hn2 : i + n ≤ l.length := by omega
   have hn16 : n ≤ 16 := by omega
   have hx : chv A l.length i = .slice (A.map (fun x => x.add (i * 3))) n n := by unfold chv; rw [hn]
   have hlk : ((List.range k).map (fun j => 16 * j)).length < (l.length + 15) / 16 := by have := HI.out; simp; omega
   obtain ⟨fn, tmps, assign, body, hy, hR⟩ := yields (hY _ i wr.drew (hJd _ _ hJ) hlk)
   rw [hx] at hy
   have hsn : (List.range k).map (fun j => 16 * j) ++ [i] = (List.range (k + 1)).map (fun j => 16 * j) := by rw [List.range_succ, List.map_append, HI.out]; rfl
   have HN := Lib.hid hn
   have HSN := Lib.hid hsn
   have HD := Lib.hid (below_drew (Below.refl wr.heap.size wr))
   have di1 : (i ≤ i + n) = True := eq_true (by omega)
   have di2 : (i + n ≤ c) = True := eq_true (by omega)
   have di3 : (i + n = i) = False := eq_false (by omega)
   clear hn hx hlk hsn cs cn hJ hY
   gi_wp2
   refine hR.mono ?_
   rintro e W3 (⟨rfl, hJ3, hk3⟩ | ⟨rfl, hJx3⟩)
   ·rw [HSN.out] at hJ3
    have HJ3 := Lib.hid hJ3
    have hkd : KpC w0.heap.size Bs wr wr.drew := ⟨HD.out.mono (Nat.le_trans (HW.out.size) HKP.out.1.size), rfl, rfl⟩
    have HK3 := Lib.hid (HKP.out.t (hkd.t hk3))
    have cn3 : W3.cell? ⟨Bs + 1, 0, none⟩ = some (.int .i64 16) := by simp [World.cell?, HK3.out.2.2.trans HBn.out]
    clear hJ3 hk3 hkd
    gi_wp2
    go_roundw
    case rel => exact ⟨k + 1, by have := HI.out; omega, by have := HI.out; rw [this]; go_num, HJ3.out, HK3.out⟩
    case measure => have := HI.out; simp [intOf]; omega
   ·have HJ3 := Lib.hid hJx3
    clear hJx3
    gi_wp2
    refine bodyPost_ret (results_none rfl _ _ _) rfl ?_
    exact ⟨⟨_, rfl⟩, .inr ⟨_, trivial, HJ3.out⟩⟩
  ·have d1 : decide ((i : Int) < (l.length : Int)) = false := decide_eq_false (by omega)
   have hks : (List.range k).map (fun j => 16 * j) = starts l.length := by unfold starts; congr 2; omega
   clear hi
   rw [hks] at hJ
   have HJ := Lib.hid hJ
   clear hks hJ
   gi_wp2
   go_end0
   exact ⟨⟨_, rfl⟩, .inl ⟨_, rfl, HJ.out⟩⟩
theorem chunk_stops (m : Nat) (hm : 1 ≤ m) (Bs c : Nat) (A : Option Addr) (l : List S26) (w0 w : World) (hC : Kd.C k26 w0 A l.length l) (hlc : l.length ≤ c) (hl : l.length ≤ 1000000) (hB0 : w0.heap.size ≤ Bs) (hb : Below w0.heap.size w0 w) (hBs : w.heap[Bs]? = some (.cells #[.slice A l.length c] 22 (0, 0))) (hBn : w.heap[Bs + 1]? = some (.cells #[.int .i64 16] 3 (0, 0))) :
  SeqStopsK Fence.wide m Try.prog 58 #[.pointer (some ⟨Bs, 0, none⟩), .pointer (some ⟨Bs + 1, 0, none⟩)] (fun x : Nat => #[chv A l.length x]) (KpC w0.heap.size Bs) (fun ys => ys = starts l.length) (fun _ => True) ((l.length + 15) / 16) w := fun L J Jx W hW hJ _ hY h0 =>
 chunk1_in m hm L Bs c A l w0 hC hlc hl hB0 J Jx hY W (fun pre W1 hj => hJ pre W1 _ none hj (gr_none (below_drew (Below.refl _ _))) (fun r e => by cases e))
  ((hW.block Bs (Array.getElem?_eq_some_iff.1 hBs).1).trans hBs) ((hW.block _ (Array.getElem?_eq_some_iff.1 hBn).1).trans hBn) (below_then hb hb.size hW) h0
end Go.Proofs.Ythmenclkgngkkaa.M
end
section
/- The walks of slices.Grow, slices.Concat and slices.Reverse over rows of messages. -/
set_option linter.unusedSimpArgs false
set_option linter.unusedVariables false
set_option linter.unusedSimpArgs false
set_option linter.unusedVariables false
namespace Go.Proofs.Ythmenclkgngkkaa.M
open Go.RowKit Go.Proofs.Ythmenclkgngkkaa.Sk Go.Proofs.Ythmenclkgngkkaa.PA Go.Proofs.YthmenclkgngkkaaW.PrintWords Go.Proofs.YthmenclkgngkkaaW.PrintMore Go.Proofs.YthmenclkgngkkaaW.PrintLast
abbrev Sl := Option Addr × Nat × Nat
def sl (x : Sl) : Value := .slice x.1 x.2.1 x.2.2
theorem sl_one : OneCell sl := fun _ => rfl
theorem grow_ok (n : Nat) (hn : n ≤ 1000) (w : World) :
  Calls Try.prog 59 #[.slice none 0 0, .int .i64 n] w fun e w' => ∃ v, e = .returned v ∧ Kd.R k26 26 w' w.heap.size (fun _ => True) v [] ∧ Below w.heap.size w w' := by
 by_cases h0 : n = 0
 ·subst h0
  refine (show Calls Try.prog 59 _ _ _ from Any8.slices_Grow_room Try.growE none 0 0 0 w (by omega) (by omega) (by omega) (by omega)).mono ?_
  rintro e w' ⟨rfl, rfl⟩
  exact ⟨_, rfl, Kd.R_nil _ _ _ _ _, Below.refl _ _⟩
 ·obtain ⟨i0, hi, hz0, hz1, hz2⟩ := info_parts info26
  refine (show Calls Try.prog 59 _ _ _ from Any8.slices_Grow_grow Try.growE i0 _ hi hz0 (by rw [hz1]; decide) none 0 0 n [] w (by omega) (by omega) (by rw [hz2]; omega) (by omega) (by simp) (fun _ => rfl) (fun a e => by cases e)).mono ?_
  rintro e w' ⟨rfl, rfl⟩
  have hG := grownCap_ge w (0 + n) 0 26
  have hG2 := grownCap_le_maxLen w (0 + n) 0 26 (by unfold maxLen; omega)
  refine ⟨_, rfl, ⟨fun _ _ => trivial, [], ⟨by simp, .inr ⟨w.heap.size, _, _, rfl, Nat.le_refl _, heap_alloc_new w.drew _, Nat.zero_le _, hG2, ?_, by simp⟩⟩, Reps.none _ _⟩, (below_drew (Below.refl _ _)).alloc (Nat.le_refl _) _⟩
  simp only [Array.size_append, size_zeroCells, List.size_toArray, List.length_nil, Value.cells]
  show 0 + (0 + n - 0) * 3 + (grownCap w (0 + n) 0 26 - (0 + n)) * 3 = grownCap w (0 + n) 0 26 * 3
  omega
set_option maxRecDepth 100000 in
set_option maxHeartbeats 4000000 in
theorem concat_ok (A : Option Addr) (c : Nat) (xs : List Sl) (rs : List (List S26)) (w : World) (hA : ∀ j, j < xs.length → ∃ ad, A = some ad ∧ w.cell? (ad.add j) = some (sl (xs.getD j default)))
  (hR : ∀ j, j < xs.length → (xs.getD j default).2.1 = (rs.getD j []).length ∧ Kd.C k26 w (xs.getD j default).1 (rs.getD j []).length (rs.getD j [])) (hl : rs.length = xs.length) (ht : rs.flatten.length ≤ 1000) (hx : xs.length ≤ 1000) :
  Calls Try.prog 34 #[.slice A xs.length c] w fun e w' => ∃ v, e = .returned v ∧ Kd.R k26 26 w' w.heap.size (fun _ => True) v rs.flatten ∧ Below w.heap.size w w' := by
 have HA := Lib.hid hA
 have HR := Lib.hid hR
 have HL := Lib.hid hl
 have HT := Lib.hid ht
 have HG := Lib.hid (grow_ok rs.flatten.length ht)
 have hpre : ∀ j, (rs.take j).flatten.length ≤ rs.flatten.length := fun j => by
  have := congrArg List.length (congrArg List.flatten (List.take_append_drop j rs))
  rw [List.flatten_append, List.length_append] at this
  omega
 have HPRE := Lib.hid hpre
 obtain ⟨tot, htot⟩ : ∃ tot, tot = rs.flatten.length := ⟨_, rfl⟩
 rw [← htot] at HG
 have HTOT := Lib.hid htot
 clear hA hR hl hpre ht htot
 go_enter Try.func34, Try.ntmps34
 go_wp2_with fail
 go_loopw [3, 5, 11] (fun v3 _ v11 wr => ∃ j : Nat, j ≤ xs.length ∧ v11 = .int .i64 j ∧ v3 = .int .i64 ((rs.take j).flatten.length : Nat) ∧ Below w.heap.size w wr) (fun _ _ v11 _ => xs.length - (intOf v11).toNat)
 case atStart => exact ⟨0, Nat.zero_le _, rfl, rfl, Below.refl _ _⟩
 case round =>
  obtain ⟨j, hj, rfl, rfl, hb⟩ := hrel
  have HB := Lib.hid hb
  clear hb
  by_cases hlt : j < xs.length
  ·have di : decide ((j : Int) < (xs.length : Int)) = true := decide_eq_true (by omega)
   obtain ⟨ad, e, q⟩ := HA.out j hlt
   subst e
   obtain ⟨hn, hC⟩ := HR.out j hlt
   obtain ⟨⟨B, n, cc⟩, hX⟩ : ∃ X, X = xs.getD j default := ⟨_, rfl⟩
   rw [← hX] at q hn hC
   unfold sl at q
   simp only at q hn hC
   replace q := (HB.out.cell (World.block_lt_of_cell? w _ q)).trans q
   have hjr : j < rs.length := by rw [HL.out]; exact hlt
   have hs : (rs.take (j + 1)).flatten.length = (rs.take j).flatten.length + n := by
    rw [List.take_succ_eq_append_getElem hjr, List.flatten_append, List.length_append, hn]
    simp [List.getD, hjr]
   have h1 := HPRE.out (j + 1)
   have h2 := HT.out
   obtain ⟨p, hp⟩ : ∃ p, p = (rs.take j).flatten.length := ⟨_, rfl⟩
   rw [← hp] at hs ⊢
   have hpn : p + n ≤ 1000 := by omega
   have HS := Lib.hid hs
   have dl : decide ((p : Int) + (n : Int) < 0) = false := decide_eq_false (by omega)
   clear hs hp h1 h2 hn hC hX
   go_wp2
   refine ⟨⟨j + 1, by omega, by go_num, by rw [HS.out]; go_num, HB.out⟩, by simp [intOf]; omega⟩
  ·have di : decide ((j : Int) < (xs.length : Int)) = false := decide_eq_false (by omega)
   have hjl : (rs.take j).flatten.length = rs.flatten.length := by rw [show j = rs.length by rw [HL.out]; omega, List.take_length]
   rw [hjl, ← HTOT.out]
   clear hjl
   go_wp2_with fail
   refine (HG.out wr).mono ?_
   rintro e w2 ⟨v2, rfl, hv2, hb2⟩
   have HV := Lib.hid (Kd.R_lower hv2 HB.out.size)
   have HB2 := Lib.hid (below_then HB.out HB.out.size hb2)
   clear hv2 hb2 HB
   go_wp2_with fail
   go_loopw [6, 8, 27] (fun v6 _ v27 wr => ∃ j : Nat, j ≤ xs.length ∧ v27 = .int .i64 j ∧ Kd.R k26 26 wr w.heap.size (fun _ => True) v6 (rs.take j).flatten ∧ Below w.heap.size w wr) (fun _ _ v27 _ => xs.length - (intOf v27).toNat)
   case atStart => exact ⟨0, Nat.zero_le _, rfl, HV.out, HB2.out⟩
   case round =>
    obtain ⟨j, hj, rfl, hV, hb⟩ := hrel
    have HB := Lib.hid hb
    have HV3 := Lib.hid hV
    clear hb hV HV HB2
    by_cases hlt : j < xs.length
    ·have di : decide ((j : Int) < (xs.length : Int)) = true := decide_eq_true (by omega)
     obtain ⟨ad, e, q⟩ := HA.out j hlt
     subst e
     obtain ⟨hn, hC⟩ := HR.out j hlt
     obtain ⟨⟨B, n, cc⟩, hX⟩ : ∃ X, X = xs.getD j default := ⟨_, rfl⟩
     rw [← hX] at q hn hC
     unfold sl at q
     simp only at q hn hC
     replace q := (HB.out.cell (World.block_lt_of_cell? w _ q)).trans q
     have hjr : j < rs.length := by rw [HL.out]; exact hlt
     have hgr : rs.getD j [] = rs[j] := by simp [List.getD, hjr]
     rw [hgr] at hn hC
     have hs : (rs.take (j + 1)).flatten = (rs.take j).flatten ++ rs[j] := by
      rw [List.take_succ_eq_append_getElem hjr, List.flatten_append]
      simp
     have h1 := HPRE.out (j + 1)
     have h2 := HT.out
     have hb3 : ((rs.take j).flatten.length + n) * 24 ≤ 140737488355328 := by
      rw [hs, List.length_append, ← hn] at h1
      omega
     have HC3 := Lib.hid (Kd.C_below hC HB.out)
     have HS := Lib.hid hs
     have HB3 := Lib.hid hb3
     generalize rs[j] = row at hn HC3 HS
     rw [← hn] at HC3
     clear hC hX hs h1 h2 hgr hjr hb3
     subst hn
     go_wp2_with (at_builtin; refine Kd.R_append_rows k26 (Rr := Kd.K k26 wr) (w0 := w) w.heap.size rfl (.tmp 31) (.tmp 32) 22 26 _ 24 rfl Try.underlying22 info26 rfl (by decide) (by decide) _ _ row B row.length cc (fun _ => True) (fun _ => False) rfl rfl HV3.out HC3.out ?c2 (fun k h => h.elim) (fun _ _ => trivial) HB.out HB.out.size ?c3 ?_; (case c2 => (intro x cs h; rw [k26_open h]; exact k26_mkM _ _ _ _)); (case c3 => exact HB3.out); intro v1 w1 h1 hb1 _ _; have H1 := Lib.hid h1; have HB1 := Lib.hid hb1; clear h1 hb1)
     refine ⟨⟨j + 1, by omega, by go_num, by rw [HS.out]; exact H1.out, HB1.out⟩, by simp [intOf]; omega⟩
    ·have di : decide ((j : Int) < (xs.length : Int)) = false := decide_eq_false (by omega)
     have hjl : (rs.take j).flatten = rs.flatten := by rw [show j = rs.length by rw [HL.out]; omega, List.take_length]
     rw [hjl] at HV3
     clear hjl
     go_wp2_with fail
     go_ret
     exact ⟨_, rfl, HV3.out, HB.out⟩
end Go.Proofs.Ythmenclkgngkkaa.M
end
section
/- The walk of mail.Turned. -/
set_option linter.unusedSimpArgs false
set_option linter.unusedVariables false
set_option linter.unusedSimpArgs false
set_option linter.unusedVariables false
namespace Go.Proofs.Ythmenclkgngkkaa.M
open Go.RowKit Go.Shelf Go.Proofs.Ythmenclkgngkkaa.Sk Go.Proofs.Ythmenclkgngkkaa.PA Go.Proofs.YthmenclkgngkkaaW.PrintWords Go.Proofs.YthmenclkgngkkaaW.PrintMore Go.Proofs.YthmenclkgngkkaaW.PrintLast
attribute [local go_sem] Oper.semAt_some
theorem info22 : (Try.prog.info? 22).map (fun i => (i.zero, i.size, i.bytes)) = some (some (.slice none 0 0), 1, 24) := by kernel_rfl
theorem rev_ok (b : Nat) (v : Value) (xs : List Sl) (w : World) (h : w.ownsRow b 22 1 v xs.length (xs.map sl)) (hl : xs.length ≤ 1000) :
  Calls Try.prog 33 #[v] w fun e w' => e = .returned (.tuple #[]) ∧ w'.ownsRow b 22 1 v xs.length (xs.reverse.map sl) ∧ w.grownBy w' v.ownBlock := by
 by_cases hv : v = .slice none 0 0
 ·subst hv
  have h0 : xs = [] := by
   rcases h.2 with ⟨_, h0⟩ | ⟨g, cap, cur, e, _⟩
   ·exact List.length_eq_zero_iff.1 h0
   ·cases e
  subst h0
  refine (show Calls Try.prog 33 _ _ _ from AnyE.slices_Reverse_empty Try.revE none 0 w).mono ?_
  rintro e w' ⟨rfl, rfl⟩
  exact ⟨rfl, h, rfl, rfl, rfl, Nat.le_refl _, fun _ _ _ => rfl⟩
 ·obtain ⟨g, cap, rfl, hb, hlt, hn, hm, hxl, hH⟩ := Lib.holds_of_ownsRow (enc := sl) h hv
  refine (show Calls Try.prog 33 _ _ _ from AnyE.slices_Reverse Try.revE sl sl_one g 0 cap xs w hH (by omega)).mono ?_
  rintro e w' ⟨rfl, q, rfl⟩
  have hown := Lib.ownsRow_putRow (q := q) (k := xs.length) h (ys := xs.reverse) (by simp) (Nat.le_refl _)
  rw [List.take_of_length_le (by simp)] at hown
  refine ⟨rfl, hown, ?_⟩
  exact ⟨rfl, rfl, rfl, by simp [Go.Sort.ahead], fun k hk hne => by
   have : g ≠ k := fun e => hne (by rw [← e]; rfl)
   simp [Go.Sort.putRow, Go.Sort.mapBlock, Go.Sort.ahead, Array.getElem?_modify, this]⟩
def chk (l : List S26) (i : Nat) : List S26 := (l.drop i).take 16
theorem chk_len (l : List S26) (i : Nat) : (chk l i).length = min 16 (l.length - i) := by unfold chk; simp
theorem chk_C {w : World} {A : Option Addr} {l : List S26} (h : Kd.C k26 w A l.length l) (i : Nat) : Kd.C k26 w (A.map (fun ad => ad.add (i * 3))) (chk l i).length (chk l i) := by
 by_cases hi : l.length < i
 ·have e : chk l i = [] := by unfold chk; rw [List.drop_eq_nil_of_le (by omega)]; rfl
  rw [e]
  exact ⟨rfl, by simp, fun h => by simp at h⟩
 replace hi : i ≤ l.length := by omega
 have h1 := Kd.C_drop (c := l.length + 1) h hi (by omega)
 rw [if_neg (by omega)] at h1
 have h2 := Kd.C_take (m := min 16 (l.length - i)) h1 (by simp; omega)
 have e : (l.drop i).take (min 16 (l.length - i)) = chk l i := by
  unfold chk
  rw [← List.length_drop, ← List.take_eq_take_min]
 rw [e] at h2
 exact h2
def TI (w : World) (l : List S26) (k : Nat) (pre : List Nat) (W : World) : Prop :=
 ∃ (v : Value) (xs : List Sl), Boxed W (w.heap.size + 1) 56 v ∧ W.ownsRow w.heap.size 22 1 v pre.length (xs.map sl) ∧ xs.length = pre.length ∧ (∀ j, j < pre.length → Kd.R k26 26 W w.heap.size (fun _ => True) (sl (xs.getD j default)) (turn1 (chk l (pre.getD j 0)) k)) ∧ Boxed W w.heap.size 23 (.int .u64 k) ∧ Below w.heap.size w W ∧ (∀ q, w.heap.size + 2 ≤ q → q < w.heap.size + 4 → some q ≠ v.ownBlock) ∧ w.heap.size + 4 ≤ W.heap.size
theorem R_keep26 {W W' : World} {b : Nat} {u : Value} {r : List S26} {row : Option Nat} (h : Kd.R k26 26 W b (fun _ => True) u r) (hg : W.grownBy W' row) (hr : ∀ k, row = some k → ∀ c f, W.heap[k]? ≠ some (.cells c 26 f)) : Kd.R k26 26 W' b (fun _ => True) u r := by
 refine Kd.R_grown2 h rfl hg (fun k e he => ?_)
 obtain ⟨inn, ho⟩ := Kd.R_own h
 obtain ⟨cells, hc⟩ := own_typed ho k he.symm
 exact hr k e _ _ hc
theorem TI.own {w : World} {l : List S26} {k B : Nat} (hB : w.heap.size ≤ B) : OwnFrom B (TI w l k) := fun s W W' row hs hg hr => by
 obtain ⟨v, xs, hb, ho, hxl, hx, hk, hbl, hn2, hsz⟩ := hs
 have hnc : ∀ k, row = some k → ∀ c t f, W.heap[k]? ≠ some (.cells c t f) := fun k e c t f h => by
  obtain ⟨_, o, ho, hc⟩ := hr _ e
  rw [h] at ho
  cases ho
  cases hc
 exact ⟨v, xs, hb.kept hg (fun e => hnc _ e.symm _ _ _ hb), ho.kept hg (own_row_ne ho hr), hxl, fun j hj => R_keep26 (hx j hj) hg (fun k e c f => hnc k e c 26 f), hk.kept hg (fun e => hnc _ e.symm _ _ _ hk), hbl.grown hg hbl.size (fun k e => Nat.le_trans hB (hr k e).1), hn2, Nat.le_trans hsz hg.size⟩
def turnl (l : List S26) (k : Nat) : List S26 :=
 let rs := (starts l.length).map (fun i => turn1 (chk l i) k)
 (if k % 2 = 1 then rs.reverse else rs).flatten
theorem app_step {ops : Array Oper} {Q : Exit → Act → World → Prop} {o : Oper} {N : Option Tmp} {a : Act} {w w1 : World} {K : Act → World → Prop} {v u v1 : Value} {t t' ty : TypeId} (s x : Operand) (hw : Region.wanted o (yielded ops a.tmps) = true) (hN : o.dst = N)
  (hop : o.op = .call { callee := .builtin .append, args := #[s, x], argTypes := #[t, t'] }) (hty : o.type = ty) (hs : a.eval s = v) (hx : a.eval x = u) (hr : (Builtin.append_ #[t, t'] ty #[v, u]).run Try.prog w = .ok v1 w1) (h : K (a.put N v1) w1) :
  if Region.wanted o (yielded ops a.tmps) = true then Oper.wp Try.prog o a w K Q else K (a.put N undef) w := by
 refine value_ (w1 := w1) (v := v1) hw hN ?_ h
 unfold execOp
 subst hty
 simp only [hop, resolve, invoke, builtin, Sem.run_bind, Sem.run_pure, Result.andThen_ok, List.map_toArray, List.map_cons, List.map_nil, hs, hx, hr]
theorem own_shape {W : World} {b e s n : Nat} {v : Value} {cs : List Value} (h : W.ownsRow b e s v n cs) : ∃ A c, v = .slice A n c := by
 rcases h.2 with ⟨rfl, h0⟩ | ⟨g, cap, cur, rfl, _⟩
 ·exact ⟨none, 0, by rw [h0]⟩
 ·exact ⟨_, _, rfl⟩
theorem flat_le (rs : List (List S26)) (h : ∀ r ∈ rs, r.length ≤ 16) : rs.flatten.length ≤ 16 * rs.length := by
 induction rs with
 | nil => simp
 | cons r rs ih =>
  have h1 := h r List.mem_cons_self
  have h2 := ih (fun r hr => h r (List.mem_cons_of_mem _ hr))
  rw [List.flatten_cons, List.length_append, List.length_cons]
  omega
theorem R_own26 {w : World} {b : Nat} {ok : Nat → Prop} {v : Value} {l : List S26} (h : Kd.R k26 26 w b ok v l) : w.ownsRow b 26 3 v l.length (l.flatMap e3) := by
 obtain ⟨hok, inner, hown, hreps⟩ := h
 have hfm : inner = l.flatMap e3 := fm_of_reps (k := 3) (fun _ => rfl) (by decide) (fun x c h => k26_openM h) hreps
 rw [← hfm]; exact hown
theorem concat_rows (A : Option Addr) (c b n : Nat) (xs : List Sl) (hn : n = xs.length) (rs : List (List S26)) (w : World) (h : w.ownsRow b 22 1 (.slice A xs.length c) xs.length (xs.map sl))
  (hR : ∀ j, j < xs.length → Kd.R k26 26 w b (fun _ => True) (sl (xs.getD j default)) (rs.getD j [])) (hl : rs.length = xs.length) (ht : ∀ r ∈ rs, r.length ≤ 16) (hx : xs.length ≤ 60) :
  Calls Try.prog 34 #[.slice A n c] w fun e w' => ∃ v, e = .returned v ∧ Kd.R k26 26 w' w.heap.size (fun _ => True) v rs.flatten ∧ Below w.heap.size w w' := by
 subst hn
 refine concat_ok A c xs rs w (fun j hj => ?_) (fun j hj => ?_) hl (by have := flat_le rs ht; omega) (by omega)
 ·rcases h.2 with ⟨e, h0⟩ | ⟨g, cap, cur, e, _⟩
  ·omega
  ·injection e with e1 e2 e3
   subst e1
   refine ⟨_, rfl, ?_⟩
   refine h.cells (g := g) rfl j _ ?_
   simp [List.getD, hj]
 ·have h1 := hR j hj
  obtain ⟨⟨A1, n, c1⟩, hX⟩ : ∃ X, X = xs.getD j default := ⟨_, rfl⟩
  rw [← hX] at h1 ⊢
  obtain ⟨h2, _, h3⟩ := Kd.R_reads' (show Kd.R k26 26 w b (fun _ => True) (.slice A1 n c1) (rs.getD j []) from h1)
  exact ⟨h2, h3⟩
theorem turn1_le (l : List S26) (i k : Nat) : (turn1 (chk l i) k).length ≤ 16 := by
 unfold turn1
 rw [List.length_map, ord_len, chk_len]
 omega
theorem starts_len (n : Nat) : (starts n).length = (n + 15) / 16 := by simp [starts]
theorem chunk_ok' (A : Option Addr) (k c : Nat) (w : World) (Bs : Nat) (hB : Bs = w.heap.size) :
  Calls Try.prog 31 #[.slice A k c, .int .i64 16] w fun e w' => e = .returned (.func (.func 58) #[] #[.pointer (some ⟨Bs, 0, none⟩), .pointer (some ⟨Bs + 1, 0, none⟩)]) ∧ w' = (w.alloc (.cells #[.slice A k c] 22)).alloc (.cells #[.int .i64 16] 3) := by
 subst hB; exact chunk_ok A k c w
def AxT (w : World) (A : Option Addr) (c : Nat) (l : List S26) (k : Nat) (x : Nat) (a' : Act) (W : World) : Prop := a' = { tmps := #[.slice A l.length c, .int .u64 k, undef, .pointer (some ⟨w.heap.size, 0, none⟩), .slice none 0 0, .pointer (some ⟨w.heap.size + 1, 0, none⟩), chv A l.length x, .slice A l.length c, .func (.func 58) #[] #[.pointer (some ⟨w.heap.size + 2, 0, none⟩), .pointer (some ⟨w.heap.size + 2 + 1, 0, none⟩)], chv A l.length x, undef, undef, undef, undef, undef, undef, undef, undef, undef, undef, undef, undef, undef], defers := [] }
theorem own_below {W W' : World} {b e s n : Nat} {v : Value} {cs : List Value} (h : W.ownsRow b e s v n cs) (hb : Below W.heap.size W W') : W'.ownsRow b e s v n cs := own_move h (fun k hk => hb.block k (own_lt h k hk))
set_option maxRecDepth 100000 in
set_option maxHeartbeats 8000000 in
theorem turnedAll_ok (A : Option Addr) (c : Nat) (l : List S26) (k : Nat) (w : World) (hC : Kd.C k26 w A l.length l) (hlc : l.length ≤ c) (hl : l.length ≤ 900) (hk : (k : Int) ≤ 18446744073709551615) :
  Calls Try.prog 10 #[.slice A l.length c, .int .u64 k] w fun e w' => ∃ v, e = .returned v ∧ Kd.R k26 26 w' w.heap.size (fun _ => True) v (turnl l k) ∧ Below w.heap.size w w' := by
 have HC := Lib.hid hC
 have HK := Lib.hid hk
 clear hC hk
 refine (callsIn_wide (n := 20)).1 (callsIn_of_wp_marks Try.func10 rfl trivial ?_ rfl)
 simp only [Try.ntmps10, List.size_toArray, List.length_cons, List.length_nil, Nat.reduceAdd, Nat.reduceSub, Array.replicate_succ, Array.replicate_zero, List.push_toArray, List.append_toArray, List.nil_append, List.cons_append]
 gi_wp2
 refine ⟨trivial, (callsIn_wide.2 (chunk_ok' A l.length c _ (w.heap.size + 2) (by simp))).mono ?_⟩
 rintro e w4 ⟨rfl, rfl⟩
 have e1 : Below w.heap.size w (w.alloc (.cells #[.int .u64 k] 23)) := (Below.refl _ w).alloc (Nat.le_refl _) _
 have b1 : Boxed (w.alloc (.cells #[.int .u64 k] 23)) w.heap.size 23 (.int .u64 k) := Boxed.new w 23 _
 have z1 : (w.alloc (.cells #[.int .u64 k] 23)).heap.size = w.heap.size + 1 := by simp
 generalize w.alloc (.cells #[.int .u64 k] 23) = y1 at e1 b1 z1 ⊢
 have e2 := e1.alloc e1.size (.cells #[.slice none 0 0] 56)
 have b2 : Boxed (y1.alloc (.cells #[.slice none 0 0] 56)) (w.heap.size + 1) 56 (.slice none 0 0) := by rw [← z1]; exact Boxed.new y1 56 _
 replace b1 := b1.kept (World.grownBy_alloc y1 (.cells #[.slice none 0 0] 56) none) (by simp)
 have z2 : (y1.alloc (.cells #[.slice none 0 0] 56)).heap.size = w.heap.size + 2 := by simp [z1]
 generalize y1.alloc (.cells #[.slice none 0 0] 56) = y2 at e2 b1 b2 z2 ⊢
 have e3 := e2.alloc e2.size (.cells #[.slice A l.length c] 22)
 have b3 : (y2.alloc (.cells #[.slice A l.length c] 22)).heap[w.heap.size + 2]? = some (.cells #[.slice A l.length c] 22 (0, 0)) := by rw [← z2]; exact World.alloc_heap_new y2 _
 replace b1 := b1.kept (World.grownBy_alloc y2 (.cells #[.slice A l.length c] 22) none) (by simp)
 replace b2 := b2.kept (World.grownBy_alloc y2 (.cells #[.slice A l.length c] 22) none) (by simp)
 have z3 : (y2.alloc (.cells #[.slice A l.length c] 22)).heap.size = w.heap.size + 2 + 1 := by simp [z2]
 generalize y2.alloc (.cells #[.slice A l.length c] 22) = y3 at e3 b1 b2 b3 z3 ⊢
 have e4 := e3.alloc e3.size (.cells #[.int .i64 16] 3)
 have b4 : (y3.alloc (.cells #[.int .i64 16] 3)).heap[w.heap.size + 2 + 1]? = some (.cells #[.int .i64 16] 3 (0, 0)) := by rw [← z3]; exact World.alloc_heap_new y3 _
 replace b1 := b1.kept (World.grownBy_alloc y3 (.cells #[.int .i64 16] 3) none) (by simp)
 replace b2 := b2.kept (World.grownBy_alloc y3 (.cells #[.int .i64 16] 3) none) (by simp)
 replace b3 := (Below.heap_alloc y3 (.cells #[.int .i64 16] 3) (w.heap.size + 2) (by omega)).trans b3
 have z4 : (y3.alloc (.cells #[.int .i64 16] 3)).heap.size = w.heap.size + 4 := by simp [z3]
 generalize y3.alloc (.cells #[.int .i64 16] 3) = W2 at e4 b1 b2 b3 b4 z4 ⊢
 have hT : TI w l k [] W2 := ⟨_, [], b2, World.ownsRow_nil _ _ _ _, rfl, fun j hj => by simp at hj, b1, e4, fun q _ _ => by simp [Value.ownBlock], by omega⟩
 have HB4 := Lib.hid e4
 have H3 := Lib.hid b3
 have H4 := Lib.hid b4
 have HT0 := Lib.hid hT
 clear e1 e2 e3 e4 b1 b2 b3 b4 z1 z2 z3 hT
 gi_wp2
 refine wpIn_rangeFunc_ownH rfl (by omega) (gf := 58) (lb := #[.pointer (some ⟨w.heap.size + 2, 0, none⟩), .pointer (some ⟨w.heap.size + 2 + 1, 0, none⟩)]) rfl trivial (enters_of Try.func58 (by kernel_rfl) rfl)
  (chunk_stops 19 (by omega) (w.heap.size + 2) c A l w W2 HC.out hlc (by omega) (by omega) HB4.out H3.out H4.out) KpC.t (KpC.b (by omega) (by omega)) (Below.refl _ _) (fun _ => rfl)
  (TI w l k) (fun _ _ _ => False) (TI.own (by omega)) (fun _ _ _ _ _ hs _ _ => hs) HT0.out (AxT w A c l k) (fun _ _ _ _ _ _ hs _ _ => hs) ?assign ?body ?done ?stop
 case assign =>
  intro L pre x W3 K hI hK
  gi_wp2
  exact hK _ _ (KeepsFrom.refl _ _) ⟨Below.refl _ _, rfl, rfl⟩ hI rfl
 case body =>
  rintro L pre x a' W3 _ _ ⟨v, xs, hbx, hrow, hxl, hx, hbk, hbl, hn2, hsz⟩ rfl hpl
  obtain ⟨i0, hi, hz0, hz1, hz2⟩ := info_parts info22
  have hcv : chv A l.length x = .slice (A.map (fun ad => ad.add (x * 3))) (chk l x).length (chk l x).length := by unfold chv; rw [chk_len]
  have hCk := chk_C HC.out x
  have hrl : (chk l x).length ≤ 16 := by rw [chk_len]; omega
  rw [hcv]
  obtain ⟨row, hrw⟩ : ∃ row, row = chk l x := ⟨_, rfl⟩
  rw [← hrw] at hCk hrl ⊢
  have HRW := Lib.hid hrw
  clear hrw
  obtain ⟨A0, c0, rfl⟩ := own_shape hrow
  generalize A.map (fun ad => ad.add (x * 3)) = A' at hCk ⊢
  have p1 : W3.drew.cell? ⟨w.heap.size + 1, 0, none⟩ = some (.slice A0 pre.length c0) := hbx.cell
  have p2 : W3.drew.cell? ⟨w.heap.size, 0, none⟩ = some (.int .u64 k) := hbk.cell
  have hbz : Below w.heap.size w W3.drew := below_drew hbl
  have hpb : pre.length ≤ 1000 := by omega
  clear hcv
  gi_wp2
  refine InRound.startR_ (by kernel_rfl) (fun _ _ h => h) (m := 7) (S := fun w' => w'.cell? ⟨w.heap.size + 1, 0, none⟩ = some (.slice A0 pre.length c0) ∧ w'.cell? ⟨w.heap.size, 0, none⟩ = some (.int .u64 k)) (ds := [5, 6]) #[false,false,false,false,false,false,false] (by kernel_rfl) rfl rfl ⟨p1, p2⟩ (fun hHeld => ?_)
  refine pure_ (i := 1) (N := some 11) (v := ?_) (a' := ?_) #[false,true,false,false,false,false,false] rfl rfl (by kernel_rfl) (fun _ _ _ h => h) (Or.inl ⟨by rfl, ?_⟩) ?_ ?_
  rotate_left
  ·intro w'
   go_simp
   with_reducible rfl
  rotate_left
  ·simp only [Act.put, List.setIfInBounds_toArray, List.set_cons_zero, List.set_cons_succ, i64_w, i32_w]
   rfl
  refine take_ (i := 0) (N := some 10) (v := ?_) (a' := ?_) #[true,true,false,false,false,false,false] rfl rfl (by kernel_rfl) (fun _ _ _ h => h) (Or.inl ⟨by rfl, ?_⟩) hHeld ?_ ?_
  rotate_left
  ·rintro w' ⟨s0, s1⟩
   go_simp
   with_reducible rfl
  rotate_left
  ·simp only [Act.put, List.setIfInBounds_toArray, List.set_cons_zero, List.set_cons_succ, i64_w, i32_w]
   rfl
  refine take_ (i := 2) (N := some 12) (v := ?_) (a' := ?_) #[true,true,true,false,false,false,false] rfl rfl (by kernel_rfl) (fun _ _ _ h => h) (Or.inl ⟨by rfl, ?_⟩) hHeld ?_ ?_
  rotate_left
  ·rintro w' ⟨s0, s1⟩
   go_simp
   with_reducible rfl
  rotate_left
  ·simp only [Act.put, List.setIfInBounds_toArray, List.set_cons_zero, List.set_cons_succ, i64_w, i32_w]
   rfl
  refine one_ (i := 3) (N := some 13) #[true,true,true,true,false,false,false] rfl rfl (by kernel_rfl) (by decide) (fun K hK => ?_)
  refine goes_ Try.func32 (by kernel_rfl) rfl #[.slice A' row.length row.length, .int .u64 k] (by rfl) rfl rfl (by simp only [List.map_toArray, List.map_cons, List.map_nil]; rfl) ?_
  with_reducible refine (turned_ok A' row.length row k _ (Kd.C_below hCk hbz) hrl HK.out).mono ?_
  rintro e w5 ⟨u, rfl, hu, hb5⟩
  refine ⟨_, rfl, ?_⟩
  obtain ⟨A1, c1, rfl⟩ := Kd.R_slice hu
  have hb5w : Below W3.heap.size W3 w5 := below_step (below_drew1 (Below.refl W3.heap.size W3)) hb5
  have ho5 := own_below hrow hb5w
  obtain ⟨v6, w6, hrun, r1, r2, r3, r4⟩ := run_append_own_at (P := Try.prog) (w5.alloc (.cells #[.slice A1 (turn1 row k).length c1] 22)) w.heap.size 56 56 22 i0 _ 1 24 Try.underlying56 hi hz0 hz1 hz2 rfl (by decide) (.slice A0 pre.length c0) pre.length (xs.map sl) (ho5.alloc _) ⟨w5.heap.size, 0, none⟩ 1 1 [.slice A1 (turn1 row k).length c1] rfl (fun j u hj => by rw [add_plain, blk_cell (World.alloc_heap_new w5 _), ← Array.getElem?_toList]; exact hj) (fun u hu => by simp at hu; rw [hu]; rfl) (by unfold maxLen; omega) (by omega) (by have := (below_then hbl hbl.size hb5w).size; simp; omega)
  obtain ⟨g6, cap6, rfl, _, _⟩ := r1.form (by omega)
  refine hK.out _ _ ⟨(hb5.cell (World.block_lt_of_cell? _ _ p1)).trans p1, (hb5.cell (World.block_lt_of_cell? _ _ p2)).trans p2⟩ (fun hHeld => ?_)
  clear hK K
  refine norm_ (a' := ?_) ?_ ?_
  rotate_left
  ·show Act.put _ (some 13) _ = _
   simp only [Act.put, List.setIfInBounds_toArray, List.set_cons_zero, List.set_cons_succ, i64_w, i32_w]
   rfl
  refine one_ (i := 4) (N := some 14) #[true,true,true,true,true,false,false] rfl rfl (by kernel_rfl) (by decide) (fun K hK => ?_)
  refine value_ (w1 := ?_) (v := ?_) (by rfl) rfl ?_ ?_
  rotate_left 2
  ·go_simp
   constructor
   ·rfl
   ·rfl
  refine hK.out _ _ ⟨((below_alloc (Below.refl _ w5) (.cells #[.slice A1 (turn1 row k).length c1] 22)).cell (World.block_lt_of_cell? _ _ ((hb5.cell (World.block_lt_of_cell? _ _ p1)).trans p1))).trans ((hb5.cell (World.block_lt_of_cell? _ _ p1)).trans p1), ((below_alloc (Below.refl _ w5) (.cells #[.slice A1 (turn1 row k).length c1] 22)).cell (World.block_lt_of_cell? _ _ ((hb5.cell (World.block_lt_of_cell? _ _ p2)).trans p2))).trans ((hb5.cell (World.block_lt_of_cell? _ _ p2)).trans p2)⟩ (fun hHeld => ?_)
  clear hK K
  refine norm_ (a' := ?_) ?_ ?_
  rotate_left
  ·show Act.put _ (some 14) _ = _
   simp only [Act.put, List.setIfInBounds_toArray, List.set_cons_zero, List.set_cons_succ, i64_w, i32_w]
   rfl
  refine last_ (i := 5) (N := some 15) #[true,true,true,true,true,true,false] rfl rfl (by kernel_rfl) (by decide) (fun K hK => ?_)
  refine app_step (.tmp 10) (.tmp 14) (by rfl) rfl rfl rfl rfl rfl hrun ?_
  refine hK.out _ _ ?_
  clear hK K
  refine norm_ (a' := ?_) ?_ ?_
  rotate_left
  ·show Act.put _ (some 15) _ = _
   simp only [Act.put, List.setIfInBounds_toArray, List.set_cons_zero, List.set_cons_succ, i64_w, i32_w]
   rfl
  refine last_ (i := 6) (N := none) #[true,true,true,true,true,true,true] rfl rfl (by kernel_rfl) (by decide) (fun K hK => ?_)
  have bx6 := ((hbx.kept (gr_none hb5w) (by simp)).kept (World.grownBy_alloc w5 _ none) (by simp)).kept r2 (own_ne hrow hbx (by decide))
  have s0 := bx6.cell
  have f0 := bx6.frozen
  refine skip_ (w1 := ?_) (by rfl) rfl ?_ ?_
  rotate_left
  ·go_simp
   rfl
  refine hK.out _ _ ?_
  clear hK K
  refine done_ (by kernel_rfl) ?_
  have hg4 : W3.grownBy (w5.alloc (.cells #[.slice A1 (turn1 row k).length c1] 22)) none := World.grownBy.trans (gr_none hb5w) (World.grownBy_alloc w5 _ none)
  have hne : some (w.heap.size + 1) ≠ (Value.slice A0 pre.length c0).ownBlock := own_ne hrow hbx (by decide)
  have hne0 : some w.heap.size ≠ (Value.slice A0 pre.length c0).ownBlock := own_ne hrow hbk (by decide)
  have l3 := hbl.size
  have hlt3 := hbx.lt
  have hfin : Below w.heap.size W3 (w6.setCell ⟨w.heap.size + 1, 0, none⟩ (.slice (some ⟨g6, 0, none⟩) (pre.length + 1) cap6)) := (((Below.refl _ W3).grown hg4 l3 (fun k e => by cases e)).grown r2 (Nat.le_trans l3 hg4.size) (fun k e => own_base hrow k e)).setCell (p := ⟨w.heap.size + 1, 0, none⟩) (by simp) _
  have hkf : KeepsFrom W2.heap.size W3 (w6.setCell ⟨w.heap.size + 1, 0, none⟩ (.slice (some ⟨g6, 0, none⟩) (pre.length + 1) cap6)) := by
   refine ((KeepsOthers.of_grownBy hg4 fun j o ej hj => by cases ej).trans ((KeepsOthers.of_grownBy r2 fun j o ej hj => ?_).trans (KeepsOthers.setCell _ _ _))).from _
   obtain ⟨c', hc'⟩ := own_typed (ho5.alloc _) j ej
   rw [hc'] at hj
   cases hj
   rfl
  have hkc : ∀ q, q < W3.heap.size → some q ≠ (Value.slice A0 pre.length c0).ownBlock → q ≠ w.heap.size + 1 → (w6.setCell ⟨w.heap.size + 1, 0, none⟩ (.slice (some ⟨g6, 0, none⟩) (pre.length + 1) cap6)).heap[q]? = W3.heap[q]? := fun q hq hn1 hn2 => by
   rw [Below.heap_setCell _ _ _ _ hn2, r2.block q (Nat.lt_of_lt_of_le hq hg4.size) hn1]
   exact hg4.block q hq (by simp)
  refine ⟨hkf, ⟨hfin, hkc _ (by omega) (hn2 _ (by omega) (by omega)) (by omega), hkc _ (by omega) (hn2 _ (by omega) (by omega)) (by omega)⟩, ?_⟩
  have hr6 : ∀ q, some q ≠ (Value.slice A0 pre.length c0).ownBlock → q < w5.heap.size + 1 → some q ≠ (Value.slice (some ⟨g6, 0, none⟩) (pre.length + 1) cap6).ownBlock := fun q hq hl e => by
   rcases r4 with h4 | h4
   ·exact hq (by rw [e, h4])
   ·rw [h4] at e
    injection e with e
    simp at e
    omega
  have l5 : W3.heap.size ≤ w5.heap.size := hb5w.size
  have hset : w6.grownBy (w6.setCell ⟨w.heap.size + 1, 0, none⟩ (.slice (some ⟨g6, 0, none⟩) (pre.length + 1) cap6)) (some (w.heap.size + 1)) := grownBy_setCell' w6 _ _
  have hbx6 := (hbx.kept hg4 (by simp)).kept r2 hne
  refine ⟨_, xs ++ [(A1, (turn1 row k).length, c1)], hbx6.set _, ?_, by simp [hxl], fun j hj => ?_, ((hbk.kept hg4 (by simp)).kept r2 hne0).kept hset (by simp), hbl.trans hfin, fun q h1 h2 => hr6 _ (hn2 q h1 h2) (by omega), ?_⟩
  ·rw [List.length_append, List.length_singleton, List.map_append]
   exact r1.kept hset (.inr (fun e => hr6 _ hne (by omega) e.symm))
  ·have hkeep : ∀ {u : Value} {r : List S26}, Kd.R k26 26 (w5.alloc (.cells #[.slice A1 (turn1 row k).length c1] 22)) w.heap.size (fun _ => True) u r → Kd.R k26 26 (w6.setCell ⟨w.heap.size + 1, 0, none⟩ (.slice (some ⟨g6, 0, none⟩) (pre.length + 1) cap6)) w.heap.size (fun _ => True) u r := fun {u r} h => by
    refine R_keep26 (R_keep26 h r2 (fun q e cc f hh => ?_)) hset (fun q e cc f hh => ?_)
    ·obtain ⟨c', hc'⟩ := own_typed (ho5.alloc _) q e
     rw [hc'] at hh
     cases hh
    ·cases e
     rw [show w6.heap[w.heap.size + 1]? = _ from hbx6] at hh
     cases hh
   rw [List.length_append, List.length_singleton] at hj
   by_cases hjp : j < pre.length
   ·have h1 := hx j hjp
    have e1 : (xs ++ [(A1, (turn1 row k).length, c1)]).getD j default = xs.getD j default := by simp [List.getD, List.getElem?_append_left (show j < xs.length by omega)]
    have e2 : (pre ++ [x]).getD j 0 = pre.getD j 0 := by simp [List.getD, List.getElem?_append_left hjp]
    rw [e1, e2]
    exact hkeep (R_keep26 h1 hg4 (fun q e => by cases e))
   ·have hje : j = pre.length := by omega
    have e1 : (xs ++ [(A1, (turn1 row k).length, c1)]).getD j default = (A1, (turn1 row k).length, c1) := by rw [hje, ← hxl]; simp [List.getD]
    have e2 : (pre ++ [x]).getD j 0 = x := by rw [hje]; simp [List.getD]
    rw [e1, e2, ← HRW.out]
    exact hkeep (Kd.R_below (Kd.R_lower hu hbz.size) (below_alloc (Below.refl _ _) _))
  ·have := hg4.size
   have := r2.size
   simp
   omega
 case done =>
  rintro D ys W3 hD hys ⟨v, xs, hbx, hrow, hxl, hx, hbk, hbl, hn2, hsz⟩ hDk
  subst hys
  obtain ⟨A0, c0, rfl⟩ := own_shape hrow
  rw [← hxl] at hrow hbx
  have p1 := hbx.cell
  have p2 := hbk.cell
  have hsl : (starts l.length).length ≤ 60 := by rw [starts_len]; omega
  have hkk := HK.out
  have hx' : ∀ j, j < xs.length → Kd.R k26 26 W3 w.heap.size (fun _ => True) (sl (xs.getD j default)) (((starts l.length).map (fun i => turn1 (chk l i) k)).getD j []) := fun j hj => by
   have h1 := hx j (by omega)
   have e : ((starts l.length).map (fun i => turn1 (chk l i) k)).getD j [] = turn1 (chk l ((starts l.length).getD j 0)) k := by
    have : j < (starts l.length).length := by omega
    simp [List.getD, this]
   rw [e]; exact h1
  have hx60 : xs.length ≤ 60 := by omega
  have hrs : ((starts l.length).map (fun i => turn1 (chk l i) k)).length = xs.length := by rw [List.length_map]; omega
  have hr16 : ∀ r ∈ (starts l.length).map (fun i => turn1 (chk l i) k), r.length ≤ 16 := fun r hr => by
   obtain ⟨i, _, rfl⟩ := List.mem_map.1 hr
   exact turn1_le l i k
  have htl : turnl l k = (if k % 2 = 1 then ((starts l.length).map (fun i => turn1 (chk l i) k)).reverse else (starts l.length).map (fun i => turn1 (chk l i) k)).flatten := rfl
  generalize (starts l.length).map (fun i => turn1 (chk l i) k) = rs at hx' hrs hr16 htl
  have HX := Lib.hid hx'
  have HRS := Lib.hid hrs
  have H16 := Lib.hid hr16
  have HXL := Lib.hid hxl
  have HDK := Lib.hid hDk
  have HROW := Lib.hid hrow
  have HBX := Lib.hid hbx
  have hbl4 := hbl
  have hne : some (w.heap.size + 1) ≠ (Value.slice A0 xs.length c0).ownBlock := own_ne hrow hbx (by decide)
  clear hn2 hbx hx hx' hrs hr16 hxl hDk hrow hbk hbl
  by_cases hk2 : k % 2 = 1
  ·have hb1 : ((k : Int) % 2 == 1) = true := by rw [beq_iff_eq]; omega
   rw [if_pos hk2] at htl
   have HTL := Lib.hid htl
   clear htl hk2
   gi_wp2
   refine ⟨trivial, (callsIn_wide.2 (rev_ok w.heap.size _ xs W3 HROW.out (by omega))).mono ?_⟩
   rintro e W4 ⟨rfl, ho4, hg4⟩
   have p14 := (HBX.out.kept hg4 hne).cell
   have hbl5 := hbl4.grown hg4 hbl4.size (fun q e => own_base HROW.out q e)
   have hD4 : W4.heap[D]? = some (.deferred (some [])) := by
    refine (hg4.block D (Array.getElem?_eq_some_iff.1 HDK.out).1 (fun e => ?_)).trans HDK.out
    obtain ⟨cc, hcc⟩ := own_typed HROW.out D e.symm
    rw [HDK.out] at hcc
    cases hcc
   have hx4 : ∀ j, j < xs.reverse.length → Kd.R k26 26 W4 w.heap.size (fun _ => True) (sl (xs.reverse.getD j default)) (rs.reverse.getD j []) := fun j hj => by
    rw [List.length_reverse] at hj
    have h1 := HX.out (xs.length - 1 - j) (by omega)
    have e1 : xs.reverse.getD j default = xs.getD (xs.length - 1 - j) default := by simp [List.getD, List.getElem?_reverse hj]
    have e2 : rs.reverse.getD j [] = rs.getD (xs.length - 1 - j) [] := by
     have := HRS.out
     simp [List.getD, List.getElem?_reverse (show j < rs.length by omega), this]
    rw [e1, e2]
    refine R_keep26 h1 hg4 (fun q e cc f hh => ?_)
    obtain ⟨c', hc'⟩ := own_typed HROW.out q e
    rw [hc'] at hh
    cases hh
   have HO4 : Hid (W4.ownsRow w.heap.size 22 1 (.slice A0 xs.reverse.length c0) xs.reverse.length (xs.reverse.map sl)) := Lib.hid (by rw [List.length_reverse]; exact ho4)
   have HX4 := Lib.hid hx4
   replace hbl4 := hbl5
   clear p1 hbl5 hx4 ho4 hg4
   gi_wp2
   refine ⟨trivial, (callsIn_wide.2 (concat_rows A0 c0 w.heap.size xs.length xs.reverse (by rw [List.length_reverse]) rs.reverse W4 HO4.out HX4.out (by rw [List.length_reverse, List.length_reverse]; exact HRS.out) (fun r hr => H16.out r (List.mem_reverse.1 hr)) (by rw [List.length_reverse]; exact hx60))).mono ?_⟩
   rintro e W5 ⟨v5, rfl, hv5, hb5⟩
   have hv6 := R_own26 (Kd.R_lower hv5 (hbl4.size))
   have HV6 := Lib.hid hv6
   have HB5 := Lib.hid (below_then hbl4 hbl4.size hb5)
   have HD5 := Lib.hid ((hb5.block D (Array.getElem?_eq_some_iff.1 hD4).1).trans hD4)
   clear hv5 hb5 hv6 hbl4 hD4
   gi_wp2
   refine leaves_all (n₀ := w.heap.size) [D] W5 ⟨List.nodup_cons.2 ⟨(by simp), List.nodup_nil⟩, fun D' hD' => ?_⟩ (fun W' hb hc => ?_)
   ·rw [List.mem_singleton.1 hD']
    exact ⟨by omega, HD5.out⟩
   ·refine ⟨_, results_tmp rfl _ _ _, _, rfl, ?_, HB5.out.trans hb⟩
    rw [HTL.out]
    refine R_e3 (own_move HV6.out (fun q hq => ?_))
    obtain ⟨cc, hcc⟩ := own_typed HV6.out q hq
    rw [hc q _ _ _ hcc, hcc]
  ·have hb1 : ((k : Int) % 2 == 1) = false := by rw [beq_eq_false_iff_ne]; omega
   rw [if_neg hk2] at htl
   have HTL := Lib.hid htl
   have hD4 := HDK.out
   clear htl hk2
   gi_wp2
   refine ⟨trivial, (callsIn_wide.2 (concat_rows A0 c0 w.heap.size xs.length xs rfl rs W3 HROW.out HX.out HRS.out H16.out hx60)).mono ?_⟩
   rintro e W5 ⟨v5, rfl, hv5, hb5⟩
   have hv6 := R_own26 (Kd.R_lower hv5 (hbl4.size))
   have HV6 := Lib.hid hv6
   have HB5 := Lib.hid (below_then hbl4 hbl4.size hb5)
   have HD5 := Lib.hid ((hb5.block D (Array.getElem?_eq_some_iff.1 hD4).1).trans hD4)
   clear hv5 hb5 hv6 hbl4 hD4
   gi_wp2
   refine leaves_all (n₀ := w.heap.size) [D] W5 ⟨List.nodup_cons.2 ⟨(by simp), List.nodup_nil⟩, fun D' hD' => ?_⟩ (fun W' hb hc => ?_)
   ·rw [List.mem_singleton.1 hD']
    exact ⟨by omega, HD5.out⟩
   ·refine ⟨_, results_tmp rfl _ _ _, _, rfl, ?_, HB5.out.trans hb⟩
    rw [HTL.out]
    refine R_e3 (own_move HV6.out (fun q hq => ?_))
    obtain ⟨cc, hcc⟩ := own_typed HV6.out q hq
    rw [hc q _ _ _ hcc, hcc]
 case stop =>
  rintro D c pre W3 _ _ h _
  exact h.elim
def mail_Turned.f (l : List S26) (k : Int) : Option (List S26) := if l.length ≤ 900 ∧ 0 ≤ k ∧ k ≤ 18446744073709551615 then some (turnl l k.toNat) else none
theorem mail_Turned.calls (A0 : Option Addr) (c0 : Nat) (l0 : List S26) (a1 : Int) (r : List S26) (w : World) (hr0 : Kd.C k26 w A0 l0.length l0) (hc0 : l0.length ≤ c0) (h : mail_Turned.f l0 a1 = some r) :
  Calls Try.prog 10 #[.slice A0 l0.length c0, .int .u64 a1] w fun e w' => ∃ v0_ : Value, e = .returned v0_ ∧ Kd.R k26 26 w' w.heap.size (fun _ => True) v0_ r ∧ Below w.heap.size w w' := by
 unfold mail_Turned.f at h
 split at h
 ·rename_i hh
  injection h with h
  subst h
  obtain ⟨n, rfl⟩ := Int.eq_ofNat_of_zero_le hh.2.1
  exact turnedAll_ok A0 c0 l0 n w hr0 hc0 hh.1 hh.2.2
 ·cases h
end Go.Proofs.Ythmenclkgngkkaa.M
end
