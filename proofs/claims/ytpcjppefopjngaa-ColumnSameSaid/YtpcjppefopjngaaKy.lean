/- Sh, SortK, Ko, MpRange, Kv -/
import Derived.Shelf.SlSortCmp.NoneTotal
import Derived.Shelf.Small.Bits
import Derived.Ground.SlsfProg
import Derived.Ground.NamesProg
import Derived.Test.YtpcjppefopjngaaProg
import Derived.Test.YtpcjppefopjngaaWWords
import Derived.Shelf.GgSortFunc.InsertionK
import Derived.Lib.OwnBridge
import Derived.Test.YtpcjppefopjngaaKz
import Derived.Laws.Cover1
import Derived.Test.YtpcjppefopjngaaMp
import Derived.Maps.RangeWalk
import Derived.Maps.AppendAt
import Derived.RangeFuncBox
import Derived.RangeFuncNested
import Derived.RangeFuncBound
import Derived.RangeFuncCalls
import Derived.RangeFuncLeaves
import Derived.Shelf.Abstract
import Derived.Shelf.RegionOpen
import Derived.OwnWalkIn
import Derived.TacticsInMore
import Derived.LoopNIn
import Derived.LoopIn
import Derived.Sort.QuietIn
import Derived.Sort.LoopGhostIn
import Derived.Sort.MapsRangeIn
section
/- The shelf's contracts, laid over this program. -/
namespace Go.Proofs
open Go.Shelf
def Try.sortF_ren : Go.Shelf.Ren := ⟨fun | 6 => 59 | 15 => 74 | 14 => 73 | 28 => 86 | 29 => 87 | 20 => 78 | 21 => 79 | 22 => 80 | 23 => 81 | 24 => 82 | 25 => 83 | 26 => 84 | 27 => 85 | 46 => 88 | 47 => 89 | 48 => 90 | 49 => 91 | 50 => 92 | 57 => 93 | n => n, fun | 22 => 40 | 24 => 25 | 25 => 94 | 3 => 3 | 39 => 124 | 0 => 0 | 53 => 136 | 55 => 115 | 4 => 4 | 46 => 129 | 45 => 128 | 50 => 133 | 5 => 5 | 9 => 9 | 66 => 138 | 70 => 142 | 76 => 144 | 77 => 145 | n => n, fun | n => n⟩
theorem Try.sortF : Go.Proofs.SlLaysF0.n6 Try.prog Try.sortF_ren := {
 mixed := by kernel_rfl
 f6 := ⟨Try.f59.name, by decide, Try.func59.trans (congrArg some (by kernel_rfl))⟩
 f14 := ⟨Try.f73.name, by decide, Try.func73.trans (congrArg some (by kernel_rfl))⟩
 f15 := Try.func74.trans (congrArg some (by kernel_rfl))
 f20 := ⟨Try.f78.name, by decide, Try.func78.trans (congrArg some (by kernel_rfl))⟩
 f21 := ⟨Try.f79.name, by decide, Try.func79.trans (congrArg some (by kernel_rfl))⟩
 f22 := ⟨Try.f80.name, by decide, Try.func80.trans (congrArg some (by kernel_rfl))⟩
 f23 := ⟨Try.f81.name, by decide, Try.func81.trans (congrArg some (by kernel_rfl))⟩
 f24 := ⟨Try.f82.name, by decide, Try.func82.trans (congrArg some (by kernel_rfl))⟩
 f25 := ⟨Try.f83.name, by decide, Try.func83.trans (congrArg some (by kernel_rfl))⟩
 f26 := ⟨Try.f84.name, by decide, Try.func84.trans (congrArg some (by kernel_rfl))⟩
 f27 := ⟨Try.f85.name, by decide, Try.func85.trans (congrArg some (by kernel_rfl))⟩
 f28 := Try.func86.trans (congrArg some (by kernel_rfl))
 f29 := Try.func87.trans (congrArg some (by kernel_rfl))
 f46 := ⟨Try.f88.name, by decide, Try.func88.trans (congrArg some (by kernel_rfl))⟩
 f47 := Try.func89.trans (congrArg some (by kernel_rfl))
 f48 := Try.func90.trans (congrArg some (by kernel_rfl))
 f49 := ⟨Try.f91.name, by decide, Try.func91.trans (congrArg some (by kernel_rfl))⟩
 f50 := ⟨Try.f92.name, by decide, Try.func92.trans (congrArg some (by kernel_rfl))⟩
 f57 := ⟨Try.f93.name, by decide, Try.func93.trans (congrArg some (by kernel_rfl))⟩
 t0 := Try.underlying0
 a0 := Try.isAgg0
 z0 := Try.sizeOf0
 v0 := Try.zeroValue0
 t3 := Try.underlying3
 a3 := Try.isAgg3
 z3 := Try.sizeOf3
 v3 := Try.zeroValue3
 t4 := Try.underlying4
 a4 := Try.isAgg4
 z4 := Try.sizeOf4
 v4 := Try.zeroValue4
 t5 := Try.underlying5
 a5 := Try.isAgg5
 z5 := Try.sizeOf5
 v5 := Try.zeroValue5
 t9 := Try.underlying9
 a9 := Try.isAgg9
 z9 := Try.sizeOf9
 v9 := Try.zeroValue9
 t22 := Try.underlying40
 a22 := Try.isAgg40
 z22 := Try.sizeOf40
 v22 := Try.zeroValue40
 t25 := Try.underlying94
 a25 := Try.isAgg94
 z25 := Try.sizeOf94
 v25 := Try.zeroValue94
 t39 := Try.underlying124
 a39 := Try.isAgg124
 z39 := Try.sizeOf124
 v39 := Try.zeroValue124
 t45 := Try.underlying128
 a45 := Try.isAgg128
 z45 := Try.sizeOf128
 v45 := Try.zeroValue128
 t46 := Try.underlying129
 a46 := Try.isAgg129
 z46 := Try.sizeOf129
 v46 := Try.zeroValue129
 t50 := Try.underlying133
 a50 := Try.isAgg133
 z50 := Try.sizeOf133
 v50 := Try.zeroValue133
 t53 := Try.underlying136
 a53 := Try.isAgg136
 z53 := Try.sizeOf136
 v53 := Try.zeroValue136
 t55 := Try.underlying115
 a55 := Try.isAgg115
 z55 := Try.sizeOf115
 v55 := Try.zeroValue115
 t66 := Try.underlying138
 a66 := Try.isAgg138
 z66 := Try.sizeOf138
 v66 := Try.zeroValue138
 t70 := Try.underlying142
 a70 := Try.isAgg142
 z70 := Try.sizeOf142
 v70 := Try.zeroValue142
 t76 := Try.underlying144
 a76 := Try.isAgg144
 z76 := Try.sizeOf144
 v76 := Try.zeroValue144
 t77 := Try.underlying145
 a77 := Try.isAgg145
 z77 := Try.sizeOf145
 v77 := Try.zeroValue145 }
end Go.Proofs
end
section
/- A row of one's own and the sort's words on rows of elements of k cells: down and up. -/
set_option linter.unusedSimpArgs false
set_option linter.unusedVariables false
namespace Go.Proofs.Ytpcjppefopjngaa.Sk
open Go.RowKit Go.Sort Go.Proofs.YtpcjppefopjngaaW.PrintWords
variable {α : Type} [Inhabited α] {enc : α → List Value} {k : Nat}

omit [Inhabited α] in
theorem fm_len (hk : ∀ x, (enc x).length = k) : ∀ xs : List α, (xs.flatMap enc).length = xs.length * k
 | [] => by simp
 | x :: xs => by rw [List.flatMap_cons, List.length_append, fm_len hk xs, hk, List.length_cons, Nat.add_mul, Nat.one_mul, Nat.add_comm]
omit [Inhabited α] in
theorem fm_get (hk : ∀ x, (enc x).length = k) (k0 : 0 < k) : ∀ (xs : List α) (t : Nat) (h : t / k < xs.length), (xs.flatMap enc)[t]? = (enc xs[t / k])[t % k]?
 | [], t, h => by simp at h
 | x :: xs, t, h => by
  rw [List.flatMap_cons]
  rcases Nat.lt_or_ge t k with q | q
  ·rw [List.getElem?_append_left (by rw [hk]; exact q)]
   have e1 : t / k = 0 := Nat.div_eq_of_lt q
   have e2 : t % k = t := Nat.mod_eq_of_lt q
   simp only [e1, e2, List.getElem_cons_zero]
  ·obtain ⟨u, rfl⟩ : ∃ u, t = u + k := ⟨t - k, by omega⟩
   rw [List.getElem?_append_right (by rw [hk]; omega), hk, Nat.add_sub_cancel]
   have e1 : (u + k) / k = u / k + 1 := Nat.add_div_right u k0
   have e2 : (u + k) % k = u % k := Nat.add_mod_right u k
   simp only [e1] at h
   simp only [e1, e2, List.getElem_cons_succ]
   exact fm_get hk k0 xs u (by simpa using h)
theorem flat_eq (hk : ∀ x, (enc x).length = k) (k0 : 0 < k) (xs : List α) : (flatK enc k xs.toArray).toList = xs.flatMap enc := by
 apply List.ext_getElem?
 intro t
 by_cases h : t < xs.length * k
 ·have hd : t / k < xs.length := by rw [Nat.div_lt_iff_lt_mul k0]; exact h
  rw [fm_get hk k0 xs t hd]
  unfold flatK
  rw [Array.getElem?_toList, Array.getElem?_map]
  have : (Array.range (xs.toArray.size * k))[t]? = some t := by simp [h]
  rw [this]
  have hm : t % k < (enc xs[t / k]).length := by rw [hk]; exact Nat.mod_lt _ k0
  simp [getElem!_pos, hd, hm]
 ·rw [List.getElem?_eq_none (by simp; omega), List.getElem?_eq_none (by rw [fm_len hk]; omega)]
theorem own_holds {w : World} {base e g n cap : Nat} {xs : List α} (hk : ∀ x, (enc x).length = k) (k0 : 0 < k) (hx : xs.length = n) (h : w.ownsRow base e k (.slice (some ⟨g, 0, none⟩) n cap) n (xs.flatMap enc)) : HoldsK enc k w g 0 xs.toArray := by
 rcases h.2 with ⟨e0, _⟩ | ⟨g', cap', cur, e0, hb, hg, hn, hm, hs, ht⟩
 ·cases e0
 ·injection e0 with e1 _ e3
  injection e1 with e1
  injection e1 with e1
  subst e1; subst e3
  intro j hj
  have hj' : j < xs.length * k := by simpa using hj
  have hf := flat_eq hk k0 xs
  have hc : cur[j]? = (xs.flatMap enc)[j]? := by
   rw [← ht, List.getElem?_take, if_pos (by rw [← hx]; exact hj'), Array.getElem?_toList]
  have hF : (flatK enc k xs.toArray)[j]? = (xs.flatMap enc)[j]? := by rw [← hf, Array.getElem?_toList]
  refine ⟨?_, by simp [World.frozen?, hg]⟩
  rw [Nat.zero_add, blk_cell hg, hc, ← hF, Array.getElem?_eq_getElem hj, getElem!_pos _ j hj]
  rfl
theorem sortW_own {w : World} {base e g n cap m : Nat} {os : Array Obj} {xs ys : List α} (hk : ∀ x, (enc x).length = k) (k0 : 0 < k) (hx : xs.length = n) (hy : ys.length = n) (h : w.ownsRow base e k (.slice (some ⟨g, 0, none⟩) n cap) n (xs.flatMap enc)) :
  (sortWorldK enc k w g 0 m ys.toArray os).ownsRow base e k (.slice (some ⟨g, 0, none⟩) n cap) n (ys.flatMap enc) ∧ w.grownBy (sortWorldK enc k w g 0 m ys.toArray os) (some g) := by
 rcases h.2 with ⟨e0, _⟩ | ⟨g', cap', cur, e0, hb, hg, hn, hm, hs, ht⟩
 ·cases e0
 ·injection e0 with e1 _ e3
  injection e1 with e1
  injection e1 with e1
  subst e1; subst e3
  have hgl : g < w.heap.size := (Array.getElem?_eq_some_iff.1 hg).1
  have hpz : (putRowK enc k (Sort.ahead w m) g 0 ys.toArray).heap.size = w.heap.size := by simp [putRowK, putRow, mapBlock, Sort.ahead]
  have hblk : ∀ i, i < w.heap.size → (sortWorldK enc k w g 0 m ys.toArray os).heap[i]? = (putRowK enc k (Sort.ahead w m) g 0 ys.toArray).heap[i]? := fun i hi => by
   show ((putRowK enc k (Sort.ahead w m) g 0 ys.toArray).heap ++ os)[i]? = _
   rw [Array.getElem?_append_left (by rw [hpz]; exact hi)]
  refine ⟨⟨by rw [fm_len hk, hy], .inr ⟨g, cap, putCells id 0 (flatK enc k ys.toArray) cur, rfl, hb, ?_, hn, hm, by simpa [putCells] using hs, ?_⟩⟩, ⟨rfl, rfl, rfl, ?_, fun i hi hne => ?_⟩⟩
  ·rw [hblk g hgl]
   simp [putRowK, putRow, mapBlock, Sort.ahead, Array.getElem?_modify, hg, onCells]
  ·apply List.ext_getElem?
   intro j
   rw [List.getElem?_take, Array.getElem?_toList]
   by_cases hj : j < n * k
   ·have hjc : j < cur.size := by rw [hs]; exact Nat.lt_of_lt_of_le hj (Nat.mul_le_mul_right _ hn)
    have hjF : j < (flatK enc k ys.toArray).size := by rw [size_flatK]; simpa [hy] using hj
    rw [if_pos hj, ← flat_eq hk k0 ys, Array.getElem?_toList, Array.getElem?_eq_getElem hjF]
    simp only [putCells, Array.getElem?_mapIdx, Array.getElem?_eq_getElem hjc, Option.map_some]
    rw [if_pos (by omega), Nat.sub_zero, getElem!_pos _ j hjF]
    rfl
   ·rw [if_neg hj, List.getElem?_eq_none (by rw [fm_len hk, hy]; omega)]
  ·show w.heap.size ≤ ((putRowK enc k (Sort.ahead w m) g 0 ys.toArray).heap ++ os).size
   rw [Array.size_append, hpz]; omega
  ·rw [hblk i hi]
   have : i ≠ g := fun e => hne (by rw [e])
   simp [putRowK, putRow, mapBlock, Sort.ahead, Array.getElem?_modify, this.symm]
omit [Inhabited α] in
/-- A row whose elements are told by their cells alone. -/
theorem reps_fm {R : α → List Value → Prop} (hk : ∀ x, (enc x).length = k) (hR : ∀ x, R x (enc x)) : ∀ xs : List α, Reps R k xs (xs.flatMap enc)
 | [] => Reps.none _ _
 | x :: xs => by
  have h1 : Reps R k [x] (enc x) := by
   have := (Reps.none R k).snoc (p := x) (c := enc x) (hR x) (hk x)
   simpa using this
  exact Kd.reps_append h1 (reps_fm hk hR xs)
omit [Inhabited α] in
theorem fm_of_reps {R : α → List Value → Prop} (hk : ∀ x, (enc x).length = k) (k0 : 0 < k) (hR : ∀ x c, R x c → c = enc x) {xs : List α} {cs : List Value} (h : Reps R k xs cs) : cs = xs.flatMap enc := by
 apply List.ext_getElem?
 intro t
 by_cases ht : t < xs.length * k
 ·have hd : t / k < xs.length := by rw [Nat.div_lt_iff_lt_mul k0]; exact ht
  have h2 := hR _ _ (h.2 (t / k) _ (List.getElem?_eq_getElem hd))
  rw [fm_get hk k0 xs t hd, ← h2, List.getElem?_take, if_pos (Nat.mod_lt _ k0), List.getElem?_drop, Nat.mul_comm, Nat.div_add_mod]
 ·rw [List.getElem?_eq_none (by rw [h.1]; omega), List.getElem?_eq_none (by rw [fm_len hk]; omega)]
end Go.Proofs.Ytpcjppefopjngaa.Sk
end
section
/- Keys: cmp.Compare of strings, order, the sort. -/
set_option linter.unusedSimpArgs false
set_option linter.unusedVariables false
namespace Go.Proofs.Ytpcjppefopjngaa.C
open Go.RowKit Go.Sort Go.Shelf Go.Proofs.Ytpcjppefopjngaa.PA Go.Proofs.Ytpcjppefopjngaa.Sk Go.Proofs.YtpcjppefopjngaaW.PrintWords Go.Proofs.YtpcjppefopjngaaW.PrintMore Go.Proofs.YtpcjppefopjngaaW.PrintLast
/-- Draws, and blocks behind. -/
def Gw (w w' : World) : Prop := ∃ q os', w' = grow (w.drewN q) os'
theorem Gw.alloc {w w' : World} (h : Gw w w') (o : Obj) : Gw w (w'.alloc o) := by
 obtain ⟨q, os, rfl⟩ := h
 exact ⟨q, os.push o, by rw [alloc_eq_grow, grow_grow]; rfl⟩
theorem Gw.drewN {w w' : World} (h : Gw w w') (n : Nat) : Gw w (w'.drewN n) := by
 obtain ⟨q, os, rfl⟩ := h
 exact ⟨q + n, os, by rw [← World.drewN_drewN]; rfl⟩
theorem Gw.refl (w : World) : Gw w w := ⟨0, #[], by simp [grow, World.drewN]⟩
def cmpi (a b : Int) : Int := if a < b then -1 else if a > b then 1 else 0
theorem cmpu_f (a b : Int) : api_Side_62.f a b = some (cmpi a b) := by
 unfold api_Side_62.f api_Side_75.f cmpi
 simp
 by_cases h1 : a < b
 ·simp [h1]
 ·by_cases h2 : b < a <;> simp [h1, h2]
def cmps (a b : ByteArray) : Int := if a.toList < b.toList then -1 else if b.toList < a.toList then 1 else 0
theorem lgt (a b : List UInt8) (h : ¬ a < b) : (!(Op.bytesLess a b || a == b)) = decide (b < a) := by
 have e : Op.bytesLess a b = false := by rw [bytesLess_eq]; exact decide_eq_false h
 rw [e, Bool.false_or]
 by_cases q : a = b
 ·subst q
  simp [List.lt_irrefl]
 ·rw [show (a == b) = false by simpa using q]
  have : b < a := (Std.lt_of_le_of_ne (List.not_lt.1 h) (fun e => q e.symm))
  simp [this]
theorem isnan (a : ByteArray) : cmp_isNaN_string.f a = some false := by simp [cmp_isNaN_string.f]
set_option maxRecDepth 100000 in
set_option maxHeartbeats 4000000 in
theorem cmps_ok (a b : ByteArray) (w : World) : Calls Try.prog 63 #[.string a, .string b] w fun e w' => e = .returned (.int .i64 (cmps a b)) ∧ Drawn0 w w' := by
 unfold cmps
 by_cases h1 : a.toList < b.toList
 ·rw [if_pos h1]
  have d1 : Op.bytesLess a.toList b.toList = true := by rw [bytesLess_eq]; exact decide_eq_true h1
  clear h1
  go_enter Try.func63, Try.ntmps63
  go_wp2_with fail
  refine (cmp_isNaN_string.calls a false _ (isnan a)).mono ?_
  rintro e w1 ⟨rfl, ⟨n1, rfl⟩⟩
  go_wp2_with fail
  refine (cmp_isNaN_string.calls b false _ (isnan b)).mono ?_
  rintro e w1 ⟨rfl, ⟨n2, rfl⟩⟩
  go_wp2_with fail
  go_ret
  exact ⟨rfl, by repeat (first | exact Drawn0.refl _ | apply Drawn0.step)⟩
 ·rw [if_neg h1]
  have d1 : Op.bytesLess a.toList b.toList = false := by rw [bytesLess_eq]; exact decide_eq_false h1
  by_cases h2 : b.toList < a.toList
  ·rw [if_pos h2]
   have d2 : (a.toList == b.toList) = false := beq_eq_false_iff_ne.2 fun e => by rw [e] at h2; exact List.lt_irrefl _ h2
   clear h1 h2
   go_enter Try.func63, Try.ntmps63
   go_wp2_with fail
   refine (cmp_isNaN_string.calls a false _ (isnan a)).mono ?_
   rintro e w1 ⟨rfl, ⟨n1, rfl⟩⟩
   go_wp2_with fail
   refine (cmp_isNaN_string.calls b false _ (isnan b)).mono ?_
   rintro e w1 ⟨rfl, ⟨n2, rfl⟩⟩
   go_wp2_with fail
   go_ret
   exact ⟨rfl, by repeat (first | exact Drawn0.refl _ | apply Drawn0.step)⟩
  ·rw [if_neg h2]
   have d2 : (a.toList == b.toList) = true := beq_iff_eq.2 (List.le_antisymm (List.not_lt.1 h2) (List.not_lt.1 h1))
   clear h1 h2
   go_enter Try.func63, Try.ntmps63
   go_wp2_with fail
   refine (cmp_isNaN_string.calls a false _ (isnan a)).mono ?_
   rintro e w1 ⟨rfl, ⟨n1, rfl⟩⟩
   go_wp2_with fail
   refine (cmp_isNaN_string.calls b false _ (isnan b)).mono ?_
   rintro e w1 ⟨rfl, ⟨n2, rfl⟩⟩
   go_wp2_with fail
   go_ret
   exact ⟨rfl, by repeat (first | exact Drawn0.refl _ | apply Drawn0.step)⟩
/-- How keys come. -/
def oc (x y : S25) : Int := if cmpi x.f1 y.f1 ≠ 0 then cmpi x.f1 y.f1 else cmps x.f0 y.f0
theorem or_f (x y : S25) : cmp_Or_int.f 10 [cmpi x.f1 y.f1, cmps x.f0 y.f0] = some (oc x y) := by
 have e : ∀ (a b : Int), cmp_Or_int.f 10 [a, b] = some (if a ≠ 0 then a else b) := by
  intro a b
  by_cases ha : a = 0
  ·by_cases hb : b = 0
   ·simp [cmp_Or_int.f, cmp_Or_int.l0, Go.Proofs.YtpcjppefopjngaaW.PrintWords.rd, ha, hb, wrap64]
   ·simp [cmp_Or_int.f, cmp_Or_int.l0, Go.Proofs.YtpcjppefopjngaaW.PrintWords.rd, ha, hb, wrap64]
  ·simp [cmp_Or_int.f, cmp_Or_int.l0, Go.Proofs.YtpcjppefopjngaaW.PrintWords.rd, ha]
 exact e _ _
theorem arr_int {w : World} {b t : Nat} {l : List Int} (h : w.heap[b]? = some (.cells (l.map (Value.int .i64)).toArray t (0, 0))) (hl : l.length ≤ maxLen) : Kd.C (Kd.int .i64) w (some ⟨b, 0, none⟩) l.length l := by
 refine ⟨rfl, by unfold maxLen at hl; omega, fun _ => ⟨_, rfl, fun j p hj => ?_⟩⟩
 refine ⟨[.int .i64 p], rfl, rfl, fun i u hu => ?_⟩
 obtain rfl : i = 0 := by
  have := (List.getElem?_eq_some_iff.1 hu).1
  simp at this; omega
 rw [add_plain, blk_cell h]
 simp at hu
 subst hu
 have e1 : j * (Kd.int .i64).sz = j := by show j * 1 = j; omega
 simp [e1, hj]
set_option maxRecDepth 100000 in
set_option maxHeartbeats 4000000 in
theorem order_ok (x y : S25) (w : World) : Calls Try.prog 46 #[.agg #[.string x.f0, .int .u8 x.f1], .agg #[.string y.f0, .int .u8 y.f1]] w fun e w' => e = .returned (.int .i64 (oc x y)) ∧ Gw w w' := by
 go_enter Try.func46, Try.ntmps46
 go_wp2_with fail
 have hG : Gw w ((w.alloc (.cells #[.string x.f0, .int .u8 x.f1] 25)).alloc (.cells #[.string y.f0, .int .u8 y.f1] 25)) := ((Gw.refl w).alloc _).alloc _
 have ha : ((w.alloc (.cells #[.string x.f0, .int .u8 x.f1] 25)).alloc (.cells #[.string y.f0, .int .u8 y.f1] 25)).heap[w.heap.size]? = some (.cells #[.string x.f0, .int .u8 x.f1] 25 (0, 0)) := by
  rw [Below.heap_alloc _ _ _ (by simp)]
  exact heap_alloc_new _ _
 have hb : ((w.alloc (.cells #[.string x.f0, .int .u8 x.f1] 25)).alloc (.cells #[.string y.f0, .int .u8 y.f1] 25)).heap[w.heap.size + 1]? = some (.cells #[.string y.f0, .int .u8 y.f1] 25 (0, 0)) := by
  have := heap_alloc_new (w.alloc (.cells #[.string x.f0, .int .u8 x.f1] 25)) (.cells #[.string y.f0, .int .u8 y.f1] 25)
  rw [World.size_alloc] at this
  exact this
 generalize (w.alloc (.cells #[.string x.f0, .int .u8 x.f1] 25)).alloc (.cells #[.string y.f0, .int .u8 y.f1] 25) = w1 at hG ha hb ⊢
 have p0 : w1.cell? ⟨w.heap.size, 0, none⟩ = some (.string x.f0) := by rw [blk_cell ha]; rfl
 have p1 : w1.cell? ⟨w.heap.size, 1, none⟩ = some (.int .u8 x.f1) := by rw [blk_cell ha]; rfl
 have p2 : w1.cell? ⟨w.heap.size + 1, 0, none⟩ = some (.string y.f0) := by rw [blk_cell hb]; rfl
 have p3 : w1.cell? ⟨w.heap.size + 1, 1, none⟩ = some (.int .u8 y.f1) := by rw [blk_cell hb]; rfl
 clear ha hb
 refine start_ (n := 13) (S := fun w' => w'.cell? ⟨w.heap.size, 0, none⟩ = some (.string x.f0) ∧ w'.cell? ⟨w.heap.size, 1, none⟩ = some (.int .u8 x.f1) ∧ w'.cell? ⟨w.heap.size + 1, 0, none⟩ = some (.string y.f0) ∧ w'.cell? ⟨w.heap.size + 1, 1, none⟩ = some (.int .u8 y.f1)) (ds := [10, 11]) #[false,false,false,false,false,false,false,false,false,false,false,false,false] (by kernel_rfl) rfl rfl ⟨p0, p1, p2, p3⟩ (fun hHeld => ?_)
 refine pure_ (i := 0) (N := some 5) (v := ?_) (a' := ?_) #[true,false,false,false,false,false,false,false,false,false,false,false,false] rfl rfl (by kernel_rfl) (fun _ _ _ h => h) (Or.inl ⟨by rfl, ?_⟩) ?_ ?_
 rotate_left
 ·intro w'
  go_simp
  with_reducible rfl
 rotate_left
 ·simp only [Act.put, List.setIfInBounds_toArray, List.set_cons_zero, List.set_cons_succ, i64_w, i32_w]
  rfl
 refine pure_ (i := 2) (N := some 7) (v := ?_) (a' := ?_) #[true,false,true,false,false,false,false,false,false,false,false,false,false] rfl rfl (by kernel_rfl) (fun _ _ _ h => h) (Or.inl ⟨by rfl, ?_⟩) ?_ ?_
 rotate_left
 ·intro w'
  go_simp
  with_reducible rfl
 rotate_left
 ·simp only [Act.put, List.setIfInBounds_toArray, List.set_cons_zero, List.set_cons_succ, i64_w, i32_w]
  rfl
 refine pure_ (i := 5) (N := some 10) (v := ?_) (a' := ?_) #[true,false,true,false,false,true,false,false,false,false,false,false,false] rfl rfl (by kernel_rfl) (fun _ _ _ h => h) (Or.inl ⟨by rfl, ?_⟩) ?_ ?_
 rotate_left
 ·intro w'
  go_simp
  with_reducible rfl
 rotate_left
 ·simp only [Act.put, List.setIfInBounds_toArray, List.set_cons_zero, List.set_cons_succ, i64_w, i32_w]
  rfl
 refine pure_ (i := 7) (N := some 12) (v := ?_) (a' := ?_) #[true,false,true,false,false,true,false,true,false,false,false,false,false] rfl rfl (by kernel_rfl) (fun _ _ _ h => h) (Or.inl ⟨by rfl, ?_⟩) ?_ ?_
 rotate_left
 ·intro w'
  go_simp
  with_reducible rfl
 rotate_left
 ·simp only [Act.put, List.setIfInBounds_toArray, List.set_cons_zero, List.set_cons_succ, i64_w, i32_w]
  rfl
 refine take_ (i := 1) (N := some 6) (v := ?_) (a' := ?_) #[true,true,true,false,false,true,false,true,false,false,false,false,false] rfl rfl (by kernel_rfl) (fun _ _ _ h => h) (Or.inl ⟨by rfl, ?_⟩) hHeld ?_ ?_
 rotate_left
 ·rintro w' ⟨s0, s1, s2, s3⟩
  go_simp
  with_reducible rfl
 rotate_left
 ·simp only [Act.put, List.setIfInBounds_toArray, List.set_cons_zero, List.set_cons_succ, i64_w, i32_w]
  rfl
 refine take_ (i := 3) (N := some 8) (v := ?_) (a' := ?_) #[true,true,true,true,false,true,false,true,false,false,false,false,false] rfl rfl (by kernel_rfl) (fun _ _ _ h => h) (Or.inl ⟨by rfl, ?_⟩) hHeld ?_ ?_
 rotate_left
 ·rintro w' ⟨s0, s1, s2, s3⟩
  go_simp
  with_reducible rfl
 rotate_left
 ·simp only [Act.put, List.setIfInBounds_toArray, List.set_cons_zero, List.set_cons_succ, i64_w, i32_w]
  rfl
 refine take_ (i := 6) (N := some 11) (v := ?_) (a' := ?_) #[true,true,true,true,false,true,true,true,false,false,false,false,false] rfl rfl (by kernel_rfl) (fun _ _ _ h => h) (Or.inl ⟨by rfl, ?_⟩) hHeld ?_ ?_
 rotate_left
 ·rintro w' ⟨s0, s1, s2, s3⟩
  go_simp
  with_reducible rfl
 rotate_left
 ·simp only [Act.put, List.setIfInBounds_toArray, List.set_cons_zero, List.set_cons_succ, i64_w, i32_w]
  rfl
 refine take_ (i := 8) (N := some 13) (v := ?_) (a' := ?_) #[true,true,true,true,false,true,true,true,true,false,false,false,false] rfl rfl (by kernel_rfl) (fun _ _ _ h => h) (Or.inl ⟨by rfl, ?_⟩) hHeld ?_ ?_
 rotate_left
 ·rintro w' ⟨s0, s1, s2, s3⟩
  go_simp
  with_reducible rfl
 rotate_left
 ·simp only [Act.put, List.setIfInBounds_toArray, List.set_cons_zero, List.set_cons_succ, i64_w, i32_w]
  rfl
 refine one_ (i := 4) (N := some 9) #[true,true,true,true,true,true,true,true,true,false,false,false,false] rfl rfl (by kernel_rfl) (by decide) (fun K hK => ?_)
 refine goes_ Try.func62 (by kernel_rfl) rfl #[.int .u8 x.f1, .int .u8 y.f1] (by rfl) rfl rfl (by simp only [List.map_toArray, List.map_cons, List.map_nil]; rfl) ?_
 with_reducible refine (api_Side_62.calls _ _ _ _ (cmpu_f _ _)).mono ?_
 rintro e w4 ⟨rfl, ⟨n4, rfl⟩⟩
 refine ⟨_, rfl, ?_⟩
 refine hK.out _ _ ⟨p0, p1, p2, p3⟩ (fun hHeld => ?_)
 clear hK K
 refine norm_ (a' := ?_) ?_ ?_
 rotate_left
 ·show Act.put _ (some 9) _ = _
  simp only [Act.put, List.setIfInBounds_toArray, List.set_cons_zero, List.set_cons_succ, i64_w, i32_w]
  rfl
 refine one_ (i := 9) (N := some 14) #[true,true,true,true,true,true,true,true,true,true,false,false,false] rfl rfl (by kernel_rfl) (by decide) (fun K hK => ?_)
 refine goes_ Try.func63 (by kernel_rfl) rfl #[.string x.f0, .string y.f0] (by rfl) rfl rfl (by simp only [List.map_toArray, List.map_cons, List.map_nil]; rfl) ?_
 with_reducible refine (cmps_ok _ _ _).mono ?_
 rintro e w9 ⟨rfl, ⟨n9, rfl⟩⟩
 refine ⟨_, rfl, ?_⟩
 refine hK.out _ _ ⟨p0, p1, p2, p3⟩ (fun hHeld => ?_)
 clear hK K
 refine norm_ (a' := ?_) ?_ ?_
 rotate_left
 ·show Act.put _ (some 14) _ = _
  simp only [Act.put, List.setIfInBounds_toArray, List.set_cons_zero, List.set_cons_succ, i64_w, i32_w]
  rfl
 refine last_ (i := 10) (N := some 15) #[true,true,true,true,true,true,true,true,true,true,true,false,false] rfl rfl (by kernel_rfl) (by decide) (fun K hK => ?_)
 refine value_ (w1 := ?_) (v := ?_) (by rfl) rfl ?_ ?_
 rotate_left 2
 ·go_simp
  constructor
  ·rfl
  ·rfl
 have hG15 := hG.drewN (1 + n4 + n9)
 have hG16 := hG15.alloc (.cells #[.int .i64 (cmpi x.f1 y.f1), .int .i64 (cmps x.f0 y.f0)] 3)
 have hC16 : Kd.C (Kd.int .i64) ((w1.drewN (1 + n4 + n9)).alloc (.cells #[.int .i64 (cmpi x.f1 y.f1), .int .i64 (cmps x.f0 y.f0)] 3)) (some ⟨w1.heap.size, 0, none⟩) 2 [cmpi x.f1 y.f1, cmps x.f0 y.f0] := arr_int (heap_alloc_new (w1.drewN (1 + n4 + n9)) (.cells #[.int .i64 (cmpi x.f1 y.f1), .int .i64 (cmps x.f0 y.f0)] 3)) (by simp [maxLen])
 have hcall : Calls Try.prog 61 #[.slice (some ⟨w1.heap.size, 0, none⟩) 2 2] ((w1.drewN (1 + n4 + n9)).alloc (.cells #[.int .i64 (cmpi x.f1 y.f1), .int .i64 (cmps x.f0 y.f0)] 3)) fun e w' => e = .returned (.int .i64 (oc x y)) ∧ Drawn0 ((w1.drewN (1 + n4 + n9)).alloc (.cells #[.int .i64 (cmpi x.f1 y.f1), .int .i64 (cmps x.f0 y.f0)] 3)) w' := cmp_Or_int.calls 10 (some ⟨w1.heap.size, 0, none⟩) 2 [cmpi x.f1 y.f1, cmps x.f0 y.f0] _ _ hC16 (Nat.le_refl 2) (or_f x y)
 refine hK.out _ _ ?_
 clear hK K
 refine norm_ (a' := ?_) ?_ ?_
 rotate_left
 ·show Act.put _ (some 15) _ = _
  simp only [Act.put, List.setIfInBounds_toArray, List.set_cons_zero, List.set_cons_succ, i64_w, i32_w]
  rfl
 refine last_ (i := 11) (N := some 16) #[true,true,true,true,true,true,true,true,true,true,true,true,false] rfl rfl (by kernel_rfl) (by decide) (fun K hK => ?_)
 refine goes_ Try.func61 (by kernel_rfl) rfl #[.slice (some ⟨w1.heap.size, 0, none⟩) 2 2] (by rfl) rfl rfl (by simp only [List.map_toArray, List.map_cons, List.map_nil]; rfl) ?_
 with_reducible refine (hcall).mono ?_
 rintro e w16 ⟨rfl, ⟨n16, rfl⟩⟩
 refine ⟨_, rfl, ?_⟩
 have hG17 := hG16.drewN n16
 refine hK.out _ _ ?_
 clear hK K
 refine norm_ (a' := ?_) ?_ ?_
 rotate_left
 ·show Act.put _ (some 16) _ = _
  simp only [Act.put, List.setIfInBounds_toArray, List.set_cons_zero, List.set_cons_succ, i64_w, i32_w]
  rfl
 refine pure_ (i := 12) (N := some 4) (v := ?_) (a' := ?_) #[true,true,true,true,true,true,true,true,true,true,true,true,true] rfl rfl (by kernel_rfl) (fun _ _ _ h => h) (Or.inl ⟨by rfl, ?_⟩) ?_ ?_
 rotate_left
 ·intro w'
  go_simp
  with_reducible rfl
 rotate_left
 ·simp only [Act.put, List.setIfInBounds_toArray, List.set_cons_zero, List.set_cons_succ, i64_w, i32_w]
  rfl
 refine done_ (by kernel_rfl) ?_
 have HG := Lib.hid hG17
 clear hG17 hG16 hG15 hC16 hcall hG p0 p1 p2 p3 hHeld
 go_wp2
 go_ret
 exact ⟨rfl, HG.out⟩
theorem cmps_lt (a b : ByteArray) : cmps a b < 0 ↔ a.toList < b.toList := by
 unfold cmps
 by_cases h : a.toList < b.toList
 ·simp [h]
 ·by_cases h2 : b.toList < a.toList <;> simp [h, h2]
def klt (x y : S25) : Prop := x.f1 < y.f1 ∨ x.f1 = y.f1 ∧ x.f0.toList < y.f0.toList
instance (x y : S25) : Decidable (klt x y) := by unfold klt; infer_instance
theorem ltOc (x y : S25) : ltOf oc x y = decide (klt x y) := by
 unfold ltOf oc klt
 have hs := cmps_lt x.f0 y.f0
 unfold cmpi
 rcases Int.lt_trichotomy x.f1 y.f1 with h | h | h
 ·simp [h, Int.ne_of_lt h]
 ·simp [h, hs]
 ·have a1 := Int.not_lt.2 (Int.le_of_lt h)
  have a2 : ¬ x.f1 = y.f1 := by omega
  simp [h, a1, a2]
theorem klt_tri (x y : S25) (h1 : ¬ klt x y) (h2 : ¬ klt y x) : x = y := by
 unfold klt at h1 h2
 have e1 : x.f1 = y.f1 := by
  rcases Int.lt_trichotomy x.f1 y.f1 with h | h | h
  ·exact absurd (.inl h) h1
  ·exact h
  ·exact absurd (.inl h) h2
 have e2 : x.f0.toList = y.f0.toList := by
  apply List.le_antisymm
  ·exact List.not_lt.1 fun h => h2 (.inr ⟨e1.symm, h⟩)
  ·exact List.not_lt.1 fun h => h1 (.inr ⟨e1, h⟩)
 obtain ⟨a, b⟩ := x
 obtain ⟨c, d⟩ := y
 simp only at e1 e2
 subst e1
 have : a = c := by
  rw [Lib.toList_data, Lib.toList_data] at e2
  cases a; cases c
  simp only [ByteArray.mk.injEq] at e2 ⊢
  exact Array.toList_inj.1 e2
 rw [this]
theorem klt_trans {x y z : S25} (h1 : klt x y) (h2 : klt y z) : klt x z := by
 unfold klt at *
 rcases h1 with h1 | ⟨h1, h1'⟩ <;> rcases h2 with h2 | ⟨h2, h2'⟩
 ·exact .inl (by omega)
 ·exact .inl (by omega)
 ·exact .inl (by omega)
 ·exact .inr ⟨by omega, List.lt_trans h1' h2'⟩
theorem klt_irr (x : S25) : ¬ klt x x := by
 unfold klt
 rintro (h | ⟨_, h⟩)
 ·omega
 ·exact List.lt_irrefl _ h
theorem swoOc : SWO (ltOf oc) where
 irrefl x := by rw [ltOc]; exact decide_eq_false (klt_irr x)
 trans x y z h1 h2 := by rw [ltOc] at *; exact decide_eq_true (klt_trans (of_decide_eq_true h1) (of_decide_eq_true h2))
 ntrans x y z h1 h2 := by
  rw [ltOc] at *
  refine decide_eq_false fun h => ?_
  have n1 := of_decide_eq_false h1
  have n2 := of_decide_eq_false h2
  by_cases q : klt y x
  ·exact n2 (klt_trans q h)
  ·have := klt_tri x y n1 q
   subst this
   exact n2 h
theorem totOc (x y : S25) (h1 : ltOf oc x y = false) (h2 : ltOf oc y x = false) : x = y := by
 rw [ltOc] at h1 h2
 exact klt_tri x y (of_decide_eq_false h1) (of_decide_eq_false h2)
def e2 (x : S25) : List Value := [.string x.f0, .int .u8 x.f1]
instance : Inhabited S25 := ⟨z25⟩
def le (x y : S25) : Bool := !(ltOf oc) y x
theorem sort_some (g c : Nat) (l : List S25) (base : Nat) (w : World) (hr : Kd.R k25 25 w base (fun _ => True) (.slice (some ⟨g, 0, none⟩) l.length c) l) (hl : l.length ≤ 1000000000000) :
  Calls Try.prog 59 #[.slice (some ⟨g, 0, none⟩) l.length c, .func (.func 46) #[] #[]] w fun e w' => e = .returned (.tuple #[]) ∧ Kd.R k25 25 w' base (fun _ => True) (.slice (some ⟨g, 0, none⟩) l.length c) (l.mergeSort le) ∧ Below base w w' := by
 obtain ⟨hok, inner, hown, hreps⟩ := hr
 have hfm : inner = l.flatMap e2 := fm_of_reps (k := 2) (fun _ => rfl) (by decide) (fun x c h => k25_openM h) hreps
 subst hfm
 have hH : HoldsK e2 2 w g 0 l.toArray := own_holds (fun _ => rfl) (by decide) rfl hown
 have hgb : base ≤ g := own_base hown g rfl
 have hgl : g < w.heap.size := own_lt hown g rfl
 have eg : ∀ args w, (callFunc 46 args).run Try.prog w = .ok (.enter 46 args) w := enters_of Try.func46 (by kernel_rfl) rfl
 have hcon := AnyQ.slices_SortFunc_total Try.sortF 2 Try.isAgg25 Try.sizeOf25 e2 (fun _ => rfl) (fun x v hv => by simp [e2] at hv; rcases hv with rfl | rfl <;> rfl) oc swoOc 46 #[] g 0 c l.toArray w eg (fun m os dk _ x y => (order_ok x y _).mono fun _ _ h => h) hH hgl (by simp; omega) totOc
 refine Calls.mono (show Calls Try.prog 59 _ _ _ from hcon) fun e w' h => ?_
 obtain ⟨he, m, os, rfl⟩ := h
 have hy : (l.mergeSort le).length = l.length := by simp
 obtain ⟨h1, h2⟩ := sortW_own (enc := e2) (k := 2) (m := m) (os := os) (ys := l.mergeSort le) (fun _ => rfl) (by decide) rfl hy hown
 refine ⟨he, ⟨fun _ _ => trivial, (l.mergeSort le).flatMap e2, by rw [hy]; exact h1, reps_fm (enc := e2) (k := 2) (fun _ => rfl) (fun x => k25_mkM _ _ _ x) _⟩, (Below.refl base w).grown h2 (by omega) (fun k hk => by injection hk with hk; omega)⟩
theorem sort_ok (A : Option Addr) (n c : Nat) (l : List S25) (base : Nat) (w : World) (hr : Kd.R k25 25 w base (fun _ => True) (.slice A n c) l) (hl : l.length ≤ 1000000000000) :
  Calls Try.prog 59 #[.slice A n c, .func (.func 46) #[] #[]] w fun e w' => e = .returned (.tuple #[]) ∧ Kd.R k25 25 w' base (fun _ => True) (.slice A n c) (l.mergeSort le) ∧ Below base w w' := by
 have hn := (Kd.R_reads' hr).1
 subst hn
 obtain ⟨_, inner, hown, _⟩ := id hr
 rcases hown.2 with ⟨hv, hl0⟩ | ⟨g, cap, cur, hv, _⟩
 ·injection hv with hA hn hcc
  subst hA; subst hcc
  have hl0 : l = [] := List.length_eq_zero_iff.1 hn
  subst hl0
  refine Calls.mono (show Calls Try.prog 59 _ _ _ from AnyF.slices_SortFunc_none Try.sortF none 0 (.func (.func 46) #[] #[]) w) fun e w' h => ?_
  obtain ⟨he, rfl⟩ := h
  exact ⟨he, by simpa using hr, Below.refl _ _⟩
 ·injection hv with hA hn hcc
  subst hA; subst hcc
  exact sort_some g c l base w hr hl
end Go.Proofs.Ytpcjppefopjngaa.C
end
section
/- A loop over a map by its entries: whichever comes next. -/
set_option linter.unusedSimpArgs false
set_option linter.unusedVariables false
namespace Go.Proofs.Ytpcjppefopjngaa.Mp
open Go.RowKit Go.ChangeMaps Go.Maps Go.MapKept

/-- Block r is an iterator over the map of block b, whose entries are m; those of these places have come. -/
structure RangeIs (w : World) (b r : Nat) (m : List (Value × Value)) (seen : Array Nat) : Prop where
 ex : ∃ (es : Array MapEntry) (c0 : Nat), w.heap[b]? = some (.map es es.size) ∧ es.toList.map (fun e => (e.key, e.val)) = m ∧ (∀ (i : Nat) (e : MapEntry), es[i]? = some e → e.born = i) ∧ w.heap[r]? = some (.mapIter (some b) es.size seen c0) ∧ es.size ≤ c0
 nodup : seen.toList.Nodup
 inb : ∀ i ∈ seen.toList, i < m.length
def seenOf (w : World) (r : Nat) : Nat := match w.heap[r]? with | some (.mapIter _ _ seen _) => seen.size | _ => 0
variable {P : Program} {k e t : TypeId} {w : World} {b r : Nat} {m : List (Value × Value)} {seen : Array Nat}
theorem RangeIs.seen_eq (h : RangeIs w b r m seen) : seenOf w r = seen.size := by
 obtain ⟨es, c0, _, _, _, h4, _⟩ := h.ex
 simp [seenOf, h4]
theorem RangeIs.lts (h : RangeIs w b r m seen) : b < w.heap.size ∧ r < w.heap.size := by
 obtain ⟨es, c0, h1, _, _, h4, _⟩ := h.ex
 exact ⟨(Array.getElem?_eq_some_iff.1 h1).1, (Array.getElem?_eq_some_iff.1 h4).1⟩
theorem RangeIs.ne (h : RangeIs w b r m seen) : r ≠ b := by
 obtain ⟨es, c0, h1, _, _, h4, _⟩ := h.ex
 intro e
 rw [e, h1] at h4
 cases h4
theorem RangeIs.kept {w' : World} {row : Option Nat} (h : RangeIs w b r m seen) (hg : w.grownBy w' row) (hb : some b ≠ row) (hr : some r ≠ row) : RangeIs w' b r m seen := by
 obtain ⟨hb1, hr1⟩ := h.lts
 obtain ⟨es, c0, h1, h2, h3, h4, h5⟩ := h.ex
 exact ⟨⟨es, c0, by rw [hg.block b hb1 hb, h1], h2, h3, by rw [hg.block r hr1 hr, h4], h5⟩, h.nodup, h.inb⟩
theorem RangeIs.below {w' : World} (h : RangeIs w b r m seen) (hb : Below w.heap.size w w') : RangeIs w' b r m seen := by
 obtain ⟨hb1, hr1⟩ := h.lts
 obtain ⟨es, c0, h1, h2, h3, h4, h5⟩ := h.ex
 exact ⟨⟨es, c0, by rw [hb.block b hb1, h1], h2, h3, by rw [hb.block r hr1, h4], h5⟩, h.nodup, h.inb⟩
/-- An iterator's block is none of cells, nor is the map's. -/
theorem RangeIs.ne_cells (h : RangeIs w b r m seen) {g : Nat} {c : Array Value} {ty : TypeId} {f : Nat × Nat} (hg : w.heap[g]? = some (.cells c ty f)) : b ≠ g ∧ r ≠ g := by
 obtain ⟨es, c0, h1, _, _, h4, _⟩ := h.ex
 refine ⟨?_, ?_⟩ <;> (rintro rfl; simp_all)
theorem MapIs.range (h : MapIs P k w b m) (ht : P.underlying t = some (.map k e)) :
  ∃ w', (Instr.range t (.map (some b))).run P w = .ok (.pointer (some ⟨w.heap.size, 0, none⟩)) w' ∧ RangeIs w' b w.heap.size m #[] ∧ w.grownBy w' none ∧ w'.heap.size = w.heap.size + 1 := by
 have hlt := h.lt
 obtain ⟨es, h1, h2, h3⟩ := h.ex
 exact ⟨_, run_range_map w t k e b es es.size ht h1, ⟨⟨es, es.size, ((MapKept.heap_alloc w _).2 b hlt).trans h1, h2, h3, (MapKept.heap_alloc w _).1, Nat.le_refl _⟩, by simp, by simp⟩, World.grownBy_alloc w _ none, by simp⟩
theorem nd_len : ∀ (n : Nat) (l : List Nat), l.Nodup → (∀ i ∈ l, i < n) → l.length ≤ n
 | 0, l, _, h => by
  cases l with
  | nil => simp
  | cons a l => exact absurd (h a (by simp)) (by omega)
 | n + 1, l, hn, h => by
  by_cases hm : n ∈ l
  ·have h1 := nd_len n (l.erase n) (hn.erase n) (fun i hi => by
    have := (hn.mem_erase_iff).1 hi
    have := h i this.2
    omega)
   rw [List.length_erase_of_mem hm] at h1
   omega
  ·have := nd_len n l hn (fun i hi => by
    have h1 := h i hi
    have : i ≠ n := fun e => hm (e ▸ hi)
    omega)
   omega
theorem RangeIs.next (h : RangeIs w b r m seen) (ty : TypeId) :
  (seen.toList.Perm (List.range m.length) ∧ (Instr.next (.pointer (some ⟨r, 0, none⟩)) false ty).run P w = .ok (.tuple #[.bool false]) w) ∨
  ∃ i key v w', m[i]? = some (key, v) ∧ seen.size < m.length ∧ (Instr.next (.pointer (some ⟨r, 0, none⟩)) false ty).run P w = .ok (.tuple #[.bool true, key, v]) w' ∧
   RangeIs w' b r m (seen.push i) ∧ w.grownBy w' (some r) ∧ w'.heap.size = w.heap.size ∧ (Instr.entry (.pointer (some ⟨r, 0, none⟩))).run P w' = .ok (.tuple #[key, v]) w' := by
 have hne := h.ne
 have hnd := h.nodup
 have hin := h.inb
 obtain ⟨es, c0, h1, h2, h3, h4, h5⟩ := h.ex
 have hml : m.length = es.size := by rw [← h2]; simp
 have hold : ∀ x ∈ es.toList, x.born < es.size := fun x hx => by
  obtain ⟨i, hi⟩ := List.getElem?_of_mem hx
  have hi' : es[i]? = some x := by simpa using hi
  rw [h3 i x hi']
  exact (Array.getElem?_eq_some_iff.1 hi').1
 have hbn : (es.toList.map (·.born)).Nodup := by
  have : es.toList.map (·.born) = List.range es.size := by
   apply List.ext_getElem?
   intro i
   rw [List.getElem?_map]
   by_cases hi : i < es.size
   ·rw [List.getElem?_range hi]
    have : es.toList[i]? = some es[i] := by simp [hi]
    rw [this]
    simp [h3 i es[i] (Array.getElem?_eq_getElem hi)]
   ·have e1 : es.toList[i]? = none := by simp; omega
    have e2 : (List.range es.size)[i]? = none := by simp; omega
    rw [e1, e2]; rfl
  rw [this]
  exact List.nodup_range
 rcases run_next_at (P := P) w ty r b es.size c0 seen es es.size h4 h1 hold h5 with ⟨h0, hrun⟩ | ⟨x, hx, w1, hal, hrun⟩
 ·refine Or.inl ⟨(List.perm_ext_iff_of_nodup hnd List.nodup_range).2 fun i => ⟨fun hi => List.mem_range.2 (hin i hi), fun hi => ?_⟩, hrun⟩
  have hi' : i < es.size := by rw [← hml]; exact List.mem_range.1 hi
  have hs := all_seen es seen h0 es[i] (by simp)
  rw [h3 i es[i] (Array.getElem?_eq_getElem hi')] at hs
  simpa using hs
 ·obtain ⟨hem, hes⟩ := mem_left hx
  obtain ⟨i, hi⟩ := List.getElem?_of_mem hem
  have hi' : es[i]? = some x := by simpa using hi
  have hb := h3 i x hi'
  have hil := (Array.getElem?_eq_some_iff.1 hi').1
  rw [hb] at hes hrun
  have hns : i ∉ seen.toList := by simpa using hes
  have hmi : m[i]? = some (x.key, x.val) := by rw [← h2, List.getElem?_map, hi]; rfl
  have hr1 : w1.heap[r]? = some (.mapIter (some b) es.size seen c0) := by rcases hal with rfl | rfl <;> exact h4
  have hb1 : w1.heap[b]? = some (.map es es.size) := by rcases hal with rfl | rfl <;> exact h1
  have hset := heap_set (o' := .mapIter (some b) es.size (seen.push i) es.size) hr1
  have hb' : (setBlock w1 r (.mapIter (some b) es.size (seen.push i) es.size)).heap[b]? = some (.map es es.size) := (hset.2 b (fun e1 => hne e1.symm)).trans hb1
  have hnd2 : (seen.push i).toList.Nodup := by
   rw [Array.toList_push, List.nodup_append]
   refine ⟨hnd, by simp, fun a ha c hc => ?_⟩
   rw [List.mem_singleton.1 hc]
   exact fun e => hns (e ▸ ha)
  have hin2 : ∀ j ∈ (seen.push i).toList, j < m.length := fun j hj => by
   rw [Array.toList_push, List.mem_append, List.mem_singleton] at hj
   rcases hj with hj | hj
   ·exact hin j hj
   ·rw [hj, hml]; exact hil
  have hsz : seen.size < m.length := by
   have := nd_len m.length _ hnd2 hin2
   simp at this
   omega
  refine Or.inr ⟨i, x.key, x.val, _, hmi, hsz, hrun, ⟨⟨es, es.size, hb', h2, h3, hset.1, Nat.le_refl _⟩, hnd2, hin2⟩, ?_, ?_,
   run_entry_at _ r b es.size seen es es.size x (by rw [hb]; exact hset.1) hb' hem hbn⟩
  ·rcases hal with rfl | rfl <;> exact ⟨rfl, rfl, rfl, by simp [setBlock], fun i _ hi => hset.2 i (fun e1 => hi (by rw [e1]))⟩
  ·rcases hal with rfl | rfl <;> simp [setBlock]
section
variable {ops : Array Oper} {rest : List Oper} {o : Oper} {a : Act} {Q : Exit → Act → World → Prop}
/-- 'range m'. -/
theorem wpList_range_is (hg : o.guard = none) (x : Operand) (t : TypeId) (hop : o.op = Op.range t x) (ht : P.underlying t = some (.map k e)) (hm : a.eval x = .map (some b)) (h : MapIs P k w b m)
  (hK : ∀ w', RangeIs w' b w.heap.size m #[] → w.grownBy w' none → w'.heap.size = w.heap.size + 1 → wpList P ops Q rest (a.put o.dst (.pointer (some ⟨w.heap.size, 0, none⟩))) w') :
  wpList P ops Q (o :: rest) a w := by
 refine wpList_plain hg fun K' hK' => ?_
 obtain ⟨w', hrun, r1, r2, r3⟩ := h.range ht
 unfold Oper.wp
 simp [execOp, hop, hm, hrun, Result.andThen]
 exact hK' _ _ (hK w' r1 r2 r3)
/-- The step. -/
theorem wpList_next_is (hg : o.guard = none) (it : Operand) (hop : o.op = Op.next it false) (hit : a.eval it = .pointer (some ⟨r, 0, none⟩)) (h : RangeIs w b r m seen)
  (hDone : seen.toList.Perm (List.range m.length) → wpList P ops Q rest (a.put o.dst (.tuple #[.bool false])) w)
  (hMore : ∀ i key v w', m[i]? = some (key, v) → seen.size < m.length → RangeIs w' b r m (seen.push i) → w.grownBy w' (some r) → w'.heap.size = w.heap.size →
   (Instr.entry (.pointer (some ⟨r, 0, none⟩))).run P w' = .ok (.tuple #[key, v]) w' → wpList P ops Q rest (a.put o.dst (.tuple #[.bool true, key, v])) w') :
  wpList P ops Q (o :: rest) a w := by
 refine wpList_plain hg fun K' hK' => ?_
 unfold Oper.wp
 rcases h.next (P := P) o.type with ⟨h0, hrun⟩ | ⟨i, key, v, w', h1, h2, hrun, h3, h4, h5, h6⟩
 ·simp [execOp, hop, hit, hrun, Result.andThen]
  exact hK' _ _ (hDone h0)
 ·simp [execOp, hop, hit, hrun, Result.andThen]
  exact hK' _ _ (hMore i key v w' h1 h2 h3 h4 h5 h6)
end
end Go.Proofs.Ytpcjppefopjngaa.Mp
end
section
/- The walks of maps.Keys, slices.AppendSeq over it, Collect, SortedFunc, Keys. -/
set_option linter.unusedSimpArgs false
set_option linter.unusedVariables false
namespace Go.Proofs.Ytpcjppefopjngaa.C
open Go.RowKit Go.Shelf Go.Proofs.Ytpcjppefopjngaa.Sk Go.Proofs.Ytpcjppefopjngaa.PA Go.Proofs.Ytpcjppefopjngaa.Mp Go.Proofs.YtpcjppefopjngaaW.PrintWords Go.Proofs.YtpcjppefopjngaaW.PrintLast Go.Proofs.YtpcjppefopjngaaW.PrintMore
attribute [local go_sem] Oper.semAt_some
theorem gr_none {A B : World} (hb : Below A.heap.size A B) : A.grownBy B none := ⟨hb.os, hb.tape, hb.output, hb.size, fun k hk _ => hb.block k hk⟩
theorem yields {F : Fence} {m : Nat} {P : Program} {l : Nat} {args : Array Value} {W : World} {R : Ending → World → Prop} (h : YieldAt F m P l args W R) : ∃ fn tmps assign body, (Instr.yield l args).run P W = .ok (.round l fn tmps assign body) W ∧ RoundIn F m P l fn tmps assign body W R := h
section
variable {F : Fence} {n : Nat} {P : Program} {k e : TypeId} {w : World} {b r : Nat} {m : List (Value × Value)} {seen : Array Nat} {ops : Array Oper} {rest : List Oper} {o : Oper} {a : Act} {Q : Exit → Act → World → Prop}
/-- 'range m', in a fence. -/
theorem wpListIn_range_is (hg : o.guard = none) (x : Operand) (t : TypeId) (hop : o.op = Op.range t x) (ht : P.underlying t = some (.map k e)) (hm : a.eval x = .map (some b)) (h : MapIs P k w b m)
  (hK : ∀ w', RangeIs w' b w.heap.size m #[] → w.grownBy w' none → w'.heap.size = w.heap.size + 1 → wpListIn F n P ops Q rest (a.put o.dst (.pointer (some ⟨w.heap.size, 0, none⟩))) w') :
  wpListIn F n P ops Q (o :: rest) a w := by
 refine wpListIn_plain hg fun K' hK' => ?_
 obtain ⟨w', hrun, r1, r2, r3⟩ := h.range ht
 unfold Oper.wpIn
 refine ⟨by simp [Oper.about, hop], ?_⟩
 rw [Oper.semAt_plain F _ _ (by rw [hop]; intro c hc'; cases hc')]
 simp [execOp, hop, hm, hrun, Result.andThen]
 exact hK' _ _ (hK w' r1 r2 r3)
/-- The step, in a fence. -/
theorem wpListIn_next_is (hg : o.guard = none) (it : Operand) (hop : o.op = Op.next it false) (hit : a.eval it = .pointer (some ⟨r, 0, none⟩)) (h : RangeIs w b r m seen)
  (hDone : seen.toList.Perm (List.range m.length) → wpListIn F n P ops Q rest (a.put o.dst (.tuple #[.bool false])) w)
  (hMore : ∀ i key v w', m[i]? = some (key, v) → seen.size < m.length → RangeIs w' b r m (seen.push i) → w.grownBy w' (some r) → w'.heap.size = w.heap.size →
   (Instr.entry (.pointer (some ⟨r, 0, none⟩))).run P w' = .ok (.tuple #[key, v]) w' → wpListIn F n P ops Q rest (a.put o.dst (.tuple #[.bool true, key, v])) w') :
  wpListIn F n P ops Q (o :: rest) a w := by
 refine wpListIn_plain hg fun K' hK' => ?_
 unfold Oper.wpIn
 refine ⟨by simp [Oper.about, hop], ?_⟩
 rw [Oper.semAt_plain F _ _ (by rw [hop]; intro c hc'; cases hc')]
 rcases h.next (P := P) o.type with ⟨h0, hrun⟩ | ⟨i, key, v, w', h1, h2, hrun, h3, h4, h5, h6⟩
 ·simp [execOp, hop, hit, hrun, Result.andThen]
  exact hK' _ _ (hDone h0)
 ·simp [execOp, hop, hit, hrun, Result.andThen]
  exact hK' _ _ (hMore i key v w' h1 h2 h3 h4 h5 h6)
theorem RangeIs.walks {w' : World} (h : RangeIs w b r m seen) (hk : KeepsWalks w w') : RangeIs w' b r m seen := by
 obtain ⟨es, c0, h1, h2, h3, h4, h5⟩ := h.ex
 exact ⟨⟨es, c0, hk.same _ _ h1 rfl, h2, h3, hk.same _ _ h4 rfl, h5⟩, h.nodup, h.inb⟩
theorem RangeIs.walk (h : RangeIs w b r m seen) : ∃ o : Obj, w.heap[r]? = some o ∧ o.isWalk = true := by
 obtain ⟨es, c0, h1, h2, h3, h4, h5⟩ := h.ex
 exact ⟨_, h4, rfl⟩
end
def Cl.k25 (c : Cl) : S25 := ⟨c.nm, c.sd⟩
def ag (x : S25) : Value := .agg #[.string x.f0, .int .u8 x.f1]
def key0 (cs : List Cl) (i : Nat) : S25 := (cs.getD i z0).k25
theorem ents_key {cs : List Cl} {cb : Nat → Nat} {i : Nat} {key v : Value} (h : (ents cs cb)[i]? = some (key, v)) : key = ag (key0 cs i) := by
 have hi : i < cs.length := by rw [← ents_len cs cb]; exact (List.getElem?_eq_some_iff.1 h).1
 rw [ents_at hi] at h
 injection h with h
 injection h with h1 h2
 rw [← h1]
 unfold Cl.key ke ag key0 Cl.k25
 simp [List.getD, hi]
set_option maxRecDepth 100000 in
set_option maxHeartbeats 2000000 in
theorem keys1_in (m : Nat) (hm : 1 ≤ m) (L Bs mb : Nat) (cs : List Cl) (cb : Nat → Nat) (J Jx : List S25 → World → Prop)
  (hY : ∀ pre x W, J pre W → pre.length < cs.length → YieldAt Fence.wide (m - 1) Try.prog L #[ag x] W fun e W' =>
   (e = .returned (.bool true) ∧ J (pre ++ [x]) W' ∧ KeepsWalks W W') ∨ (e = .returned (.bool false) ∧ Jx (pre ++ [x]) W'))
  (W : World) (hJ : AbidesFrom W.heap.size J) (hBs : W.heap[Bs]? = some (.cells #[.map (some mb)] 91 (0, 0))) (hM : MapIs Try.prog 25 W mb (ents cs cb)) (h0 : J [] W) :
  CallsIn Fence.wide m Try.prog 60 #[.func (.yield L) #[] #[], .pointer (some ⟨Bs, 0, none⟩)] W fun e W' => (∃ v, e = .returned v) ∧
   ((∃ ys, ys.Perm (cs.map Cl.k25) ∧ J ys W') ∨ (∃ pre, True ∧ Jx pre W')) := by
 have c0 : W.cell? ⟨Bs, 0, none⟩ = some (.map (some mb)) := by simp [World.cell?, hBs]
 have HM := Lib.hid hM
 have HJ0 := Lib.hid h0
 have HJ := Lib.hid hJ
 clear hM h0 hJ hBs
 refine callsIn_of_wp Try.func60 rfl trivial ?_ rfl
 simp only [Try.ntmps60, List.size_toArray, List.length_cons, List.length_nil, Nat.reduceAdd, Nat.reduceSub, Array.replicate_succ, Array.replicate_zero, List.push_toArray, List.append_toArray, List.nil_append, List.cons_append]
 gi_wp2_with (first
  | (gi_at_range; refine wpListIn_range_is rfl _ _ rfl Try.underlying91 rfl HM.out ?_; intro w0 hrg0 hg0 hs0)
  | gi_in)
 have HRG0 := Lib.hid hrg0
 have HG0 := Lib.hid hg0
 clear hrg0 hg0 hs0
 go_frame
 gi_loopw [3] (fun _ wr => ∃ seen, RangeIs wr mb W.heap.size (ents cs cb) seen ∧ J (seen.toList.map (key0 cs)) wr) (fun _ wr => cs.length - seenOf wr W.heap.size)
 case atStart => exact ⟨#[], HRG0.out, HJ.out [] W w0 none HJ0.out HG0.out (fun r e => by cases e)⟩
 case round =>
  obtain ⟨seen, hrg, hJs⟩ := hrel
  have HRG := Lib.hid hrg
  have HJS := Lib.hid hJs
  clear hrg hJs
  gi_wp2_with (first
   | (gi_at_next; refine wpListIn_next_is rfl _ rfl rfl HRG.out ?_ ?_)
   | gi_in)
  ·intro hp
   have HP := Lib.hid hp
   clear hp
   gi_wp2
   go_end0
   refine ⟨⟨_, rfl⟩, .inl ⟨_, ?_, HJS.out⟩⟩
   have h1 := HP.out.map (key0 cs)
   rw [ents_len] at h1
   refine h1.trans (List.Perm.of_eq ?_)
   apply List.ext_getElem?
   intro i
   rw [List.getElem?_map, List.getElem?_map]
   by_cases hi : i < cs.length
   ·simp [hi, key0, List.getD]
   ·simp [hi]
  ·intro i key v w2 hmi hsz hrg2 hg2 hs2 hen
   obtain rfl := ents_key hmi
   rw [ents_len] at hsz
   have hJ2 : J (seen.toList.map (key0 cs)) w2 := HJ.out _ wr w2 (some W.heap.size) HJS.out hg2 (fun r e => by cases e; exact ⟨Nat.le_refl _, RangeIs.walk HRG.out⟩)
   have hJ3 : J (seen.toList.map (key0 cs)) (w2.alloc (.cells #[.string (key0 cs i).f0, .int .u8 (key0 cs i).f1] 25)) := HJ.out _ _ _ none hJ2 (World.grownBy_alloc _ _ none) (fun r e => by cases e)
   obtain ⟨fn, tmps, assign, body, hy, hR⟩ := yields (hY (seen.toList.map (key0 cs)) (key0 cs i) _ hJ3 (by rw [List.length_map, Array.length_toList]; exact hsz))
   have HRG2 := Lib.hid hrg2
   have HSZ := Lib.hid hsz
   unfold ag at hy hen
   have hmap : seen.toList.map (key0 cs) ++ [key0 cs i] = (seen.push i).toList.map (key0 cs) := by simp
   rw [hmap] at hR
   clear hmi hsz hrg2 hg2 hs2 hJ2 hJ3 hmap
   generalize hx : key0 cs i = x at hy hen hR ⊢
   clear hx
   gi_wp2
   refine hR.mono ?_
   rintro e W3 (⟨rfl, hJ4, hk3⟩ | ⟨rfl, hJx3⟩)
   ·have HJ4 := Lib.hid hJ4
    have HRG3 := Lib.hid (RangeIs.walks (RangeIs.below HRG2.out ((Below.refl _ w2).alloc (Nat.le_refl _) _)) hk3)
    clear hJ4 hk3
    gi_wp2
    go_roundw
    case rel => exact ⟨_, HRG3.out, HJ4.out⟩
    case measure =>
     rw [HRG3.out.seen_eq, HRG.out.seen_eq, Array.size_push]
     have := HSZ.out
     omega
   ·have HJ3 := Lib.hid hJx3
    clear hJx3
    gi_wp2
    refine bodyPost_ret (results_none rfl _ _ _) rfl ?_
    exact ⟨⟨_, rfl⟩, .inr ⟨_, trivial, HJ3.out⟩⟩
theorem keys_stops (m : Nat) (hm : 1 ≤ m) (Bs mb : Nat) (cs : List Cl) (cb : Nat → Nat) (w : World) (hM : MapIs Try.prog 25 w mb (ents cs cb)) (hBs : w.heap[Bs]? = some (.cells #[.map (some mb)] 91 (0, 0))) :
  SeqStopsK Fence.wide m Try.prog 60 #[.pointer (some ⟨Bs, 0, none⟩)] (fun x : S25 => #[ag x]) KeepsWalks (fun ys => ys.Perm (cs.map Cl.k25)) (fun _ => True) cs.length w := fun L J Jx W hW hJ _ hY h0 =>
 keys1_in m hm L Bs mb cs cb J Jx hY W hJ ((hW.block Bs (Array.getElem?_eq_some_iff.1 hBs).1).trans hBs) (hM.below hW) h0
set_option maxHeartbeats 1000000 in
theorem mkeys_ok (mb : Option Nat) (w : World) : Calls Try.prog 45 #[.map mb] w fun e w' => e = .returned (.func (.func 60) #[] #[.pointer (some ⟨w.heap.size, 0, none⟩)]) ∧ w' = w.alloc (.cells #[.map mb] 91) := by
 go_enter Try.func45, Try.ntmps45
 go_wp2
 go_ret
 exact ⟨rfl, rfl⟩
def mark (D : Nat) : Deferred := { target := .collected D, args := #[] }
/-- The marks of ranges over functions that are over. -/
def Marks (n₀ : Nat) (Ds : List Nat) (W : World) : Prop := Ds.Nodup ∧ ∀ D ∈ Ds, n₀ ≤ D ∧ W.heap[D]? = some (.deferred (some []))
theorem leaves_all {F : Fence} {m : Nat} {P : Program} {fn : Func} {tmps : Array Value} {R : Ending → World → Prop} {n₀ : Nat} : ∀ (Ds : List Nat) (W : World), Marks n₀ Ds W →
  (∀ W', Below n₀ W W' → (∀ (k : Nat) (c : Array Value) (t : TypeId) (f : Nat × Nat), W.heap[k]? = some (.cells c t f) → W'.heap[k]? = some (.cells c t f)) → LeavesInM F m P fn tmps R [] .returning W') → LeavesInM F m P fn tmps R (Ds.map mark) .returning W
 | [], W, _, h => h W (Below.refl _ _) (fun _ _ _ _ hk => hk)
 | D :: Ds, W, hM, h => by
  obtain ⟨hn, hD⟩ := hM
  obtain ⟨hD0, hDk⟩ := hD D List.mem_cons_self
  have hn' := List.nodup_cons.1 hn
  refine ⟨by simp, .inl ⟨D, _, rfl, run_takeDeferred hDk, ?_⟩⟩
  refine leaves_all (n₀ := n₀) Ds _ ⟨hn'.2, fun D' hD' => ?_⟩ (fun W' hb hc => ?_)
  ·have := hD D' (List.mem_cons_of_mem _ hD')
   exact ⟨this.1, (World.putObj_heap_other (fun e => hn'.1 (by rw [← e]; exact hD'))).trans this.2⟩
  ·refine h W' (Below.trans ((Below.refl n₀ W).grown (grownBy_putObj' W D _) (by have := (Array.getElem?_eq_some_iff.1 hDk).1; omega) (fun k e => by cases e; exact hD0)) hb) (fun k c t f hk => hc k c t f ((World.putObj_heap_other (fun e => ?_)).trans hk))
   rw [← e] at hDk
   rw [hDk] at hk
   cases hk
theorem wpListIn_run {F : Fence} {n : Nat} {P : Program} {ops rest : _} {Q : Exit → Act → World → Prop} {o : Oper} {a : Act} {w w1 : World} {v u v1 : Value} {t t' : TypeId} (hF : ∀ f, F.fn f) (hg : o.guard = none) (s x : Operand)
  (ho : o.op = .call { callee := .builtin .append, args := #[s, x], argTypes := #[t, t'] }) (hs : a.eval s = v) (hx : a.eval x = u) (hr : (Builtin.append_ #[t, t'] o.type #[v, u]).run P w = .ok v1 w1)
  (h : wpListIn F n P ops Q rest (a.put o.dst v1) w1) : wpListIn F n P ops Q (o :: rest) a w := by
 refine wpListIn_plain hg fun K hK => ⟨fun f _ => hF f, ?_⟩
 ·rw [Oper.semAt_eq _ _ _ (by simp [ho])]
  unfold execOp
  simp only [ho, resolve, invoke, builtin, Sem.run_bind, Sem.run_pure, Result.andThen_ok, List.map_toArray, List.map_cons, List.map_nil, hs, hx, hr]
  exact hK _ _ h
/-- Between two rounds: a box with a row of keys. -/
def MidV (W1 : World) (pre : List S25) (W : World) : Prop :=
 ∃ v, Boxed W W1.heap.size 40 v ∧ W.ownsRow W1.heap.size 25 2 v pre.length (pre.flatMap e2) ∧ Below W1.heap.size W1 W
theorem own_row_ne {W : World} {base e n : Nat} {s : Nat} {v : Value} {cs : List Value} {row : Option Nat} {B : Nat} (h : W.ownsRow base e s v n cs) (hr : ∀ r, row = some r → B ≤ r ∧ ∃ o : Obj, W.heap[r]? = some o ∧ o.isCells = false) : v.ownBlock = none ∨ v.ownBlock ≠ row := by
 cases hv : v.ownBlock with
 | none => exact .inl rfl
 | some k =>
  refine .inr fun e => ?_
  obtain ⟨_, o, ho, hc⟩ := hr k e.symm
  obtain ⟨cells, hc'⟩ := own_typed h k hv
  rw [hc'] at ho
  cases ho
  cases hc
theorem MidV.own {W1 : World} {B : Nat} (hB : W1.heap.size ≤ B) : OwnFrom B (MidV W1) := fun s W W' row hs hg hr => by
 obtain ⟨v, hb, ho, hbl⟩ := hs
 refine ⟨v, hb.kept hg (fun e => ?_), ho.kept hg (own_row_ne ho hr), hbl.grown hg hbl.size (fun k e => Nat.le_trans hB (hr k e).1)⟩
 obtain ⟨_, o, ho, hc⟩ := hr _ e.symm
 rw [show W.heap[W1.heap.size]? = _ from hb] at ho
 cases ho
 cases hc
theorem kf_alloc (B : Nat) (W : World) (o : Obj) : KeepsFrom B W (W.alloc o) := ⟨by simp, fun k _ _ hk _ => (Below.heap_alloc _ _ _ (Array.getElem?_eq_some_iff.1 hk).1).trans hk⟩
theorem kw_alloc (W : World) (o : Obj) : KeepsWalks W (W.alloc o) := ⟨by simp, fun k _ hk _ => (Below.heap_alloc _ _ _ (Array.getElem?_eq_some_iff.1 hk).1).trans hk⟩
theorem kw_others {W W' : World} (h : KeepsOthers W W') : KeepsWalks W W' := ⟨h.size, fun k o hk hw => h.same k o hk (by cases o <;> simp_all [Obj.isWalk, Obj.isCells])⟩
def AxV (W1 : World) (Bs : Nat) (x : S25) (a' : Act) (W : World) : Prop := ∃ B5, a' = { tmps := #[.slice none 0 0, .func (.func 60) #[] #[.pointer (some ⟨Bs, 0, none⟩)], .pointer (some ⟨W1.heap.size, 0, none⟩), undef, .slice none 0 0, .pointer (some ⟨B5, 0, none⟩), .func (.func 60) #[] #[.pointer (some ⟨Bs, 0, none⟩)], ag x, undef, undef, undef, undef, undef], defers := [] } ∧ W.heap[B5]? = some (.cells #[.string x.f0, .int .u8 x.f1] 25 (0, 0))
theorem AxV.own {W1 : World} {Bs B : Nat} (x : S25) (a' : Act) : OwnFrom B (fun (_ : Unit) W => AxV W1 Bs x a' W) := fun _ W W' row hs hg hr => by
 obtain ⟨B5, e, hb⟩ := hs
 refine ⟨B5, e, (hg.block B5 (Array.getElem?_eq_some_iff.1 hb).1 (fun e => ?_)).trans hb⟩
 obtain ⟨_, o, ho, hc⟩ := hr _ e.symm
 rw [hb] at ho
 cases ho
 cases hc
theorem fm_snoc (pre : List S25) (x : S25) : (pre ++ [x]).flatMap e2 = pre.flatMap e2 ++ e2 x := by simp
set_option maxRecDepth 100000 in
set_option maxHeartbeats 4000000 in
theorem appseq_in (m Bs mb : Nat) (cs : List Cl) (cb : Nat → Nat) (W1 : World) (hM : MapIs Try.prog 25 W1 mb (ents cs cb)) (hm : 5 ≤ m) (hBs : W1.heap[Bs]? = some (.cells #[.map (some mb)] 91 (0, 0))) (hlen : cs.length ≤ 1000000) :
  CallsIn Fence.wide m Try.prog 72 #[.slice none 0 0, .func (.func 60) #[] #[.pointer (some ⟨Bs, 0, none⟩)]] W1 fun e W' => ∃ (v : Value) (l : List S25), e = .returned v ∧ l.Perm (cs.map Cl.k25) ∧ W'.ownsRow W1.heap.size 25 2 v l.length (l.flatMap e2) ∧ Below W1.heap.size W1 W' := by
 have HM := Lib.hid hM
 have lB := (Array.getElem?_eq_some_iff.1 hBs).1
 have HBs := Lib.hid hBs
 clear hM hBs
 refine callsIn_of_wp_marks Try.func72 rfl trivial ?_ rfl
 simp only [Try.ntmps72, List.size_toArray, List.length_cons, List.length_nil, Nat.reduceAdd, Nat.reduceSub, Array.replicate_succ, Array.replicate_zero, List.push_toArray, List.append_toArray, List.nil_append, List.cons_append]
 gi_wp2
 have b1 := Boxed.new W1 40 (.slice none 0 0)
 have hA1 : Below W1.heap.size W1 (W1.alloc (.cells #[.slice none 0 0] 40)) := (Below.refl _ W1).alloc (Nat.le_refl _) _
 have hz : (W1.alloc (.cells #[.slice none 0 0] 40)).heap.size = W1.heap.size + 1 := by simp
 have hT : MidV W1 [] (W1.alloc (.cells #[.slice none 0 0] 40)) := ⟨_, b1, World.ownsRow_nil _ _ _ _, hA1⟩
 generalize W1.alloc (.cells #[.slice none 0 0] 40) = W2 at b1 hA1 hT hz ⊢
 refine wpIn_rangeFunc_ownH rfl (by omega) (gf := 60) (lb := #[.pointer (some ⟨Bs, 0, none⟩)]) rfl trivial (enters_of Try.func60 (by kernel_rfl) rfl)
  (keys_stops (m - 1) (by omega) Bs mb cs cb W2 (HM.out.below hA1) ((hA1.block _ lB).trans HBs.out)) walksK_t walksK_b (Below.refl _ _) (fun _ => rfl)
  (MidV W1) (fun _ _ _ => False) (MidV.own (by omega)) (fun _ _ _ _ _ hs _ _ => hs) hT (AxV W1 Bs) AxV.own ?assign ?body ?done ?stop
 case assign =>
  intro L pre x W3 K hI hK
  unfold ag
  obtain ⟨v3, hb3, ho3, hbl3⟩ := hI
  gi_wp2
  refine hK _ _ (kf_alloc _ _ _) (kw_alloc _ _) ⟨v3, hb3.kept (World.grownBy_alloc _ _ none) (by simp), ho3.alloc _, hbl3.alloc hbl3.size _⟩ ⟨_, rfl, World.alloc_heap_new _ _⟩
 case body =>
  rintro L pre x a' W3 _ _ ⟨v, hbx, hrow, hbl⟩ ⟨B5, rfl, hB5⟩ hpl
  obtain ⟨i0, hi, hz0, hz1, hz2⟩ := info_parts info25
  have c0 : W3.cell? ⟨B5, 0, none⟩ = some (.string x.f0) := by rw [blk_cell hB5]; rfl
  have c1 : W3.cell? ⟨B5, 1, none⟩ = some (.int .u8 x.f1) := by rw [blk_cell hB5]; rfl
  have cb := hbx.cell
  have hl3 : W1.heap.size ≤ W3.heap.size := hbl.size
  obtain ⟨v4, w4, hrun, r1, r2, r3, r4⟩ := run_append_own_at (P := Try.prog) (W3.alloc (.cells #[.string x.f0, .int .u8 x.f1] 25)) W1.heap.size 40 40 25 i0 _ 2 24 Try.underlying40 hi hz0 hz1 hz2 rfl (by decide) v pre.length (pre.flatMap e2) (hrow.alloc _) ⟨W3.heap.size, 0, none⟩ 1 1 (e2 x) rfl
   (fun j u hj => by rw [add_plain, blk_cell (World.alloc_heap_new W3 _), ← Array.getElem?_toList]; exact hj) (fun u hu => by simp [e2] at hu; rcases hu with rfl | rfl <;> rfl) (by unfold maxLen; omega) (by omega) (by simp; omega)
  obtain ⟨g4, cap4, rfl, _, _⟩ := r1.form (by omega)
  have hne : some W1.heap.size ≠ v.ownBlock := own_ne hrow hbx (by decide)
  have bx4 : Boxed w4 W1.heap.size 40 v := (hbx.kept (World.grownBy_alloc W3 _ none) (by simp)).kept r2 hne
  have p3 := bx4.cell
  have p4 := bx4.frozen
  have hfin : Below W1.heap.size W3 (w4.setCell ⟨W1.heap.size, 0, none⟩ (.slice (some ⟨g4, 0, none⟩) (pre.length + 1) cap4)) := (((Below.refl _ W3).alloc hl3 _).grown r2 (by simp; omega) (fun k e => own_base hrow k e)).setCell (p := ⟨W1.heap.size, 0, none⟩) (Nat.le_refl _) _
  have hko : KeepsOthers W3 (w4.setCell ⟨W1.heap.size, 0, none⟩ (.slice (some ⟨g4, 0, none⟩) (pre.length + 1) cap4)) := by
   refine KeepsOthers.trans ⟨by simp, fun k _ hk _ => (Below.heap_alloc _ _ _ (Array.getElem?_eq_some_iff.1 hk).1).trans hk⟩ ((KeepsOthers.of_grownBy r2 fun j o ej hj => ?_).trans (KeepsOthers.setCell _ _ _))
   obtain ⟨c', hc'⟩ := own_typed (hrow.alloc _) j ej
   rw [hc'] at hj
   cases hj
   rfl
  have hmid : MidV W1 (pre ++ [x]) (w4.setCell ⟨W1.heap.size, 0, none⟩ (.slice (some ⟨g4, 0, none⟩) (pre.length + 1) cap4)) := by
   refine ⟨_, bx4.set _, ?_, hbl.trans hfin⟩
   rw [fm_snoc, List.length_append, List.length_singleton]
   refine r1.kept (grownBy_setCell' w4 W1.heap.size _) (.inr fun e => ?_)
   rcases r4 with h4 | h4
   ·exact hne (by rw [← e, h4])
   ·rw [h4] at e
    injection e with e
    have := hbx.lt
    simp at e
    omega
  have HRUN := Lib.hid hrun
  have HFIN := Lib.hid hfin
  have HKO := Lib.hid hko
  have HMID := Lib.hid hmid
  clear hrun hfin hko hmid r1 r2 r3 r4 hrow hbl hbx bx4 hne
  gi_wp2_with (gi_at_builtin; refine wpListIn_run (fun _ => trivial) rfl _ _ rfl rfl rfl HRUN.out ?_)
  exact ⟨HKO.out.from _, kw_others HKO.out, HMID.out⟩
 case done =>
  rintro D ys W3 hD hys ⟨v, hbx, hrow, hbl⟩ hDk
  have cb := hbx.cell
  have HROW := Lib.hid hrow
  have HBL := Lib.hid hbl
  have HDK := Lib.hid hDk
  have HYS := Lib.hid hys
  clear hrow hbl hbx hDk hys
  gi_wp2
  refine leaves_all (n₀ := W1.heap.size) [D] W3 ⟨List.nodup_cons.2 ⟨(by simp), List.nodup_nil⟩, fun D' hD' => ?_⟩ (fun W' hb hc => ?_)
  ·rw [List.mem_singleton.1 hD']
   exact ⟨by omega, HDK.out⟩
  ·refine ⟨_, results_tmp rfl _ _ _, _, ys, rfl, HYS.out, own_move HROW.out (fun k hk => ?_), HBL.out.trans ⟨hb.os, hb.tape, hb.output, hb.size, fun q hq => hb.block q (by omega)⟩⟩
   obtain ⟨c, hcc⟩ := own_typed HROW.out k hk
   rw [hc k _ _ _ hcc, hcc]
 case stop =>
  rintro D c pre W3 _ _ h _
  exact h.elim
theorem R_e2 {w : World} {b : Nat} {v : Value} {l : List S25} (h : w.ownsRow b 25 2 v l.length (l.flatMap e2)) : Kd.R k25 25 w b (fun _ => True) v l :=
 ⟨fun _ _ => trivial, l.flatMap e2, h, reps_fm (enc := e2) (k := 2) (fun _ => rfl) (fun x => k25_mkM _ _ _ x) _⟩
theorem collect_ok (Bs mb : Nat) (cs : List Cl) (cb : Nat → Nat) (w : World) (hM : MapIs Try.prog 25 w mb (ents cs cb)) (hBs : w.heap[Bs]? = some (.cells #[.map (some mb)] 91 (0, 0))) (hlen : cs.length ≤ 1000000) :
  Calls Try.prog 58 #[.func (.func 60) #[] #[.pointer (some ⟨Bs, 0, none⟩)]] w fun e w' => ∃ (v : Value) (l : List S25), e = .returned v ∧ l.Perm (cs.map Cl.k25) ∧ Kd.R k25 25 w' w.heap.size (fun _ => True) v l ∧ Below w.heap.size w w' := by
 have H := Lib.hid (callsIn_wide.1 (appseq_in 10 Bs mb cs cb w hM (by omega) hBs hlen))
 clear hM hBs
 go_enter Try.func58, Try.ntmps58
 go_wp2_with fail
 refine H.out.mono ?_
 rintro e w1 ⟨v, l, rfl, hl, hv, hb1⟩
 have HV := Lib.hid (R_e2 hv)
 have HB1 := Lib.hid hb1
 have HL := Lib.hid hl
 clear hv hb1 hl
 go_wp2_with fail
 go_ret
 exact ⟨_, _, rfl, HL.out, HV.out, HB1.out⟩
def skeys (cs : List Cl) : List S25 := (cs.map Cl.k25).mergeSort le
theorem le_total (x y : S25) : (le x y || le y x) = true := by
 unfold le
 rw [ltOc, ltOc]
 by_cases h : klt x y
 ·have : ¬ klt y x := fun q => klt_irr x (klt_trans h q)
  simp [this]
 ·simp [h]
theorem le_trans' (x y z : S25) (h1 : le x y = true) (h2 : le y z = true) : le x z = true := by
 unfold le at *
 rw [ltOc] at *
 simp only [Bool.not_eq_true', decide_eq_false_iff_not] at *
 intro h
 by_cases q : klt y z
 ·exact h1 (klt_trans q h)
 ·have := klt_tri y z q h2
  subst this
  exact h1 h
theorem le_anti (x y : S25) (h1 : le x y = true) (h2 : le y x = true) : x = y := by
 unfold le at *
 rw [ltOc] at *
 simp only [Bool.not_eq_true', decide_eq_false_iff_not] at *
 exact klt_tri x y h2 h1
theorem sort_perm {a b : List S25} (h : a.Perm b) : a.mergeSort le = b.mergeSort le :=
 ((a.mergeSort_perm le).trans (h.trans (b.mergeSort_perm le).symm)).eq_of_pairwise (le := fun x y => le x y = true) (fun x y _ _ h1 h2 => le_anti x y h1 h2) (List.pairwise_mergeSort le_trans' le_total a) (List.pairwise_mergeSort le_trans' le_total b)
theorem sortedF_ok (Bs mb : Nat) (cs : List Cl) (cb : Nat → Nat) (w : World) (hM : MapIs Try.prog 25 w mb (ents cs cb)) (hBs : w.heap[Bs]? = some (.cells #[.map (some mb)] 91 (0, 0))) (hlen : cs.length ≤ 1000000) :
  Calls Try.prog 44 #[.func (.func 60) #[] #[.pointer (some ⟨Bs, 0, none⟩)], .func (.func 46) #[] #[]] w fun e w' => ∃ v, e = .returned v ∧ Kd.R k25 25 w' w.heap.size (fun _ => True) v (skeys cs) ∧ Below w.heap.size w w' := by
 have H := Lib.hid (collect_ok Bs mb cs cb w hM hBs hlen)
 clear hM hBs
 go_enter Try.func44, Try.ntmps44
 go_wp2_with fail
 refine H.out.mono ?_
 rintro e w1 ⟨v, l, rfl, hl, hv, hb1⟩
 obtain ⟨A1, c1, rfl⟩ := Kd.R_slice hv
 have hll : l.length = cs.length := by rw [hl.length_eq, List.length_map]
 have hs := sort_ok A1 l.length c1 l w.heap.size w1 hv (by omega)
 rw [sort_perm hl] at hs
 have HS := Lib.hid hs
 have HB1 := Lib.hid hb1
 clear hv hb1 hs hl hll
 go_wp2_with fail
 refine HS.out.mono ?_
 rintro e w2 ⟨rfl, hv2, hb2⟩
 have HV2 := Lib.hid hv2
 have HB2 := Lib.hid (HB1.out.trans hb2)
 clear hv2 hb2
 go_wp2_with fail
 go_ret
 exact ⟨_, rfl, HV2.out, HB2.out⟩
theorem keys_nil (w : World) : Calls Try.prog 16 #[.pointer none] w fun e w' => e = .returned (.slice none 0 0) ∧ w' = w := by
 go_enter Try.func16, Try.ntmps16
 go_wp2
 go_ret
 exact ⟨rfl, rfl⟩
theorem keys_ok (g mb : Nat) (n e : Int) (cs : List Cl) (cb vb : Nat → Nat) (w : World) (h : IsT w g mb n e cs cb vb) (hlen : cs.length ≤ 1000000) :
  Calls Try.prog 16 #[.pointer (some ⟨g, 0, none⟩)] w fun e_ w' => ∃ v, e_ = .returned v ∧ Kd.R k25 25 w' w.heap.size (fun _ => True) v (skeys cs) ∧ Below w.heap.size w w' := by
 have p2 : w.cell? ⟨g, 2, none⟩ = some (.map (some mb)) := by rw [cell_of h.tb]; rfl
 have HV := Lib.hid (mkeys_ok (some mb) w)
 have hA1 : Below w.heap.size w (w.alloc (.cells #[.map (some mb)] 91)) := (Below.refl _ w).alloc (Nat.le_refl _) _
 have H := Lib.hid (sortedF_ok w.heap.size mb cs cb (w.alloc (.cells #[.map (some mb)] 91)) (h.mp.below hA1) (World.alloc_heap_new _ _) hlen)
 have HA1 := Lib.hid hA1
 clear h hA1
 go_enter Try.func16, Try.ntmps16
 go_wp2_with fail
 refine HV.out.mono ?_
 rintro e w1 ⟨rfl, rfl⟩
 go_wp2_with fail
 refine H.out.mono ?_
 rintro e w2 ⟨v, rfl, hv, hb⟩
 have HV2 := Lib.hid (Kd.R_lower hv HA1.out.size)
 have HB2 := Lib.hid (below_step HA1.out hb)
 clear hv hb
 go_wp2_with fail
 go_ret
 exact ⟨_, rfl, HV2.out, HB2.out⟩
end Go.Proofs.Ytpcjppefopjngaa.C
end
