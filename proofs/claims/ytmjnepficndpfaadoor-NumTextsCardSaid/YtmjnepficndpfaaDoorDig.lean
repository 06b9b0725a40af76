/- The digits of a number, as num.Digits tells them. -/
import Derived.Test.YtmjnepficndpfaaDoorProg
import Derived.Test.YtmjnepficndpfaaDoorDec
import Derived.WalkKit
import Derived.Below
import Derived.LoopTactic
import Derived.Outline
import Derived.OwnWalk
import Derived.Laws.Rows
import Derived.Laws.IdiomStrings
import Derived.Lib.Hide
namespace Go.Proofs.YtmjnepficndpfaaDoor.Dig
open Go.RowKit

/-- An array of its own in a block. -/
def Arr (w : World) (B : Nat) (T : Nat) (cs : List Value) : Prop := w.heap[B]? = some (.cells cs.toArray T (0, 0))

theorem Arr.cell {w : World} {B T : Nat} {cs : List Value} (h : Arr w B T cs) (i : Nat) (hi : i < cs.length) : w.cell? ⟨B, i, none⟩ = some cs[i] := by
  unfold Arr at h
  simp [World.cell?, h, hi]
theorem Arr.free {w : World} {B T : Nat} {cs : List Value} (h : Arr w B T cs) (i : Nat) : w.frozen? ⟨B, i, none⟩ = false := by
  unfold Arr at h
  simp [World.frozen?, h]
theorem Arr.set {w : World} {B T : Nat} {cs : List Value} (h : Arr w B T cs) (i : Nat) (v : Value) : Arr (w.setCell ⟨B, i, none⟩ v) B T (cs.set i v) := by
  unfold Arr at h ⊢
  simp [World.setCell, Array.getElem?_modify, h]
theorem Arr.new (w : World) (T : Nat) (cs : List Value) : Arr (w.alloc (.cells cs.toArray T (0, 0))) w.heap.size T cs := by
  unfold Arr
  show (w.heap.push _)[w.heap.size]? = _
  simp

theorem slice33 (W : World) (a : Addr) (n : Int) (l : Nat) (hn : n = l) (hl : l < 20) : (Instr.sliceAt 33 (.pointer (some a)) (some (.int .i64 n)) none none).run Tryd.prog W = .ok (.slice (some (a.add l)) (20 - l) (20 - l)) W := by
  subst hn
  have h1 : Tryd.prog.arrayLen 33 = 20 := by kernel_rfl
  have h2 : Tryd.prog.elem 33 = 5 := by kernel_rfl
  have hu : Tryd.prog.underlying 33 = some (.array 20 5) := by kernel_rfl
  have h3 : ∀ w, (sizeOf 5).run Tryd.prog w = .ok 1 w := fun w => by kernel_rfl
  rw [run_sliceAt_array_l W 33 a (by rw [h1, h2]; exact hu) .i64 l (by omega) (by rw [h1]; omega), h1, h2, h3]
  simp [Result.andThen, slicedAt]
  omega

def bv (c : UInt8) : Value := .int .u8 c.toNat

theorem conv_arr {W : World} {B T : Nat} {cs : List Value} (h : Arr W B T cs) (t : Nat) (l : List UInt8) (hl : cs.drop t = l.map bv) (n c : Nat) (hn : n = l.length) : (convert 34 9 (.slice (some ⟨B, t, none⟩) n c)).run Tryd.prog W = .ok (.string ⟨l.toArray⟩) W := by
  subst hn
  refine run_convert_bytes_back W 34 9 5 ⟨B, t, none⟩ c l (by kernel_rfl) (by kernel_rfl) (by kernel_rfl) fun j hj => ?_
  have e : cs[t + j]? = some (bv l[j]) := by
    rw [← List.getElem?_drop, hl, List.getElem?_map, List.getElem?_eq_getElem hj]; rfl
  obtain ⟨hlt, he⟩ := List.getElem?_eq_some_iff.1 e
  have := h.cell (t + j) hlt
  rw [he] at this
  rw [Addr.add_lit]
  exact this

theorem drop_set1 (cs : List Value) (t : Nat) (x : Value) (h : t < cs.length) : (cs.set t x).drop t = x :: cs.drop (t + 1) := by
  rw [List.drop_eq_getElem_cons (by simpa using h)]
  congr 1
  · simp
  · rw [List.drop_set]; simp
theorem drop_set2 (cs : List Value) (t : Nat) (x y : Value) (h : t + 1 < cs.length) : ((cs.set (t + 1) x).set t y).drop t = y :: x :: cs.drop (t + 2) := by
  rw [drop_set1 _ _ _ (by simp; omega), drop_set1 _ _ _ h]

theorem digit_bv (m : Nat) : (Value.int .u8 (48 + (m : Int) % 10)) = bv (UInt8.ofNat (48 + m % 10)) := by
  unfold bv
  congr 1
  simp
  omega

/-- Ahead of each round: what stands so far, and what is still to be told. -/
def Rel (N : Nat) (w wr : World) (v4 v5 : Value) : Prop := ∃ (t m : Nat) (cs : List Value) (suf : List UInt8), v4 = .int .i64 t ∧ v5 = .int .u64 m ∧ Arr wr w.heap.size 33 cs ∧ cs.length = 20 ∧ cs.drop t = suf.map bv ∧ t + suf.length = 20 ∧ (dec m).length + suf.length ≤ 19 ∧ dec N = dec m ++ suf ∧ (m : Int) ≤ 9223372036854775808 ∧ Below w.heap.size w wr

set_option maxHeartbeats 1000000 in
theorem digits_neg (a : Int) (w : World) (h0 : -9223372036854775808 ≤ a) (hn : a < 0) :
    Calls Tryd.prog 6 #[.int .i64 a] w fun e w' => e = .returned (.string ⟨(text a).toArray⟩) ∧ Below w.heap.size w w' := by
  obtain ⟨N, hN⟩ : ∃ N : Nat, N = a.natAbs := ⟨_, rfl⟩
  have hw : IntKind.u64.wrap (-IntKind.u64.wrap a) = (N : Int) := by
    rw [IntKind.wrap_u64, IntKind.wrap_u64]; omega
  have hNle : (N : Int) ≤ 9223372036854775808 := by omega
  have hlen := dec_len 18 N (by omega)
  have HN := Lib.hid hN; clear hN
  go_enter Tryd.func6, Tryd.ntmps6
  go_wp2
  have Hw := Lib.hid hw; clear hw
  go_loopw [4, 5] (fun v4 v5 wr => Rel N w wr v4 v5) (fun _ v5 _ => (intOf v5).toNat)
  case atStart => exact ⟨20, N, List.replicate 20 (.int .u8 0), [], rfl, rfl, Arr.new _ _ _, rfl, by simp, rfl, by simpa using hlen, by simp, hNle, (Below.refl _ _).alloc (Nat.le_refl _) _⟩
  case round =>
    obtain ⟨t, m, cs, suf, rfl, rfl, ha, hcs, hd, ht, hl, hdec, hm, hb⟩ := hrel
    have hp := dec_pos m
    obtain ⟨t, rfl⟩ : ∃ q, t = q + 2 := ⟨t - 2, by omega⟩
    have hc := ha.cell (t + 1) (by omega)
    have hf := ha.free (t + 1)
    have hc1 := ha.cell t (by omega)
    have hf1 := ha.free t
    generalize cs[t + 1] = v0 at hc
    generalize cs[t] = v1 at hc1
    have g1 : IntKind.u8.wrap (48 + (m : Int) % 10) = 48 + (m : Int) % 10 := IntWalk.u8_in _ (by omega)
    have ht20 : t + 1 < 20 := by omega
    have Hcs := Lib.hid hcs; clear hcs
    have Hd := Lib.hid hd; clear hd
    have Hdec := Lib.hid hdec; clear hdec
    have Ht := Lib.hid ht; clear ht
    have Ha := Lib.hid ha; clear ha
    by_cases h10 : m < 10
    · have e0 : ((m : Int) / 10 == 0) = true := by rw [beq_iff_eq]; omega
      have hs : ∀ W, (Instr.sliceAt 33 (.pointer (some ⟨w.heap.size, 0, none⟩)) (some (.int .i64 ((t : Int) + 2 - 1 - 1))) none none).run Tryd.prog W = _ := fun W => slice33 W _ _ t (by omega) (by omega)
      have hcv : (convert 34 9 (.slice (some ⟨w.heap.size, t, none⟩) (20 - t) (20 - t))).run Tryd.prog ((wr.setCell ⟨w.heap.size, t + 1, none⟩ (.int .u8 (48 + (m : Int) % 10))).setCell ⟨w.heap.size, t, none⟩ (.int .u8 45)) = .ok (.string ⟨(text a).toArray⟩) ((wr.setCell ⟨w.heap.size, t + 1, none⟩ (.int .u8 (48 + (m : Int) % 10))).setCell ⟨w.heap.size, t, none⟩ (.int .u8 45)) := by
        have hcl := Hcs.out
        refine conv_arr ((Ha.out.set _ _).set _ _) t (text a) ?_ _ _ ?_
        · rw [drop_set2 _ _ _ _ (by omega), Hd.out, digit_bv, text_neg hn, ← HN.out, Hdec.out, dec_small h10, Nat.mod_eq_of_lt h10]; rfl
        · rw [text_neg hn, ← HN.out, Hdec.out, dec_small h10]
          have := Ht.out
          simp; omega
      go_wp2
      go_ret
      exact ⟨rfl, (hb.setCell (Nat.le_refl _) _).setCell (Nat.le_refl _) _⟩
    · have e0 : ((m : Int) / 10 == 0) = false := by rw [beq_eq_false_iff_ne]; omega
      go_wp2
      go_roundw
      case rel =>
        have h1 := Ht.out
        have h2 := Hcs.out
        have h3 : dec N = dec (m / 10) ++ (UInt8.ofNat (48 + m % 10) :: suf) := by rw [Hdec.out, dec_big h10]; simp
        have h4 : (dec N).length = (dec m).length + suf.length := by rw [Hdec.out]; simp
        have h5 : (dec N).length = (dec (m / 10)).length + (suf.length + 1) := by rw [h3]; simp
        exact ⟨t + 1, m / 10, cs.set (t + 1) (.int .u8 (48 + (m : Int) % 10)), UInt8.ofNat (48 + m % 10) :: suf, by go_num, by go_num, Ha.out.set _ _, by simpa using h2, by rw [drop_set1 _ _ _ (by omega), Hd.out, digit_bv]; rfl, by simp; omega, by simp; omega, h3, by omega, hb.setCell (Nat.le_refl _) _⟩
      case measure => simp [intOf]; omega

set_option maxHeartbeats 1000000 in
theorem digits_nat (a : Int) (w : World) (h0 : 0 ≤ a) (h1 : a ≤ 9223372036854775807) :
    Calls Tryd.prog 6 #[.int .i64 a] w fun e w' => e = .returned (.string ⟨(text a).toArray⟩) ∧ Below w.heap.size w w' := by
  obtain ⟨N, rfl⟩ : ∃ N : Nat, a = N := ⟨a.toNat, by omega⟩
  have hn : ¬ (N : Int) < 0 := by omega
  have hw : IntKind.u64.wrap (N : Int) = (N : Int) := by
    rw [IntKind.wrap_u64]; omega
  have hNle : (N : Int) ≤ 9223372036854775808 := by omega
  have hlen := dec_len 18 N (by omega)
  go_enter Tryd.func6, Tryd.ntmps6
  go_wp2
  have Hw := Lib.hid hw; clear hw
  go_loopw [4, 5] (fun v4 v5 wr => Rel N w wr v4 v5) (fun _ v5 _ => (intOf v5).toNat)
  case atStart => exact ⟨20, N, List.replicate 20 (.int .u8 0), [], rfl, rfl, Arr.new _ _ _, rfl, by simp, rfl, by simpa using hlen, by simp, hNle, (Below.refl _ _).alloc (Nat.le_refl _) _⟩
  case round =>
    obtain ⟨t, m, cs, suf, rfl, rfl, ha, hcs, hd, ht, hl, hdec, hm, hb⟩ := hrel
    have hp := dec_pos m
    obtain ⟨t, rfl⟩ : ∃ q, t = q + 1 := ⟨t - 1, by omega⟩
    have hc := ha.cell t (by omega)
    have hf := ha.free t
    generalize cs[t] = v0 at hc
    have g1 : IntKind.u8.wrap (48 + (m : Int) % 10) = 48 + (m : Int) % 10 := IntWalk.u8_in _ (by omega)
    have ht20 : t < 20 := by omega
    have Hcs := Lib.hid hcs; clear hcs
    have Hd := Lib.hid hd; clear hd
    have Hdec := Lib.hid hdec; clear hdec
    have Ht := Lib.hid ht; clear ht
    have Ha := Lib.hid ha; clear ha
    by_cases h10 : m < 10
    · have e0 : ((m : Int) / 10 == 0) = true := by rw [beq_iff_eq]; omega
      have hs : ∀ W, (Instr.sliceAt 33 (.pointer (some ⟨w.heap.size, 0, none⟩)) (some (.int .i64 (t : Int))) none none).run Tryd.prog W = _ := fun W => slice33 W _ _ t (by omega) (by omega)
      have hcv : (convert 34 9 (.slice (some ⟨w.heap.size, t, none⟩) (20 - t) (20 - t))).run Tryd.prog (wr.setCell ⟨w.heap.size, t, none⟩ (.int .u8 (48 + (m : Int) % 10))) = .ok (.string ⟨(text N).toArray⟩) (wr.setCell ⟨w.heap.size, t, none⟩ (.int .u8 (48 + (m : Int) % 10))) := by
        have hcl := Hcs.out
        refine conv_arr (Ha.out.set _ _) t (text N) ?_ _ _ ?_
        · rw [drop_set1 _ _ _ (by omega), Hd.out, digit_bv, text_nat (by omega), Int.natAbs_natCast, Hdec.out, dec_small h10, Nat.mod_eq_of_lt h10]; rfl
        · rw [text_nat (by omega), Int.natAbs_natCast, Hdec.out, dec_small h10]
          have := Ht.out
          simp; omega
      go_wp2
      go_ret
      exact ⟨rfl, hb.setCell (Nat.le_refl _) _⟩
    · have e0 : ((m : Int) / 10 == 0) = false := by rw [beq_eq_false_iff_ne]; omega
      go_wp2
      go_roundw
      case rel =>
        have h1 := Ht.out
        have h2 := Hcs.out
        have h3 : dec N = dec (m / 10) ++ (UInt8.ofNat (48 + m % 10) :: suf) := by rw [Hdec.out, dec_big h10]; simp
        have h4 : (dec N).length = (dec m).length + suf.length := by rw [Hdec.out]; simp
        have h5 : (dec N).length = (dec (m / 10)).length + (suf.length + 1) := by rw [h3]; simp
        exact ⟨t, m / 10, cs.set t (.int .u8 (48 + (m : Int) % 10)), UInt8.ofNat (48 + m % 10) :: suf, by go_num, by go_num, Ha.out.set _ _, by simpa using h2, by rw [drop_set1 _ _ _ (by omega), Hd.out, digit_bv]; rfl, by simp; omega, by simp; omega, h3, by omega, hb.setCell (Nat.le_refl _) _⟩
      case measure => simp [intOf]; omega

/-- What num.Digits tells: of a number of 64 bits its text. -/
def num_Digits.f (a0 : Int) : Option ByteArray := if -9223372036854775808 ≤ a0 ∧ a0 ≤ 9223372036854775807 then some ⟨(text a0).toArray⟩ else none

theorem num_Digits.calls (a0 : Int) (r : ByteArray) (w : World) (h : num_Digits.f a0 = some r) :
    Calls Tryd.prog 6 #[.int .i64 a0] w fun e w' => e = .returned (.string r) ∧ Below w.heap.size w w' := by
  unfold num_Digits.f at h
  split at h
  · rename_i hr
    cases h
    by_cases hn : a0 < 0
    · exact digits_neg a0 w hr.1 hn
    · exact digits_nat a0 w (by omega) hr.2
  · cases h
end Go.Proofs.YtmjnepficndpfaaDoor.Dig
