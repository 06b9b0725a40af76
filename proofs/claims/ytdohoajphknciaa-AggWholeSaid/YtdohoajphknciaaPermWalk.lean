/- The walk of perm.From, perm.Right and perm.Turn. -/
import Derived.Test.YtdohoajphknciaaPAx1
import Derived.Test.YtdohoajphknciaaPermLib
import Derived.Test.YtdohoajphknciaaShelf
import Derived.Lib.OwnBridge
import Derived.Lib.Hide
import Derived.Outline
namespace Go.Proofs.Ytdohoajphknciaa.Perm
open Go.RowKit Go.Proofs.Ytdohoajphknciaa.PA Go.Proofs.YtdohoajphknciaaW.PrintWords Go.Proofs.YtdohoajphknciaaW.PrintLast Go.Proofs.YtdohoajphknciaaW.PrintMore

theorem u_mod (x : Int) : IntKind.u64.wrap x = x % 18446744073709551616 := IntKind.wrap_u64 x
theorem wrap_id {x : Int} (h0 : -9223372036854775808 ≤ x) (h1 : x ≤ 9223372036854775807) : wrap64 x = x := by
  unfold wrap64; omega

theorem fact16 : fact 16 = 20922789888000 := by decide

theorem many_l (n : Nat) (hn : n ≤ 16) (d : Nat) : ∀ (i k : Nat), i + d = n → d < k → perm_Many.l0 k (fact i) n i = some ((fact n : Nat) : Int) := by
  induction d with
  | zero =>
    intro i k hi hk
    obtain ⟨k, rfl⟩ : ∃ m, k = m + 1 := ⟨k - 1, by omega⟩
    obtain rfl : i = n := by omega
    simp only [perm_Many.l0]
    rw [if_neg (Int.lt_irrefl _)]
  | succ d ih =>
    intro i k hi hk
    obtain ⟨k, rfl⟩ : ∃ m, k = m + 1 := ⟨k - 1, by omega⟩
    have hlt : (i : Int) < n := by omega
    have hf := fact_mono (show i + 1 ≤ 16 by omega)
    rw [fact16] at hf
    have e1 : wrap64 ((i : Int) + 1) = ((i + 1 : Nat) : Int) := by rw [wrap_id (by omega) (by omega)]; omega
    have e2 : IntKind.u64.wrap ((fact i : Int) * IntKind.u64.wrap ((i + 1 : Nat) : Int)) = ((fact (i + 1) : Nat) : Int) := by
      have e3 : IntKind.u64.wrap ((i + 1 : Nat) : Int) = ((i + 1 : Nat) : Int) := by rw [u_mod]; omega
      have e4 : (fact i : Int) * ((i + 1 : Nat) : Int) = ((fact (i + 1) : Nat) : Int) := by
        rw [← Int.natCast_mul, Nat.mul_comm]; rfl
      rw [e3, e4, u_mod]; omega
    simp only [perm_Many.l0]
    rw [if_pos hlt, e1, e2]
    exact ih (i + 1) k (by omega) (by omega)

theorem many_yes (n : Nat) (hn : n ≤ 16) : perm_Many.f 20 n = some ((fact n : Nat) : Int) := by
  unfold perm_Many.f
  rw [if_neg (by omega), decide_eq_false (by omega)]
  show (if false = true then some 0 else perm_Many.l0 19 1 n 0) = _
  rw [if_neg Bool.false_ne_true]
  exact many_l n hn n 0 19 (by omega) (by omega)
theorem many_no (n : Int) (hn : n < 0 ∨ 16 < n) : perm_Many.f 20 n = some 0 := by
  unfold perm_Many.f
  by_cases h : n < 0
  · rw [if_pos h]; rfl
  · rw [if_neg h, decide_eq_true (show n > 16 by omega)]; rfl

theorem from_no (n k : Int) (w : World) (hn : n < 0 ∨ 16 < n) :
    Calls Try.prog 26 #[.int .i64 n, .int .u64 k] w fun e w' => e = .returned (.tuple #[.slice none 0 0, .int .i64 2]) ∧ Below w.heap.size w w' := by
  have H := Lib.hid (many_no n hn)
  clear hn
  go_enter Try.func26, Try.ntmps26
  go_wp2_with fail
  refine (perm_Many.calls 20 n 0 _ H.out).mono ?_
  rintro e w' ⟨rfl, ⟨m, rfl⟩⟩
  go_wp2_with fail
  go_ret2
  exact ⟨rfl, pw_below_drewN (Below.refl _ _) _⟩


def I (x : Int) : Value := .int .i64 x

/-- 0, 1, .. so far, then zeros. -/
def half (i n : Nat) : List Int := upto i ++ List.replicate (n - i) 0
theorem half_set (i n : Nat) (h : i < n) : (half i n).set i (i : Int) = half (i + 1) n := by
  unfold half
  have hl : (upto i).length = i := by simp [upto]
  rw [List.set_append_right _ _ (by omega), hl, Nat.sub_self, show n - i = (n - (i + 1)) + 1 by omega, List.replicate_succ, List.set_cons_zero, upto_snoc, List.append_assoc]
  rfl
theorem half_full (n : Nat) : half n n = upto n := by simp [half]

theorem del_own {base blk cap j r : Nat} {left : List Int} {W : World} (h : W.ownsRow base 3 1 (.slice (some ⟨blk, 0, none⟩) (r + 1) cap) (r + 1) (left.map I)) (hj : j < r + 1) :
    Calls Try.prog 38 #[.slice (some ⟨blk, 0, none⟩) (r + 1) cap, .int .i64 j, .int .i64 ((j : Int) + 1)] W fun e w' => e = .returned (.slice (some ⟨blk, 0, none⟩) r cap) ∧ w'.ownsRow base 3 1 (.slice (some ⟨blk, 0, none⟩) r cap) r ((left.eraseIdx j).map I) ∧ W.grownBy w' (some blk) := by
  obtain ⟨g, cap', e1, hb, hlt, hn, hm, hl, hH⟩ := Lib.holds_of_ownsRow (enc := I) h (by simp)
  injection e1 with e1 e2 e3
  injection e1 with e1
  injection e1 with e1
  subst e1 e3
  have hc := Try.slices_Delete_int blk 0 cap j (j + 1) left W hH (by omega) (by unfold maxLen at hm; omega) (by omega) (by omega)
  rw [hl] at hc
  refine hc.mono ?_
  rintro e w' ⟨rfl, q, rfl⟩
  have hy : (left.take j ++ left.drop (j + 1) ++ List.replicate (j + 1 - j) 0).length = r + 1 := by
    simp; omega
  have hown := Lib.ownsRow_putRow (q := q) (k := r) h hy (by omega)
  have ht : (left.take j ++ left.drop (j + 1) ++ List.replicate (j + 1 - j) 0).take r = left.eraseIdx j := by
    rw [List.eraseIdx_eq_take_drop_succ, List.take_append_of_le_length (by simp; omega), List.take_of_length_le (by simp; omega)]
  rw [ht] at hown
  refine ⟨by rw [show r + 1 - (j + 1 - j) = r by omega], hown, ?_⟩
  exact ⟨rfl, rfl, rfl, by simp [Go.Sort.ahead], fun k hk hne => by
    have : blk ≠ k := fun e => hne (by rw [e])
    simp [Go.Sort.putRow, Go.Sort.mapBlock, Go.Sort.ahead, Array.getElem?_modify, this]⟩

set_option maxHeartbeats 4000000 in
theorem from_yes (n k : Nat) (w : World) (hn : n ≤ 16) (hk : (k : Int) ≤ 18446744073709551615) :
    Calls Try.prog 26 #[.int .i64 n, .int .u64 k] w fun e w' => ∃ v, e = .returned (.tuple #[v, .int .i64 0]) ∧ w'.ownsRow w.heap.size 3 1 v (ord n k).length ((ord n k).map I) ∧ Below w.heap.size w w' := by
  have H := Lib.hid (many_yes n hn)
  have hf1 : 1 ≤ fact n := fact_pos n
  have hf2 := fact_mono hn
  rw [fact16] at hf2
  obtain ⟨f, hf⟩ : ∃ f, f = fact n := ⟨_, rfl⟩
  rw [← hf] at hf1 hf2
  have b0 : ((f : Int) == 0) = false := by rw [beq_eq_false_iff_ne]; omega
  have hn' : (n : Int) ≤ 16 := by omega
  have HF := Lib.hid hf
  rw [← hf] at H
  clear hf
  obtain ⟨i0, hi, hz0, hz1, hz2⟩ := info_parts info3
  have HB := Lib.hid (Below.refl w.heap.size w)
  go_enter Try.func26, Try.ntmps26
  go_wp2_with fail
  refine (perm_Many.calls 20 n f _ H.out).mono ?_
  rintro e w' ⟨rfl, ⟨m, rfl⟩⟩
  go_wp2_with ((with_reducible refine gate_dst (N := 20) rfl ?_); refine wpList_make_full _ rfl (.tmp 19) (.tmp 19) 58 rfl w.heap.size 3 i0 (.int .i64 0) 1 Try.underlying58 hi hz0 hz1 .i64 .i64 n n n rfl rfl rfl rfl (by rw [hz2]; omega) (by unfold maxLen; omega) (Nat.le_refl _) ?_; intro w1 ho1 hg1)
  have HB1 := Lib.hid (show Below w.heap.size w w1 from ⟨hg1.os, hg1.tape, hg1.output, hg1.size, fun k hk => hg1.block k hk (by simp)⟩)
  have HO1 := Lib.hid ho1
  clear ho1 hg1 HB
  go_loopw [8, 23] (fun _ v23 wr => ∃ i : Nat, i ≤ n ∧ v23 = .int .i64 i ∧ wr.ownsRow w.heap.size 3 1 (.slice (some ⟨w.heap.size, 0, none⟩) n n) n ((half i n).map I) ∧ Below w.heap.size w wr) (fun _ v23 _ => n - (intOf v23).toNat)
  case atStart =>
    refine ⟨0, Nat.zero_le _, rfl, ?_, HB1.out⟩
    have e : (madeCells (Value.int IntKind.i64 0).cells (n * 1)).toList = (half 0 n).map I := by
      rw [show (Value.int IntKind.i64 0).cells = #[Value.int IntKind.i64 0] from rfl, toList_madeCells_one]
      simp [half, upto, I]
    rw [← e]; exact HO1.out
  case round =>
    obtain ⟨i, hin, rfl, ho, hb⟩ := hrel
    clear HB1 HO1
    by_cases hlt : i < n
    · have hc : wr.cell? ⟨w.heap.size, i, none⟩ = some (I ((half i n).getD i 0)) := by
        rw [ho.cellAt i (by omega), List.getElem?_map]
        have : i < (half i n).length := by simp [half, upto]; omega
        simp [List.getD, List.getElem?_eq_getElem this]
      have hfz : wr.frozen? ⟨w.heap.size, i, none⟩ = false := ho.frozenAt i
      generalize I ((half i n).getD i 0) = v0 at hc
      have HO := Lib.hid ho; clear ho
      have HB := Lib.hid hb; clear hb
      go_wp2
      go_roundw
      case rel =>
        refine ⟨i + 1, by omega, by go_num, ?_, HB.out.setCell (Nat.le_refl _) _⟩
        have := (HO.out.stored i (.int .i64 i)).1
        rw [show (Value.int .i64 (i : Int)) = I (i : Int) from rfl, ← List.map_set, half_set i n hlt] at this
        exact this
      case measure => simp [intOf]; omega
    · obtain rfl : i = n := by omega
      rw [half_full] at ho
      have HO := Lib.hid ho; clear ho
      have HB := Lib.hid hb; clear hb
      go_wp2_with ((with_reducible refine gate_dst (N := 32) rfl ?_); refine wpList_make_own _ rfl (.const (.int .i64 0)) (.tmp 31) 58 rfl w.heap.size 3 i0 (.int .i64 0) 1 Try.underlying58 hi hz0 hz1 .i64 .i64 i i rfl rfl rfl (by rw [hz2]; omega) (by unfold maxLen; omega) (HB.out.size) ?_; intro w2 ho2 hg2)
      have hne : wr.heap.size ≠ w.heap.size := by
        have := (HO.out.lt w.heap.size rfl).2
        omega
      have HO2 := Lib.hid (ho2 : w2.ownsRow w.heap.size 3 1 (.slice (some ⟨wr.heap.size, 0, none⟩) 0 i) 0 (([] : List Int).map I))
      have HOL := Lib.hid (HO.out.kept hg2 (Or.inr (by simp [Value.ownBlock])))
      have HB2 := Lib.hid (HB.out.grown hg2 HB.out.size (fun k h => by cases h))
      clear ho2 hg2 HO HB
      go_loopw [1, 6, 7, 9, 10, 11] (fun v1 v6 v7 v9 v10 _ wr => ∃ (r kk : Nat) (left out : List Int), v1 = .int .u64 kk ∧ v6 = .int .u64 (fact r) ∧ v7 = .slice (some ⟨w.heap.size, 0, none⟩) r i ∧ v10 = .int .i64 r ∧ kk < fact r ∧ r ≤ i ∧ left.length = r ∧ wr.ownsRow w.heap.size 3 1 (.slice (some ⟨w.heap.size, 0, none⟩) r i) r (left.map I) ∧
        wr.ownsRow w.heap.size 3 1 v9 out.length (out.map I) ∧ v9.ownBlock ≠ some w.heap.size ∧ out.length + r = i ∧ ord i k = out ++ ordF r kk left ∧ Below w.heap.size w wr) (fun _ _ _ _ v10 _ _ => (intOf v10).toNat)
      case atStart =>
        have hf3 := HF.out
        refine ⟨i, k % fact i, upto i, [], ?_, ?_, rfl, rfl, Nat.mod_lt _ (fact_pos i), Nat.le_refl _, by simp [upto], HOL.out, HO2.out, by simp [Value.ownBlock]; exact hne, by simp, rfl, HB2.out⟩
        · rw [← hf3]; rfl
        · rw [← hf3]
      case round =>
        obtain ⟨r, kk, left, out, rfl, rfl, rfl, rfl, hkk, hri, hll, hol, hoo, hnb, hlen, hord, hb⟩ := hrel
        clear HB2 HOL HO2
        have HOL := Lib.hid hol; clear hol
        have HOO := Lib.hid hoo; clear hoo
        have HB := Lib.hid hb; clear hb
        have HN := Lib.hid hnb; clear hnb
        have HD := Lib.hid hord; clear hord
        cases r with
        | zero =>
          have hr0 : decide (((0 : Nat) : Int) > 0) = false := by decide
          go_wp2
          go_ret2
          have hout : ord i k = out := by rw [HD.out]; simp [ordF]
          refine ⟨_, rfl, ?_, HB.out⟩
          rw [hout]; exact HOO.out
        | succ r =>
          have hj := div_lt hkk
          obtain ⟨G, hG⟩ : ∃ G, G = fact r := ⟨_, rfl⟩
          have hG1 : 1 ≤ G := by rw [hG]; exact fact_pos r
          have hG2 := fact_mono (show r ≤ 16 by omega)
          have hF2 := fact_mono (show r + 1 ≤ 16 by omega)
          rw [fact16, ← hG] at hG2
          rw [fact16] at hF2
          obtain ⟨F, hF⟩ : ∃ F, F = fact (r + 1) := ⟨_, rfl⟩
          have eF : ((fact (r + 1) : Nat) : Int) / ((r : Int) + 1) = (G : Int) := by
            rw [hG, show (r : Int) + 1 = ((r + 1 : Nat) : Int) by omega, ← Int.natCast_ediv]
            congr 1
            show (r + 1) * fact r / (r + 1) = fact r
            exact Nat.mul_div_cancel_left _ (Nat.succ_pos r)
          rw [← hF] at eF hF2
          obtain ⟨j, hjd⟩ : ∃ j, j = kk / fact r := ⟨_, rfl⟩
          have eJ : (kk : Int) / (G : Int) = (j : Int) := by rw [hG, hjd, Int.natCast_ediv]
          obtain ⟨k2, hk2⟩ : ∃ k2, k2 = kk % fact r := ⟨_, rfl⟩
          have eM : (kk : Int) % (G : Int) = (k2 : Int) := by rw [hG, hk2, Int.natCast_emod]
          rw [← hjd] at hj
          have hj' : j < left.length := by omega
          have hc : wr.cell? ⟨w.heap.size, j, none⟩ = some (.int .i64 (left.getD j 0)) := by
            rw [HOL.out.cellAt j (by omega), List.getElem?_map]
            simp [List.getD, List.getElem?_eq_getElem hj', I]
          obtain ⟨x, hx⟩ : ∃ x, x = left.getD j 0 := ⟨_, rfl⟩
          rw [← hx] at hc
          have hk3 : (kk : Int) ≤ 20922789888000 := by omega
          rw [← hF] at hkk
          have Hx := Lib.hid hx; clear hx
          have Hk2 := Lib.hid hk2; clear hk2
          have Hjd := Lib.hid hjd; clear hjd
          have HG := Lib.hid hG; clear hG
          have HF' := Lib.hid hF
          rw [← hF]
          clear hF
          have HL := Lib.hid hll; clear hll
          have HE := Lib.hid hlen; clear hlen
          have hE2 : out.length ≤ 16 := by have := HE.out; omega
          go_wp2_with (at_builtin; refine print_append_cells (w0 := w) w.heap.size rfl (.tmp 49) (.tmp 54) 58 3 (.int .i64 0) 1 8 rfl Try.underlying58 info3 rfl (by decide) (by decide) u9 out.length (out.map I) [.int .i64 x] rfl rfl rfl ?c1 HOO.out HB.out HB.out.size ?c2 ?_; (case c1 => (intro u hu; rw [List.mem_singleton.1 hu]; rfl)); (case c2 => omega); intro v9 w4 ho4 hb4 hg4 hat)
          have HL4 := (HOL.out.alloc (.cells #[.int .i64 x] 3)).lt w.heap.size rfl
          have hlt4 := (HOL.out).lt w.heap.size rfl
          have hv9 : v9.ownBlock ≠ some w.heap.size := by
            rcases hat with e | ⟨b, e, hb⟩
            · rw [e]; exact HN.out
            · rw [e]; intro q; injection q with q; omega
          have HOL4 := HOL.out.kept hg4 (Or.inr (fun e => HN.out e.symm))
          have HV := Lib.hid hv9
          have HO4 := Lib.hid ho4
          have HB4 := Lib.hid hb4
          clear ho4 hb4 hg4 hat hv9 HL4 hlt4
          refine (del_own HOL4 hj).mono ?_
          rintro e w5 ⟨rfl, ho5, hg5⟩
          have HO5 := Lib.hid ho5
          have HG5 := Lib.hid hg5
          clear ho5 hg5 HOL4
          go_wp2
          go_roundw
          case rel =>
            have h1 := HE.out
            have h2 := HL.out
            have h3 := Hk2.out
            refine ⟨r, kk % fact r, left.eraseIdx j, out ++ [x], ?_, ?_, rfl, by go_num, Nat.mod_lt _ (fact_pos r), by omega, ?_, HO5.out, ?_, HV.out, ?_, ?_, HB4.out.grown HG5.out HB4.out.size (fun k h => by cases h; exact Nat.le_refl _)⟩
            · rw [h3]
            · rw [HG.out]
            · rw [List.length_eraseIdx, if_pos (by omega)]; omega
            · have := HO4.out.kept HG5.out (Or.inr HV.out)
              simpa [I] using this
            · simp; omega
            · rw [HD.out, ordF, ← Hjd.out, ← Hx.out, List.append_assoc]; rfl
          case measure => simp [intOf]

/-- What perm.From tells. -/
def perm_From.f (n k : Int) : Option (List Int × Int) := if 0 ≤ n ∧ n ≤ 16 ∧ 0 ≤ k ∧ k ≤ 18446744073709551615 then some (ord n.toNat k.toNat, 0) else if n < 0 ∨ 16 < n then some ([], 2) else none

theorem R_of_owns {w : World} {base : Nat} {v : Value} {l : List Int} (h : w.ownsRow base 3 1 v l.length (l.map I)) : Kd.R (Kd.int .i64) 3 w base (fun _ => True) v l := by
  refine ⟨fun _ _ => trivial, l.map I, h, ?_⟩
  clear h
  induction l with
  | nil => exact Reps.none _ _
  | cons x l ih => exact Reps.one (show Kd.M (Kd.int .i64) _ _ _ x [.int .i64 x] from rfl) ih

theorem perm_From.calls (a0 a1 : Int) (r1 : List Int) (r2 : Int) (w : World) (h : perm_From.f a0 a1 = some (r1, r2)) :
    Calls Try.prog 26 #[.int .i64 a0, .int .u64 a1] w fun e w' => ∃ v0_ : Value, e = .returned (.tuple #[v0_, .int .i64 r2]) ∧ Kd.R (Kd.int .i64) 3 w' w.heap.size (fun _ => True) v0_ r1 ∧ Below w.heap.size w w' := by
  unfold perm_From.f at h
  split at h
  · rename_i hr
    cases h
    obtain ⟨n, rfl⟩ := Int.eq_ofNat_of_zero_le hr.1
    obtain ⟨k, rfl⟩ := Int.eq_ofNat_of_zero_le hr.2.2.1
    simp only [Int.toNat_natCast]
    refine (from_yes n k w (by omega) hr.2.2.2).mono ?_
    rintro e w' ⟨v, rfl, ho, hb⟩
    exact ⟨v, rfl, R_of_owns ho, hb⟩
  · split at h
    · rename_i hr
      cases h
      refine (from_no a0 a1 w hr).mono ?_
      rintro e w' ⟨rfl, hb⟩
      exact ⟨_, rfl, Kd.R_nil _ _ _ _ _, hb⟩
    · cases h

/-- An array of its own in a block. -/
def Arr (w : World) (B : Nat) (T : Nat) (cs : List Value) : Prop := w.heap[B]? = some (.cells cs.toArray T (0, 0))
theorem Arr.cell {w : World} {B T : Nat} {cs : List Value} (h : Arr w B T cs) (i : Nat) (hi : i < cs.length) : w.cell? ⟨B, i, none⟩ = some cs[i] := by
  unfold Arr at h
  simp [World.cell?, h, hi]
theorem Arr.free {w : World} {B T : Nat} {cs : List Value} (h : Arr w B T cs) (i : Nat) : w.frozen? ⟨B, i, none⟩ = false := by
  unfold Arr at h
  simp [World.frozen?, h]
theorem Arr.set {w : World} {B T : Nat} {cs : List Value} (h : Arr w B T cs) (i : Nat) (v : Value) : Arr (w.setCell ⟨B, i, none⟩ v) B T (cs.set i v) := by
  unfold Arr at h ⊢
  simp [World.setCell, Array.getElem?_modify, h]
theorem Arr.new (w : World) (T : Nat) (cs : List Value) : Arr (w.alloc (.cells cs.toArray T (0, 0))) w.heap.size T cs := by
  unfold Arr
  show (w.heap.push _)[w.heap.size]? = _
  simp

/-- Numbers below their count, each once. -/
def isOrd (l : List Int) : Prop := l.length ≤ 16 ∧ (∀ x ∈ l, 0 ≤ x ∧ x < l.length) ∧ l.Nodup
instance (l : List Int) : Decidable (isOrd l) := by unfold isOrd; infer_instance
def perm_Right.f (l : List Int) : Option Bool := if isOrd l then some true else none

/-- Which have been seen. -/
def marks (l : List Int) : List Value := (List.range 16).map (fun j : Nat => Value.bool (decide ((j : Int) ∈ l)))
theorem marks_nil : marks [] = List.replicate 16 (.bool false) := by simp [marks]; rfl
theorem marks_len (l : List Int) : (marks l).length = 16 := by simp [marks]
theorem marks_get (l : List Int) (j : Nat) (hj : j < 16) : (marks l)[j]? = some (.bool (decide ((j : Int) ∈ l))) := by
  simp [marks, hj]
theorem marks_set (l : List Int) (x : Nat) (hx : x < 16) : (marks l).set x (.bool true) = marks (l ++ [(x : Int)]) := by
  apply List.ext_getElem?
  intro j
  rw [List.getElem?_set, marks_len]
  by_cases hj : j < 16
  · rw [marks_get _ _ hj, marks_get _ _ hj]
    by_cases e : x = j
    · subst e; simp [hx]
    · rw [if_neg e]
      congr 2
      have : ¬ (j : Int) = (x : Int) := by omega
      simp [this]
  · rw [List.getElem?_eq_none (by rw [marks_len]; omega), List.getElem?_eq_none (by rw [marks_len]; omega)]
    split
    · omega
    · rfl

set_option maxHeartbeats 4000000 in
theorem right_yes (A0 : Option Addr) (c0 : Nat) (l : List Int) (w : World) (hr0 : Kd.C (Kd.int .i64) w A0 l.length l) (h : isOrd l) :
    Calls Try.prog 39 #[.slice A0 l.length c0] w fun e w' => e = .returned (.bool true) ∧ Below w.heap.size w w' := by
  obtain ⟨h16, hin, hnd⟩ := h
  have h16' : (l.length : Int) ≤ 16 := by omega
  have HC := Lib.hid hr0; clear hr0
  have HIN := Lib.hid hin; clear hin
  go_enter Try.func39, Try.ntmps39
  go_wp2
  go_loopw [5, 11] (fun _ v11 wr => ∃ i : Nat, i ≤ l.length ∧ v11 = .int .i64 i ∧ Arr wr w.heap.size 83 (marks (l.take i)) ∧ Below w.heap.size w wr) (fun _ v11 _ => l.length - (intOf v11).toNat)
  case atStart => exact ⟨0, Nat.zero_le _, rfl, by rw [List.take_zero, marks_nil]; exact Arr.new w 83 (List.replicate 16 (.bool false)), (Below.refl _ _).alloc (Nat.le_refl _) _⟩
  case round =>
    obtain ⟨i, hi, rfl, ha, hb⟩ := hrel
    by_cases hlt : i < l.length
    · obtain ⟨ad, hA, hcell⟩ := HC.out.2.2 (by omega)
      subst hA
      obtain ⟨c, hcl, hp, hcc⟩ := hcell i l[i] (List.getElem?_eq_getElem hlt)
      have hp' : c = [.int .i64 l[i]] := hp
      subst hp'
      have hc0 := hcc 0 _ rfl
      rw [show (Kd.int .i64).sz = 1 from rfl, Nat.mul_one, Nat.add_zero] at hc0
      have hxr := HIN.out l[i] (List.getElem_mem hlt)
      obtain ⟨x, hx⟩ : ∃ x : Nat, l[i] = (x : Int) := ⟨l[i].toNat, by omega⟩
      have hnew : (x : Int) ∉ l.take i := by
        rw [← hx]
        intro hm
        obtain ⟨j, hj, e⟩ := List.getElem_of_mem hm
        rw [List.getElem_take] at e
        have hji : j < i := by simp at hj; omega
        exact (List.pairwise_iff_getElem.1 hnd) j i (by omega) hlt hji e
      rw [hx] at hc0 hxr
      have hw0 : wr.cell? (ad.add i) = some (.int .i64 (x : Int)) := by rw [hb.cell (World.block_lt_of_cell? w _ hc0)]; exact hc0
      have hx16 : x < 16 := by omega
      have hm : wr.cell? ⟨w.heap.size, x, none⟩ = some (.bool false) := by
        have h1 := marks_get (l.take i) x hx16
        rw [decide_eq_false hnew] at h1
        obtain ⟨q, e⟩ := List.getElem?_eq_some_iff.1 h1
        have := ha.cell x q
        rw [e] at this
        exact this
      have hf := ha.free x
      have hx1 : (x : Int) < (l.length : Int) := hxr.2
      have HX := Lib.hid hx; clear hx
      have HA := Lib.hid ha; clear ha
      have HB := Lib.hid hb; clear hb
      clear hnew hc0 hcc hcell hxr
      go_wp2
      go_roundw
      case rel =>
        refine ⟨i + 1, by omega, by go_num, ?_, HB.out.setCell (Nat.le_refl _) _⟩
        have := HA.out.set x (.bool true)
        rw [marks_set _ _ hx16, ← HX.out, ← List.take_succ_eq_append_getElem hlt] at this
        exact this
      case measure => simp [intOf]; omega
    · obtain rfl : i = l.length := by omega
      go_wp2
      go_ret
      exact ⟨rfl, hb⟩

theorem perm_Right.calls (A0 : Option Addr) (c0 : Nat) (l0 : List Int) (r : Bool) (w : World) (hr0 : Kd.C (Kd.int .i64) w A0 l0.length l0) (_ : l0.length ≤ c0) (h : perm_Right.f l0 = some r) :
    Calls Try.prog 39 #[.slice A0 l0.length c0] w fun e w' => e = .returned (.bool r) ∧ Below w.heap.size w w' := by
  unfold perm_Right.f at h
  split at h
  · rename_i hr
    cases h
    exact right_yes A0 c0 l0 w hr0 hr
  · cases h
end Go.Proofs.Ytdohoajphknciaa.Perm
