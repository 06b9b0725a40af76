/- The laws of agg: the plays, the forks. -/
import Derived.Test.YtdohoajphknciaaAggP
set_option linter.unusedSimpArgs false
set_option linter.unusedVariables false
namespace Go.Proofs.Ytdohoajphknciaa.Agg
open Go.RowKit Go.Proofs.Ytdohoajphknciaa.PT Go.Proofs.Ytdohoajphknciaa.Pure Go.Proofs.Ytdohoajphknciaa.Perm Go.Proofs.YtdohoajphknciaaW.PrintWords Go.Proofs.YtdohoajphknciaaW.PrintLast Go.Proofs.YtdohoajphknciaaW.PrintMore

theorem Two.below {w w' : World} {base : Nat} {b : Bool} {A R : Option Addr} {o f : Int} {ls : List (List Int)} (h : Two w base b A R o f ls) (hb : Below w.heap.size w w') : Two w' base b A R o f ls := ⟨h.a.below hb, h.r.below hb, h.la, h.lr⟩
abbrev gDeed (x : Int × Int × Int) : Prop := (Lit.int .i64 x.1).wf = true ∧ (Lit.int .i64 x.2.1).wf = true ∧ (Lit.int .i64 x.2.2).wf = true

set_option maxHeartbeats 4000000 in
theorem plays_walk (W : World) (o : Int) (_ : (Lit.int .u8 o).wf = true) (n : Int) (_ : (Lit.int .i64 n).wf = true) (A : Option Addr) (c : Nat) (D : List (Int × Int × Int)) (_ : D.length ≤ c) (hr : Kd.C Deed W A D.length D) (_ : D.length ≤ maxLen ∧ ∀ x ∈ D, gDeed x) (hb : D.length * 24 ≤ 140737488351232) :
  Calls Try.prog 3 #[.int .u8 o, .int .i64 n, .slice A D.length c] W fun e w' => e = .returned (.bool true) ∧ Below W.heap.size W w' := by
 have HR := Lib.hid hr
 clear hr
 go_enter Try.func3, Try.ntmps3
 go_wp2_with fail
 refine (play_ok o n A c D _ HR.out (by omega)).mono ?_
 rintro e w1 ⟨P, Q, rfl, ht, hb1⟩
 have HT := Lib.hid ht
 have HB1 := Lib.hid hb1
 clear ht hb1
 go_wp2_with fail
 refine (live_ok _).mono ?_
 rintro e w2 ⟨rfl, hb2⟩
 have HT2 := Lib.hid (HT.out.below hb2)
 have HB2 := Lib.hid (below_step HB1.out hb2)
 clear hb2
 go_wp2_with fail
 refine (same_ok W.heap.size (isL o n) P Q o (fst0 o) _ D.length _ HT2.out (fun e => ((may_new e).plays _).less (by rw [List.length_take]; omega)) (by omega)).mono ?_
 rintro e w3 ⟨rfl, hb3⟩
 have HB3 := Lib.hid (below_step HB2.out hb3)
 clear hb3
 go_wp2
 go_ret
 exact ⟨rfl, HB3.out⟩

set_option maxHeartbeats 8000000 in
theorem forks_walk (W : World) (o : Int) (_ : (Lit.int .u8 o).wf = true) (A : Option Addr) (c : Nat) (D : List (Int × Int × Int)) (_ : D.length ≤ c) (hr : Kd.C Deed W A D.length D) (_ : D.length ≤ maxLen ∧ ∀ x ∈ D, gDeed x) (hb : D.length * 24 ≤ 140737488351232)
  (A' : Option Addr) (c' : Nat) (E : List (Int × Int × Int)) (_ : E.length ≤ c') (hr' : Kd.C Deed W A' E.length E) (_ : E.length ≤ maxLen ∧ ∀ x ∈ E, gDeed x) (hb' : E.length * 24 ≤ 140737488351232) :
  Calls Try.prog 5 #[.int .u8 o, .slice A D.length c, .slice A' E.length c'] W fun e w' => e = .returned (.bool true) ∧ Below W.heap.size W w' := by
 have HR := Lib.hid hr
 have HD := Lib.hid hr'
 clear hr hr'
 go_enter Try.func5, Try.ntmps5
 go_wp2_with fail
 refine (play_ok o 3 A c D _ HR.out (by omega)).mono ?_
 rintro e w1 ⟨P, Q, rfl, ht, hb1⟩
 have HT := Lib.hid ht
 have HB1 := Lib.hid hb1
 clear ht hb1
 go_wp2_with fail
 refine (live_ok _).mono ?_
 rintro e w2 ⟨rfl, hb2⟩
 have HT2 := Lib.hid (HT.out.below hb2)
 have HB2 := Lib.hid (below_step HB1.out hb2)
 clear hb2
 go_wp2_with fail
 refine (fork_A (isL o 3) P o (fst0 o) _ _ HT2.out.a).mono ?_
 rintro e w3 ⟨F, rfl, hf, hlf, hb3⟩
 have HF := Lib.hid hf
 have HLF := Lib.hid hlf
 have HT3 := Lib.hid (HT2.out.below hb3)
 have HB3 := Lib.hid (below_step HB2.out hb3)
 have HB23 := Lib.hid hb3
 clear hf hlf hb3
 obtain ⟨ls, hls⟩ : ∃ ls, ls = plays (List.replicate (Int.toNat 3) []) (D.take 50) := ⟨_, rfl⟩
 have hmay : isL o 3 = true → May o (fst0 o) ls 50 := fun e => by rw [hls]; exact ((may_new e).plays _).less (by rw [List.length_take]; omega)
 rw [← hls] at HT3 HF
 have HT2' := Lib.hid (show Two w2 W.heap.size (isL o 3) P Q o (fst0 o) ls from by rw [hls]; exact HT2.out)
 have HM := Lib.hid hmay
 clear hmay hls
 go_wp2_with fail
 refine (fork_R (isL o 3) Q o (fst0 o) _ _ HT3.out.r (fun e => (HM.out e).less (by decide))).mono ?_
 rintro e w4 ⟨G, rfl, hg, hlg, hb4⟩
 have HT4 := Lib.hid (HT3.out.below hb4)
 have HB4 := Lib.hid (below_step HB3.out hb4)
 have HB24 := Lib.hid (below_step HB23.out hb4)
 have HFG := Lib.hid (show Two w4 w2.heap.size (isL o 3) F G o (fst0 o) ls from ⟨HF.out.below hb4, hg, HLF.out, fun g e => Nat.le_trans HB23.out.size (hlg g e)⟩)
 clear hg hlg hb4
 go_wp2_with fail
 go_loopw [12] (fun v12 wr => ∃ i : Nat, i ≤ E.length ∧ i ≤ 14 ∧ v12 = .int .i64 i ∧ Two wr w2.heap.size (isL o 3) F G o (fst0 o) (plays ls (E.take i)) ∧ Below w2.heap.size w2 wr) (fun v12 _ => 14 - (intOf v12).toNat)
 case atStart => exact ⟨0, Nat.zero_le _, by decide, rfl, HFG.out, HB24.out⟩
 case round =>
  obtain ⟨i, hi, hi14, rfl, ht, hb⟩ := hrel
  by_cases hlt : i < E.length ∧ i < 14
  ·obtain ⟨hlt, h14⟩ := hlt
   have hd1 : decide ((i : Int) < (E.length : Int)) = true := decide_eq_true (by omega)
   have hd2 : decide ((i : Int) < 14) = true := decide_eq_true (by omega)
   obtain ⟨ad, rfl, d1, d2, d3⟩ := deed_at HD.out hlt
   have l1 := World.block_lt_of_cell? W _ d1
   have l2 := World.block_lt_of_cell? W _ d2
   have l3 := World.block_lt_of_cell? W _ d3
   have q1 := (hb.cell (Nat.lt_of_lt_of_le l1 HB2.out.size)).trans ((HB2.out.cell l1).trans d1)
   have q2 := (hb.cell (Nat.lt_of_lt_of_le l2 HB2.out.size)).trans ((HB2.out.cell l2).trans d2)
   have q3 := (hb.cell (Nat.lt_of_lt_of_le l3 HB2.out.size)).trans ((HB2.out.cell l3).trans d3)
   obtain ⟨x1, hx1⟩ : ∃ x, x = E[i].1 := ⟨_, rfl⟩
   obtain ⟨x2, hx2⟩ : ∃ x, x = E[i].2.1 := ⟨_, rfl⟩
   obtain ⟨x3, hx3⟩ : ∃ x, x = E[i].2.2 := ⟨_, rfl⟩
   rw [← hx1] at q1
   rw [← hx2] at q2
   rw [← hx3] at q3
   have HTW := Lib.hid ht
   have HB := Lib.hid hb
   have HX := Lib.hid (show E[i] = (x1, x2, x3) from by rw [hx1, hx2, hx3])
   clear ht hb d1 d2 d3 hx1 hx2 hx3 l1 l2 l3
   have q2' : wr.cell? { block := (ad.add (i * 3)).block, off := (ad.add (i * 3)).off + 1 } = some (Value.int IntKind.i64 x2) := by rw [← add_more _ _ (by decide)]; exact q2
   have q3' : wr.cell? { block := (ad.add (i * 3)).block, off := (ad.add (i * 3)).off + 2 } = some (Value.int IntKind.i64 x3) := by rw [← add_more _ _ (by decide)]; exact q3
   clear q2 q3
   go_wp2_with fail
   refine (do_ok w2.heap.size (isL o 3) F G o (fst0 o) (plays ls (E.take i)) x1 x2 x3 _ HTW.out (fun e => ((HM.out e).plays (E.take i)).less (by rw [List.length_take]; omega)) HB.out.size).mono ?_
   rintro e w5 ⟨rfl, ht5, hb5⟩
   have HT5 := Lib.hid ht5
   have HB5 := Lib.hid (below_keep HB.out hb5 (Nat.le_refl _))
   clear ht5 hb5
   go_wp2
   go_roundw
   case rel =>
    refine ⟨i + 1, by omega, by omega, by go_num, ?_, HB5.out⟩
    have := HT5.out
    rw [List.take_succ_eq_append_getElem hlt, HX.out, plays, List.foldl_append]
    exact this
   case measure => simp [intOf]; omega
  ·have HTW := Lib.hid ht
   have HB := Lib.hid hb
   clear ht hb
   by_cases h1 : i < E.length
   ·have hi4 : i = 14 := by omega
    have hd1 : decide ((i : Int) < (E.length : Int)) = true := decide_eq_true (by omega)
    have hd2 : decide ((i : Int) < 14) = false := decide_eq_false (by omega)
    clear hlt
    go_wp2_with fail
    refine (same_ok W.heap.size (isL o 3) P Q o (fst0 o) ls 1 _ (HT2'.out.below HB.out) (fun e => (HM.out e).less (by decide)) (by decide)).mono ?_
    rintro e w6 ⟨rfl, hb6⟩
    have HTW6 := Lib.hid (HTW.out.below hb6)
    have HB6 := Lib.hid (below_step HB.out hb6)
    clear hb6
    go_wp2_with fail
    refine (same_ok w2.heap.size (isL o 3) F G o (fst0 o) _ 2 _ HTW6.out (fun e => ((HM.out e).plays (E.take i)).less (by rw [List.length_take]; omega)) (by decide)).mono ?_
    rintro e w7 ⟨rfl, hb7⟩
    have HB7 := Lib.hid (below_step HB6.out hb7)
    clear hb7
    go_wp2
    go_ret
    exact ⟨rfl, below_step HB2.out HB7.out⟩
   ·have hd1 : decide ((i : Int) < (E.length : Int)) = false := decide_eq_false (by omega)
    clear hlt
    go_wp2_with fail
    refine (same_ok W.heap.size (isL o 3) P Q o (fst0 o) ls 1 _ (HT2'.out.below HB.out) (fun e => (HM.out e).less (by decide)) (by decide)).mono ?_
    rintro e w6 ⟨rfl, hb6⟩
    have HTW6 := Lib.hid (HTW.out.below hb6)
    have HB6 := Lib.hid (below_step HB.out hb6)
    clear hb6
    go_wp2_with fail
    refine (same_ok w2.heap.size (isL o 3) F G o (fst0 o) _ 2 _ HTW6.out (fun e => ((HM.out e).plays (E.take i)).less (by rw [List.length_take]; omega)) (by decide)).mono ?_
    rintro e w7 ⟨rfl, hb7⟩
    have HB7 := Lib.hid (below_step HB6.out hb7)
    clear hb7
    go_wp2
    go_ret
    exact ⟨rfl, below_step HB2.out HB7.out⟩
end Go.Proofs.Ytdohoajphknciaa.Agg
