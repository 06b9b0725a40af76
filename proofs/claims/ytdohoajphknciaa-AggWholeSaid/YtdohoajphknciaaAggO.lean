/- The law's own: deeds on both, one after another. -/
import Derived.Test.YtdohoajphknciaaAggM
set_option linter.unusedSimpArgs false
set_option linter.unusedVariables false
namespace Go.Proofs.Ytdohoajphknciaa.Agg
open Go.RowKit Go.Proofs.Ytdohoajphknciaa.PT Go.Proofs.Ytdohoajphknciaa.Pure Go.Proofs.Ytdohoajphknciaa.Perm Go.Proofs.YtdohoajphknciaaW.PrintWords Go.Proofs.YtdohoajphknciaaW.PrintLast Go.Proofs.YtdohoajphknciaaW.PrintMore

abbrev Deed := Kd.pair (Kd.int .i64) (Kd.pair (Kd.int .i64) (Kd.int .i64))
def plays (ls : List (List Int)) (D : List (Int × Int × Int)) : List (List Int) := D.foldl did ls
theorem plays_len (D : List (Int × Int × Int)) : ∀ ls, (plays ls D).length = ls.length := by
 unfold plays
 induction D with
 | nil => intro ls; rfl
 | cons d D ih => intro ls; rw [List.foldl_cons, ih, did_len]
theorem May.plays {o f : Int} (D : List (Int × Int × Int)) : ∀ {ls : List (List Int)} {M : Nat}, May o f ls M → May o f (plays ls D) (M + D.length) := by
 unfold Agg.plays
 induction D with
 | nil => intro ls M h; exact h
 | cons d D ih =>
  intro ls M h
  rw [List.foldl_cons, List.length_cons, show M + (D.length + 1) = (M + 1) + D.length by omega]
  exact ih (h.did d)

theorem add_more (a : Addr) (n : Nat) {m : Nat} (hm : 0 < m) : a.add (n + m) = ⟨(a.add n).block, (a.add n).off + m, none⟩ := by
 unfold Addr.add
 rw [if_neg (by omega)]
 by_cases h : n = 0
 ·subst h; simp
 ·simp [h]; omega
theorem Two.nil {w : World} {base : Nat} {b : Bool} {A R : Option Addr} {o f : Int} {ls : List (List Int)} (h : Two w base b A R o f ls) : (A = none ∧ R = none) ∨ ∃ g k, A = some ⟨g, 0, none⟩ ∧ R = some ⟨k, 0, none⟩ := by
 obtain ⟨ha, hr, _, _⟩ := h
 cases b with
 | false => exact Or.inl ⟨ha, hr⟩
 | true =>
  obtain ⟨g, e, _⟩ := ha
  obtain ⟨k, e', _⟩ := hr
  exact Or.inr ⟨g, k, e, e'⟩
theorem deed_at {w : World} {A : Option Addr} {D : List (Int × Int × Int)} (h : Kd.C Deed w A D.length D) {i : Nat} (hi : i < D.length) : ∃ ad, A = some ad ∧ w.cell? (ad.add (i * 3)) = some (.int .i64 D[i].1) ∧ w.cell? (ad.add (i * 3 + 1)) = some (.int .i64 D[i].2.1) ∧ w.cell? (ad.add (i * 3 + 2)) = some (.int .i64 D[i].2.2) := by
 obtain ⟨ad, rfl, hc⟩ := h.2.2 (by omega)
 obtain ⟨cs, h1, h2, h3⟩ := hc i D[i] (List.getElem?_eq_getElem hi)
 obtain ⟨c1, c2, rfl, q1, c3, c4, rfl, q2, q3⟩ := h2
 have q1' : c1 = [.int .i64 D[i].1] := q1
 have q2' : c3 = [.int .i64 D[i].2.1] := q2
 have q3' : c4 = [.int .i64 D[i].2.2] := q3
 subst q1' q2' q3'
 have hs : Deed.sz = 3 := rfl
 rw [hs] at h3
 exact ⟨ad, rfl, h3 0 _ rfl, h3 1 _ rfl, h3 2 _ rfl⟩

set_option maxHeartbeats 4000000 in
theorem play_ok (o n : Int) (A0 : Option Addr) (c0 : Nat) (D : List (Int × Int × Int)) (w : World) (hD : Kd.C Deed w A0 D.length D) (hl : (D.length : Int) ≤ 9223372036854775807) :
  Calls Try.prog 9 #[.int .u8 o, .int .i64 n, .slice A0 D.length c0] w fun e w' => ∃ A R, e = .returned (.tuple #[.pointer A, .pointer R, .bool true]) ∧ Two w' w.heap.size (isL o n) A R o (fst0 o) (plays (List.replicate n.toNat []) (D.take 50)) ∧ Below w.heap.size w w' := by
 have HD := Lib.hid hD
 clear hD
 go_enter Try.func9, Try.ntmps9
 go_wp2_with fail
 refine (new_A o n _).mono ?_
 rintro e w1 ⟨A, rfl, ha, hla, hb1⟩
 have HA := Lib.hid ha
 have HLA := Lib.hid hla
 have HB1 := Lib.hid hb1
 clear ha hla hb1
 go_wp2_with fail
 refine (new_R o n _).mono ?_
 rintro e w2 ⟨R, rfl, hr, hlr, hb2⟩
 have HT := Lib.hid (show Two w2 w.heap.size (isL o n) A R o (fst0 o) (List.replicate n.toNat []) from ⟨HA.out.below hb2, hr, HLA.out, fun g e => Nat.le_trans HB1.out.size (hlr g e)⟩)
 have HB2 := Lib.hid (below_step HB1.out hb2)
 clear hr hlr hb2
 go_wp2_with fail
 go_loopw [11] (fun v11 wr => ∃ i : Nat, i ≤ D.length ∧ i ≤ 50 ∧ v11 = .int .i64 i ∧ Two wr w.heap.size (isL o n) A R o (fst0 o) (plays (List.replicate n.toNat []) (D.take i)) ∧ Below w.heap.size w wr) (fun v11 _ => 50 - (intOf v11).toNat)
 case atStart => exact ⟨0, Nat.zero_le _, by decide, rfl, HT.out, HB2.out⟩
 case round =>
  obtain ⟨i, hi, hi50, rfl, ht, hb⟩ := hrel
  by_cases hlt : i < D.length
  ·by_cases h50 : i < 50
   ·have hd1 : decide ((i : Int) < (D.length : Int)) = true := decide_eq_true (by omega)
    have hd2 : decide ((i : Int) < 50) = true := decide_eq_true (by omega)
    obtain ⟨ad, rfl, d1, d2, d3⟩ := deed_at HD.out hlt
    have q1 := (hb.cell (World.block_lt_of_cell? w _ d1)).trans d1
    have q2 := (hb.cell (World.block_lt_of_cell? w _ d2)).trans d2
    have q3 := (hb.cell (World.block_lt_of_cell? w _ d3)).trans d3
    obtain ⟨x1, hx1⟩ : ∃ x, x = D[i].1 := ⟨_, rfl⟩
    obtain ⟨x2, hx2⟩ : ∃ x, x = D[i].2.1 := ⟨_, rfl⟩
    obtain ⟨x3, hx3⟩ : ∃ x, x = D[i].2.2 := ⟨_, rfl⟩
    rw [← hx1] at q1
    rw [← hx2] at q2
    rw [← hx3] at q3
    have HTW := Lib.hid ht
    have HB := Lib.hid hb
    have HX := Lib.hid (show D[i] = (x1, x2, x3) from by rw [hx1, hx2, hx3])
    clear ht hb d1 d2 d3 hx1 hx2 hx3
    have q2' : wr.cell? { block := (ad.add (i * 3)).block, off := (ad.add (i * 3)).off + 1 } = some (Value.int IntKind.i64 x2) := by rw [← add_more _ _ (by decide)]; exact q2
    have q3' : wr.cell? { block := (ad.add (i * 3)).block, off := (ad.add (i * 3)).off + 2 } = some (Value.int IntKind.i64 x3) := by rw [← add_more _ _ (by decide)]; exact q3
    clear q2 q3
    go_wp2_with fail
    refine (do_ok w.heap.size (isL o n) A R o (fst0 o) (plays (List.replicate n.toNat []) (D.take i)) x1 x2 x3 _ HTW.out (fun e => (((may_new e).plays (D.take i))).less (by rw [List.length_take]; omega)) HB.out.size).mono ?_
    rintro e w4 ⟨rfl, ht4, hb4⟩
    have HT4 := Lib.hid ht4
    have HB4 := Lib.hid (below_keep HB.out hb4 (Nat.le_refl _))
    clear ht4 hb4
    go_wp2
    go_roundw
    case rel =>
     refine ⟨i + 1, by omega, by omega, by go_num, ?_, HB4.out⟩
     have := HT4.out
     rw [List.take_succ_eq_append_getElem hlt, HX.out, plays, List.foldl_append]
     exact this
    case measure => simp [intOf]; omega
   ·have hi5 : i = 50 := by omega
    subst hi5
    have hd1 : decide (((50 : Nat) : Int) < (D.length : Int)) = true := decide_eq_true (by omega)
    have hd2 : decide (((50 : Nat) : Int) < 50) = false := by decide
    have HTW := Lib.hid ht
    have HB := Lib.hid hb
    clear ht hb
    rcases HTW.out.nil with ⟨rfl, rfl⟩ | ⟨g, k, rfl, rfl⟩
    ·go_wp2
     exact bodyPost_ret (v := .tuple #[_, _, .bool true]) (by simp [results, Try.results9, go_sem] <;> exact ⟨rfl, rfl⟩) rfl ⟨_, _, rfl, HTW.out, HB.out⟩
    ·go_wp2
     exact bodyPost_ret (v := .tuple #[_, _, .bool true]) (by simp [results, Try.results9, go_sem] <;> exact ⟨rfl, rfl⟩) rfl ⟨_, _, rfl, HTW.out, HB.out⟩
  ·have hie : i = D.length := by omega
   have hd1 : decide ((i : Int) < (D.length : Int)) = false := decide_eq_false (by omega)
   have htk : D.take i = D.take 50 := by rw [List.take_of_length_le (by omega), List.take_of_length_le (by omega)]
   rw [htk] at ht
   have HTW := Lib.hid ht
   have HB := Lib.hid hb
   clear ht hb
   rcases HTW.out.nil with ⟨rfl, rfl⟩ | ⟨g, k, rfl, rfl⟩
   ·go_wp2
    exact bodyPost_ret (v := .tuple #[_, _, .bool true]) (by simp [results, Try.results9, go_sem] <;> exact ⟨rfl, rfl⟩) rfl ⟨_, _, rfl, HTW.out, HB.out⟩
   ·go_wp2
    exact bodyPost_ret (v := .tuple #[_, _, .bool true]) (by simp [results, Try.results9, go_sem] <;> exact ⟨rfl, rfl⟩) rfl ⟨_, _, rfl, HTW.out, HB.out⟩
end Go.Proofs.Ytdohoajphknciaa.Agg
