/- The walks of the reference of agg: new, cleared, counted. -/
import Derived.Test.YtdohoajphknciaaAggR
import Derived.Test.YtdohoajphknciaaPAx6
import Derived.OwnWalk
set_option linter.unusedSimpArgs false
set_option linter.unusedVariables false
namespace Go.Proofs.Ytdohoajphknciaa.Agg
open Go.RowKit Go.Proofs.Ytdohoajphknciaa.PT Go.Proofs.Ytdohoajphknciaa.Pure Go.Proofs.Ytdohoajphknciaa.Perm Go.Proofs.YtdohoajphknciaaW.PrintWords Go.Proofs.YtdohoajphknciaaW.PrintLast Go.Proofs.YtdohoajphknciaaW.PrintMore

theorem ref_reduces (k : Nat) (o : Int) : PA.reticuleref01_Reduces.f (k + 1) o = num_Reduces.f (k + 1) o := by
 unfold PA.reticuleref01_Reduces.f num_Reduces.f
 by_cases h1 : o = 1
 ·subst h1; rfl
 by_cases h2 : o = 17
 ·subst h2; rfl
 by_cases h3 : o = 6
 ·subst h3; rfl
 by_cases h4 : o = 7
 ·subst h4; rfl
 by_cases h5 : o = 16
 ·subst h5; rfl
 simp [PA.reticuleref01_Reduces.j0, num_Reduces.j0, h1, h2, h3, h4, h5]

theorem rnew_no (o n x : Int) (b : Bool) (w : World) (h : PA.reticuleref01_Reduces.f 3 o = some (x, b)) (hb : b = false ∨ n < 1 ∨ 4 < n) : Calls Try.prog 24 #[.int .u8 o, .int .i64 n] w fun e w' => e = .returned (.pointer none) ∧ Below w.heap.size w w' := by
 have H := Lib.hid h
 clear h
 cases b with
 | false =>
  clear hb
  go_enter Try.func24, Try.ntmps24
  go_wp2_with fail
  refine (PA.reticuleref01_Reduces.calls 3 o x false _ H.out).mono ?_
  rintro e w' ⟨rfl, ⟨m, rfl⟩⟩
  go_wp2_with fail
  go_ret
  exact ⟨rfl, pw_below_drewN (Below.refl _ _) _⟩
 | true =>
  by_cases h1 : n < 1
  ·have b1 : decide (n < 1) = true := decide_eq_true h1
   clear hb
   go_enter Try.func24, Try.ntmps24
   go_wp2_with fail
   refine (PA.reticuleref01_Reduces.calls 3 o x true _ H.out).mono ?_
   rintro e w' ⟨rfl, ⟨m, rfl⟩⟩
   go_wp2_with fail
   go_ret
   exact ⟨rfl, pw_below_drewN (Below.refl _ _) _⟩
  ·have b1 : decide (n < 1) = false := decide_eq_false h1
   have b2 : decide (4 < n) = true := decide_eq_true (by rcases hb with q | q | q <;> first | cases q | omega)
   clear hb
   go_enter Try.func24, Try.ntmps24
   go_wp2_with fail
   refine (PA.reticuleref01_Reduces.calls 3 o x true _ H.out).mono ?_
   rintro e w' ⟨rfl, ⟨m, rfl⟩⟩
   go_wp2_with fail
   go_ret
   exact ⟨rfl, pw_below_drewN (Below.refl _ _) _⟩

theorem fresh_rows {w : World} {g : Nat} {n : Nat} (h : w.ownsRow 0 32 1 (.slice (some ⟨g, 0, none⟩) n n) n (madeCells (Value.slice none 0 0).cells (n * 1)).toList) : Rows w (.slice (some ⟨g, 0, none⟩) n n) (List.replicate n []) := by
 rw [show (Value.slice none 0 0).cells = #[Value.slice none 0 0] from rfl, toList_madeCells_one, Nat.mul_one] at h
 refine ⟨List.replicate n (.slice none 0 0), by simpa using h, fun i l hl => ?_⟩
 obtain ⟨hi, e⟩ := List.getElem?_eq_some_iff.1 hl
 simp at hi e
 subst e
 exact ⟨.slice none 0 0, by simp [hi], rfl, Or.inl ⟨rfl, rfl⟩⟩

theorem rnew_ok (o f : Int) (n : Nat) (w : World) (h : PA.reticuleref01_Reduces.f 3 o = some (f, true)) (h1 : 1 ≤ n) (h4 : n ≤ 4) : Calls Try.prog 24 #[.int .u8 o, .int .i64 n] w fun e w' => ∃ g, e = .returned (.pointer (some ⟨g, 0, none⟩)) ∧ w.heap.size ≤ g ∧ IsR w' g o (List.replicate n []) ∧ Below w.heap.size w w' := by
 have b1 : decide ((n : Int) < 1) = false := decide_eq_false (by omega)
 have b2 : decide (4 < (n : Int)) = false := decide_eq_false (by omega)
 obtain ⟨i32, hi32, z32, s32, b32⟩ := info_parts info32
 have H := Lib.hid h
 clear h
 go_enter Try.func24, Try.ntmps24
 go_wp2_with fail
 refine (PA.reticuleref01_Reduces.calls 3 o f true _ H.out).mono ?_
 rintro e w' ⟨rfl, ⟨m, rfl⟩⟩
 go_wp2_with ((with_reducible refine gate_dst (N := 24) rfl ?_); refine wpList_make_full _ rfl (.tmp 23) (.tmp 23) 71 rfl w.heap.size 32 i32 (.slice none 0 0) 1 Try.underlying71 hi32 z32 s32 .i64 .i64 n n n rfl rfl rfl rfl (by rw [b32]; omega) (by unfold maxLen; omega) (by simp) ?_; intro w1 ho1 hg1)
 have HB := Lib.hid (show Below w.heap.size w w1 from (pw_below_drewN (Below.refl _ _) m).grown hg1 (by simp) (fun k h => by cases h))
 have HO := Lib.hid ho1
 clear ho1 hg1
 go_wp2
 go_ret
 refine ⟨w1.heap.size, rfl, HB.out.size, ⟨.slice (some ⟨(w.drewN m).heap.size, 0, none⟩) n n, ?_, ?_⟩, HB.out.alloc HB.out.size _⟩
 ·show (w1.heap.push _)[w1.heap.size]? = _
  simp
 ·exact (fresh_rows (own_base HO.out (Nat.zero_le _))).below ((Below.refl _ _).alloc (Nat.le_refl _) _)

theorem rcount_nil (w : World) : Calls Try.prog 31 #[.pointer none] w fun e w' => e = .returned (.int .i64 0) ∧ Below w.heap.size w w' := by
 go_enter Try.func31, Try.ntmps31
 go_wp2
 go_loopw [3, 4] (fun v3 v4 wr => v3 = .int .i64 0 ∧ v4 = .int .i64 0 ∧ Below w.heap.size w wr) (fun _ _ _ => 1)
 case atStart => exact ⟨rfl, rfl, Below.refl _ _⟩
 case round =>
  obtain ⟨rfl, rfl, hb⟩ := hrel
  have HB := Lib.hid hb
  clear hb
  go_wp2
  go_ret
  exact ⟨rfl, HB.out⟩
theorem rclear_nil (w : World) : Calls Try.prog 36 #[.pointer none] w fun e w' => e = .returned (.tuple #[]) ∧ Below w.heap.size w w' := by
 go_enter Try.func36, Try.ntmps36
 go_wp2
 go_end0
 exact ⟨rfl, Below.refl _ _⟩
theorem rfork_nil (w : World) : Calls Try.prog 19 #[.pointer none] w fun e w' => e = .returned (.pointer none) ∧ Below w.heap.size w w' := by
 go_enter Try.func19, Try.ntmps19
 go_wp2
 go_ret
 exact ⟨rfl, Below.refl _ _⟩
theorem rwhole_nil (k : Int) (w : World) : Calls Try.prog 30 #[.pointer none, .int .u64 k] w fun e w' => e = .returned (.tuple #[.int .i64 0, .int .i64 1]) ∧ Below w.heap.size w w' := by
 go_enter Try.func30, Try.ntmps30
 go_wp2
 go_ret2
 exact ⟨rfl, Below.refl _ _⟩
theorem rpart_nil (worker : Int) (w : World) : Calls Try.prog 29 #[.pointer none, .int .i64 worker] w fun e w' => e = .returned (.tuple #[.int .i64 0, .int .i64 1]) ∧ Below w.heap.size w w' := by
 go_enter Try.func29, Try.ntmps29
 go_wp2_with fail
 refine (may_nil _ _).mono ?_
 rintro e w' ⟨rfl, hb⟩
 have HB := Lib.hid hb
 clear hb
 go_wp2
 go_ret2
 exact ⟨rfl, HB.out⟩
theorem rpart_bad (g : Nat) (o worker : Int) (ls : List (List Int)) (w : World) (h : IsR w g o ls) (hw : worker < 0 ∨ (ls.length : Int) ≤ worker) : Calls Try.prog 29 #[.pointer (some ⟨g, 0, none⟩), .int .i64 worker] w fun e w' => e = .returned (.tuple #[.int .i64 0, .int .i64 2]) ∧ Below w.heap.size w w' := by
 have HI := Lib.hid h
 have HW := Lib.hid hw
 clear h hw
 go_enter Try.func29, Try.ntmps29
 go_wp2_with fail
 refine (may_bad g o worker ls _ HI.out HW.out).mono ?_
 rintro e w' ⟨rfl, hb⟩
 have HB := Lib.hid hb
 clear hb
 go_wp2
 go_ret2
 exact ⟨rfl, HB.out⟩

set_option maxHeartbeats 2000000 in
theorem rclear_ok (g : Nat) (o : Int) (ls : List (List Int)) (w : World) (h : IsR w g o ls) (h1 : 1 ≤ ls.length) (h4 : ls.length ≤ 4) : Calls Try.prog 36 #[.pointer (some ⟨g, 0, none⟩)] w fun e w' => e = .returned (.tuple #[]) ∧ IsR w' g o (List.replicate ls.length []) ∧ w.grownBy w' (some g) := by
 obtain ⟨i32, hi32, z32, s32, b32⟩ := info_parts info32
 have lg := h.lt
 obtain ⟨v, hv, hr⟩ := h
 obtain ⟨A, c, rfl⟩ := rows_val hr
 have e1 : w.cell? ⟨g, 1, none⟩ = some (.slice A ls.length c) := by simp [World.cell?, hv]
 have hf : w.frozen? ⟨g, 1, none⟩ = false := by simp [World.frozen?, hv]
 have HV := Lib.hid hv
 clear hv hr
 go_enter Try.func36, Try.ntmps36
 go_wp2_with ((with_reducible refine gate_dst (N := 10) rfl ?_); refine wpList_make_full _ rfl (.tmp 9) (.tmp 9) 71 rfl w.heap.size 32 i32 (.slice none 0 0) 1 Try.underlying71 hi32 z32 s32 .i64 .i64 ls.length ls.length ls.length rfl rfl rfl rfl (by rw [b32]; omega) (by unfold maxLen; omega) (Nat.le_refl _) ?_; intro w1 ho1 hg1; have HB := Lib.hid (show Below w.heap.size w w1 from (Below.refl _ _).grown hg1 (Nat.le_refl _) (fun k h => by cases h)); have HO := Lib.hid ho1; have hf1 : w1.frozen? ⟨g, 1, none⟩ = false := (HB.out.frozen lg).trans hf; have e11 := (HB.out.cell (p := ⟨g, 1, none⟩) lg).trans e1; clear ho1 hg1)
 go_end0
 refine ⟨rfl, ⟨.slice (some ⟨w.heap.size, 0, none⟩) ls.length ls.length, ?_, ?_⟩, grown_set (grown_below HB.out)⟩
 ·have := (HB.out.block g lg).trans HV.out
  simp [World.setCell, Array.getElem?_modify, this]
 ·have hw1 : w1.heap[g]? = some (.cells #[.int .u8 o, .slice A ls.length c] 73 (0, 0)) := (HB.out.block g lg).trans HV.out
  refine (fresh_rows (own_base HO.out (Nat.zero_le _))).kept (r := some g) ⟨rfl, rfl, rfl, by simp [World.setCell], fun q _ hne => Below.heap_setCell _ _ _ _ (fun e => hne (by rw [e]))⟩ (fun k e => ?_)
  injection e with e
  subst e
  exact ⟨_, _, hw1, by decide, by decide⟩

theorem IsR.view {w : World} {g : Nat} {o : Int} {ls : List (List Int)} (h : IsR w g o ls) (h1 : 1 ≤ ls.length) : ∃ gv cap, w.cell? ⟨g, 0, none⟩ = some (.int .u8 o) ∧ w.cell? ⟨g, 1, none⟩ = some (.slice (some ⟨gv, 0, none⟩) ls.length cap) ∧ gv < w.heap.size ∧ ∀ (j : Nat) (l : List Int), ls[j]? = some l → ∃ A c, w.cell? ⟨gv, j, none⟩ = some (.slice A l.length c) ∧ ∀ (i : Nat) (x : Int), l[i]? = some x → ∃ b, A = some ⟨b, 0, none⟩ ∧ b < w.heap.size ∧ w.cell? ⟨b, i, none⟩ = some (.int .i64 x) := by
 obtain ⟨v, hv, vs, hvs, hr⟩ := h
 obtain ⟨gv, cap, rfl, _, hgv⟩ := own_form hvs (by omega)
 refine ⟨gv, cap, by simp [World.cell?, hv], by simp [World.cell?, hv], hgv, fun j l hl => ?_⟩
 obtain ⟨u, hu, ho⟩ := hr j l hl
 have hjl : j < ls.length := (List.getElem?_eq_some_iff.1 hl).1
 have hc : w.cell? ⟨gv, j, none⟩ = some u := (hvs.cellAt j (by omega)).trans hu
 rcases Nat.eq_zero_or_pos l.length with h0 | h0
 ·rcases ho.2 with ⟨rfl, _⟩ | ⟨b, c, _, rfl, _⟩
  ·exact ⟨none, 0, by rw [hc, h0], fun i x hx => by have := (List.getElem?_eq_some_iff.1 hx).1; omega⟩
  ·exact ⟨_, _, hc, fun i x hx => by have := (List.getElem?_eq_some_iff.1 hx).1; omega⟩
 ·obtain ⟨b, c, rfl, _, hb⟩ := own_form ho h0
  refine ⟨_, c, hc, fun i x hx => ⟨b, rfl, hb, ?_⟩⟩
  have hil := (List.getElem?_eq_some_iff.1 hx).1
  rw [ho.cellAt i (by omega), List.getElem?_map, hx]
  rfl

/-- How many have been taken in. -/
def cnt (ls : List (List Int)) : Nat := (ls.map List.length).sum
theorem cnt_take {ls : List (List Int)} {i : Nat} (h : i < ls.length) : cnt (ls.take (i + 1)) = cnt (ls.take i) + ls[i].length := by
 unfold cnt
 rw [List.take_succ_eq_append_getElem h, List.map_append, List.sum_append]
 simp
theorem cnt_le {ls : List (List Int)} {M : Nat} (h : ∀ l ∈ ls, l.length ≤ M) : cnt ls ≤ ls.length * M := by
 induction ls with
 | nil => simp [cnt]
 | cons a ls ih =>
  have := ih (fun l hl => h l (List.mem_cons_of_mem _ hl))
  have := h a (List.mem_cons_self ..)
  simp [cnt, Nat.add_mul] at *
  omega

set_option maxHeartbeats 2000000 in
theorem rcount_ok (g : Nat) (o : Int) (ls : List (List Int)) (w : World) (h : IsR w g o ls) (h1 : 1 ≤ ls.length) (h4 : ls.length ≤ 4) (hl : ∀ l ∈ ls, l.length ≤ 100000) : Calls Try.prog 31 #[.pointer (some ⟨g, 0, none⟩)] w fun e w' => e = .returned (.int .i64 (cnt ls)) ∧ Below w.heap.size w w' := by
 obtain ⟨gv, cap, _, e1, lgv, hrow⟩ := h.view h1
 have lg := h.lt
 have HR := Lib.hid hrow
 have HL := Lib.hid hl
 clear h hrow hl
 go_enter Try.func31, Try.ntmps31
 go_wp2
 go_loopw [3, 4] (fun v3 v4 wr => ∃ i : Nat, i ≤ ls.length ∧ v3 = .int .i64 (cnt (ls.take i)) ∧ v4 = .int .i64 i ∧ Below w.heap.size w wr) (fun _ v4 _ => ls.length - (intOf v4).toNat)
 case atStart => exact ⟨0, Nat.zero_le _, rfl, rfl, Below.refl _ _⟩
 case round =>
  obtain ⟨i, hi, rfl, rfl, hb⟩ := hrel
  by_cases hlt : i < ls.length
  ·have e1r : wr.cell? ⟨g, 1, none⟩ = some (.slice (some ⟨gv, 0, none⟩) ls.length cap) := (hb.cell (p := ⟨g, 1, none⟩) lg).trans e1
   obtain ⟨A, c, er, _⟩ := HR.out i ls[i] (List.getElem?_eq_getElem hlt)
   have err : wr.cell? ⟨gv, i, none⟩ = some (.slice A ls[i].length c) := (hb.cell (p := ⟨gv, i, none⟩) lgv).trans er
   have hln := HL.out ls[i] (List.getElem_mem hlt)
   have hcl : cnt (ls.take i) ≤ 400000 := by
    have := cnt_le (ls := ls.take i) (M := 100000) (fun l hl' => HL.out l (List.mem_of_mem_take hl'))
    have := List.length_take_le i ls
    omega
   obtain ⟨m, hm⟩ : ∃ m, m = cnt (ls.take i) := ⟨_, rfl⟩
   rw [← hm] at hcl ⊢
   have HM := Lib.hid hm
   have HB := Lib.hid hb
   clear hm hb er
   go_wp2
   go_roundw
   case rel =>
    refine ⟨i + 1, by omega, ?_, by go_num, HB.out⟩
    rw [cnt_take hlt, ← HM.out]
    go_num
   case measure => simp [intOf]; omega
  ·obtain rfl : i = ls.length := by omega
   have e1r : wr.cell? ⟨g, 1, none⟩ = some (.slice (some ⟨gv, 0, none⟩) ls.length cap) := (hb.cell (p := ⟨g, 1, none⟩) lg).trans e1
   have HB := Lib.hid hb
   clear hb
   go_wp2
   go_ret
   refine ⟨?_, HB.out⟩
   show Ending.returned (Value.int IntKind.i64 ↑(cnt (List.take ls.length ls))) = _
   rw [List.take_length]
end Go.Proofs.Ytdohoajphknciaa.Agg
