/- The laws of agg: none, another one's. -/
import Derived.Test.YtdohoajphknciaaAggK
set_option linter.unusedSimpArgs false
set_option linter.unusedVariables false
namespace Go.Proofs.Ytdohoajphknciaa.Agg
open Go.RowKit Go.Proofs.Ytdohoajphknciaa.PT Go.Proofs.Ytdohoajphknciaa.Pure Go.Proofs.Ytdohoajphknciaa.Perm Go.Proofs.YtdohoajphknciaaW.PrintWords Go.Proofs.YtdohoajphknciaaW.PrintLast Go.Proofs.YtdohoajphknciaaW.PrintMore

theorem nils {w w' : World} {b : Bool} {A R : Option Addr} {o f : Int} {ls : List (List Int)} (ha : AgN w b A o f ls) (hr : RfN w' b R o ls) : (A = none ∧ R = none) ∨ ∃ g k, A = some ⟨g, 0, none⟩ ∧ R = some ⟨k, 0, none⟩ := by
  cases b with
  | false => exact Or.inl ⟨ha, hr⟩
  | true =>
    obtain ⟨g, e, _⟩ := ha
    obtain ⟨k, e', _⟩ := hr
    exact Or.inr ⟨g, k, e, e'⟩

set_option maxHeartbeats 8000000 in
theorem none_walk (W : World) (x : Int × Int × Int) (cs : List Value) (hk : Deed.K W x cs) (_ : gDeed x) (o : Int) (_ : (Lit.int .u8 o).wf = true) (n : Int) (_ : (Lit.int .i64 n).wf = true) :
    Calls Try.prog 7 #[.agg cs.toArray, .int .u8 o, .int .i64 n] W fun e w' => e = .returned (.bool true) ∧ Below W.heap.size W w' := by
  obtain ⟨c1, c2, rfl, q1, c3, c4, rfl, q2, q3⟩ := hk
  obtain ⟨x1, x2, x3⟩ := x
  have q1' : c1 = [.int .i64 x1] := q1
  have q2' : c3 = [.int .i64 x2] := q2
  have q3' : c4 = [.int .i64 x3] := q3
  subst q1' q2' q3'
  clear q1 q2 q3
  show Calls Try.prog 7 #[.agg #[.int .i64 x1, .int .i64 x2, .int .i64 x3], .int .u8 o, .int .i64 n] W _
  obtain ⟨B0, hB0⟩ : ∃ B0, B0 = W.heap.size := ⟨_, rfl⟩
  have HS := Lib.hid hB0
  clear hB0
  go_enter Try.func7, Try.ntmps7
  go_wp2_with fail
  refine (clear_nil _).mono ?_
  rintro e w1 ⟨rfl, hb1⟩
  have e1 : w1.cell? ⟨W.heap.size, 1, none⟩ = some (.int .i64 x2) := (hb1.cell (by simp)).trans (by go_simp)
  have e2 : w1.cell? ⟨W.heap.size, 2, none⟩ = some (.int .i64 x3) := (hb1.cell (by simp)).trans (by go_simp)
  have HB1 := Lib.hid (below_step (by repeat (first | exact Below.refl _ _ | apply below_alloc)) hb1 : Below W.heap.size W w1)
  have l1 : W.heap.size < w1.heap.size := Nat.lt_of_lt_of_le (by simp) hb1.size
  clear hb1
  go_wp2_with fail
  refine (whole_nil 3 _).mono ?_
  rintro e w2 ⟨rfl, hb⟩
  have e1 := (hb.cell (p := ⟨W.heap.size, 1, none⟩) l1).trans e1
  have e2 := (hb.cell (p := ⟨W.heap.size, 2, none⟩) l1).trans e2
  have l2 := Nat.lt_of_lt_of_le l1 hb.size
  have HB2 := Lib.hid (below_step HB1.out hb)
  clear hb
  go_wp2_with fail
  refine (part_nil x2 _).mono ?_
  rintro e w3 ⟨rfl, hb⟩
  have e1 := (hb.cell (p := ⟨W.heap.size, 1, none⟩) l2).trans e1
  have e2 := (hb.cell (p := ⟨W.heap.size, 2, none⟩) l2).trans e2
  have l3 := Nat.lt_of_lt_of_le l2 hb.size
  have HB3 := Lib.hid (below_step HB2.out hb)
  clear hb
  go_wp2_with fail
  refine (live_ok _).mono ?_
  rintro e w4 ⟨rfl, hb⟩
  have e1 := (hb.cell (p := ⟨W.heap.size, 1, none⟩) l3).trans e1
  have e2 := (hb.cell (p := ⟨W.heap.size, 2, none⟩) l3).trans e2
  have l4 := Nat.lt_of_lt_of_le l3 hb.size
  have HB4 := Lib.hid (below_step HB3.out hb)
  clear hb
  go_wp2_with fail
  refine (take_nil x2 x3 _).mono ?_
  rintro e w5 ⟨rfl, hb⟩
  have HB5 := Lib.hid (below_step HB4.out hb)
  clear hb
  go_wp2_with fail
  refine (count_nil _).mono ?_
  rintro e w6 ⟨rfl, hb⟩
  have HB6 := Lib.hid (below_step HB5.out hb)
  clear hb
  go_wp2_with fail
  refine (fork_nil _).mono ?_
  rintro e w7 ⟨rfl, hb⟩
  have HB7 := Lib.hid (below_step HB6.out hb)
  clear hb
  go_wp2_with fail
  refine (merge_nil1 none _).mono ?_
  rintro e w8 ⟨rfl, hb⟩
  have HB8 := Lib.hid (below_step HB7.out hb)
  clear hb
  go_wp2_with fail
  refine (new_A o n _).mono ?_
  rintro e w9 ⟨A, rfl, ha, _, hb⟩
  have HA := Lib.hid ha
  have HB9 := Lib.hid (below_step HB8.out hb)
  clear hb ha
  go_wp2_with fail
  refine (new_R o n _).mono ?_
  rintro e w10 ⟨R, rfl, hr, _, hb⟩
  have HN := Lib.hid (nils HA.out hr)
  have HB10 := Lib.hid (below_step HB9.out hb)
  clear hb hr HA
  rcases HN.out with ⟨rfl, rfl⟩ | ⟨g, k, rfl, rfl⟩
  · go_wp2
    go_ret
    exact ⟨rfl, HB10.out⟩
  · go_wp2
    go_ret
    exact ⟨rfl, HB10.out⟩

/-! Another one's parts. -/
theorem wrap_wrap (x : Int) : wrap64 (wrap64 x) = wrap64 x := by unfold wrap64; omega
theorem red_assoc {o : Int} (ho : takes o) (a x y : Int) : red o (red o a x) y = red o a (red o x y) := by
  rcases ho with rfl | rfl | rfl | rfl | rfl
  · simp only [red, if_pos]
    unfold wrap64; omega
  · simp [red]
    (repeat' split) <;> first | rfl | omega
  · simp [red]
    (repeat' split) <;> first | rfl | omega
  · simp [red]
    by_cases ha : a = 0 <;> by_cases hx : x = 0 <;> by_cases hy : y = 0 <;> simp [ha, hx, hy]
  · simp [red]
    by_cases ha : a = 0 <;> by_cases hx : x = 0 <;> by_cases hy : y = 0 <;> simp [ha, hx, hy]
def in64 (x : Int) : Prop := -9223372036854775808 ≤ x ∧ x ≤ 9223372036854775807
/-- A part, or a part with more: the first number changes it no more. -/
def good (o f a : Int) : Prop := red o a f = a ∧ in64 a
instance (o f a : Int) : Decidable (good o f a) := by unfold good in64; infer_instance
theorem good_first {o f : Int} (h : num_Reduces.f 3 o = some (f, true)) : good o f f := by
  rcases red_of 2 o f h with rfl | rfl | rfl | rfl | rfl
  · obtain rfl : (0 : Int) = f := by have : num_Reduces.f 3 1 = some (0, true) := rfl
                                     rw [this] at h; injection h with h; injection h
    decide +kernel
  · obtain rfl : (9223372036854775807 : Int) = f := by have : num_Reduces.f 3 6 = some (9223372036854775807, true) := rfl
                                                       rw [this] at h; injection h with h; injection h
    decide +kernel
  · obtain rfl : (-9223372036854775808 : Int) = f := by have : num_Reduces.f 3 7 = some (-9223372036854775808, true) := rfl
                                                        rw [this] at h; injection h with h; injection h
    decide +kernel
  · obtain rfl : (1 : Int) = f := by have : num_Reduces.f 3 16 = some (1, true) := rfl
                                     rw [this] at h; injection h with h; injection h
    decide +kernel
  · obtain rfl : (0 : Int) = f := by have : num_Reduces.f 3 17 = some (0, true) := rfl
                                     rw [this] at h; injection h with h; injection h
    decide +kernel
theorem good_red {o f a x : Int} (h : num_Reduces.f 3 o = some (f, true)) (ha : in64 a) (hx : in64 x) : good o f (red o a x) := by
  unfold in64 at ha hx
  rcases red_of 2 o f h with rfl | rfl | rfl | rfl | rfl
  · obtain rfl : (0 : Int) = f := by have : num_Reduces.f 3 1 = some (0, true) := rfl
                                     rw [this] at h; injection h with h; injection h
    simp only [good, red, in64, if_pos]
    unfold wrap64
    omega
  · obtain rfl : (9223372036854775807 : Int) = f := by have : num_Reduces.f 3 6 = some (9223372036854775807, true) := rfl
                                                       rw [this] at h; injection h with h; injection h
    simp [good, red, in64]
    (repeat' split) <;> omega
  · obtain rfl : (-9223372036854775808 : Int) = f := by have : num_Reduces.f 3 7 = some (-9223372036854775808, true) := rfl
                                                        rw [this] at h; injection h with h; injection h
    simp [good, red, in64]
    (repeat' split) <;> omega
  · obtain rfl : (1 : Int) = f := by have : num_Reduces.f 3 16 = some (1, true) := rfl
                                     rw [this] at h; injection h with h; injection h
    simp [good, red, in64]
    by_cases q : a = 0 <;> by_cases p : x = 0 <;> simp [q, p]
  · obtain rfl : (0 : Int) = f := by have : num_Reduces.f 3 17 = some (0, true) := rfl
                                     rw [this] at h; injection h with h; injection h
    simp [good, red, in64]
    by_cases q : a = 0 <;> by_cases p : x = 0 <;> simp [q, p]
theorem good_fold {o f : Int} (h : num_Reduces.f 3 o = some (f, true)) : ∀ (l : List Int) (a : Int), (∀ x ∈ l, in64 x) → good o f a → good o f (l.foldl (fun a x => red o a x) a)
  | [], a, _, ha => ha
  | x :: l, a, hl, ha => good_fold h l (red o a x) (fun y hy => hl y (List.mem_cons_of_mem _ hy)) (good_red h ha.2 (hl x (List.mem_cons_self ..)))
theorem fold_out {o : Int} (ho : takes o) (a : Int) : ∀ (l : List Int) (b : Int), l.foldl (fun a x => red o a x) (red o a b) = red o a (l.foldl (fun a x => red o a x) b)
  | [], b => rfl
  | x :: l, b => by
    rw [List.foldl_cons, List.foldl_cons, red_assoc ho, fold_out ho a l]
theorem fold_app {o f : Int} (h : num_Reduces.f 3 o = some (f, true)) {l l' : List Int} (hl : ∀ x ∈ l, in64 x) : fold o f (l ++ l') = red o (fold o f l) (fold o f l') := by
  unfold fold
  rw [List.foldl_append]
  have hg := good_fold h l f hl (good_first h)
  conv => lhs; rw [← hg.1]
  exact fold_out (red_of 2 o f h) _ l' f

def All64 (ls : List (List Int)) : Prop := ∀ l ∈ ls, ∀ x ∈ l, in64 x
theorem All64.at {ls : List (List Int)} (h : All64 ls) (j : Nat) : ∀ x ∈ ls.getD j [], in64 x := by
  intro x hx
  by_cases q : j < ls.length
  · exact h (ls.getD j []) (by simp [List.getD, q]) x hx
  · simp [List.getD, List.getElem?_eq_none (show ls.length ≤ j by omega)] at hx
theorem All64.did {ls : List (List Int)} (h : All64 ls) {d : Int × Int × Int} (hd : in64 d.2.2) : All64 (did ls d) := by
  unfold Agg.did took
  split
  · split
    · exact h
    · intro l hl x hx
      rcases List.mem_or_eq_of_mem_set hl with hl | rfl
      · exact h l hl x hx
      · rcases List.mem_append.1 hx with hx | hx
        · exact h.at _ x hx
        · rw [List.mem_singleton.1 hx]; exact hd
  · split
    · intro l hl x hx
      simp at hl
      rw [hl.2] at hx
      cases hx
    · exact h
theorem All64.plays (D : List (Int × Int × Int)) : ∀ {ls : List (List Int)}, All64 ls → (∀ d ∈ D, in64 d.2.2) → All64 (plays ls D) := by
  unfold Agg.plays
  induction D with
  | nil => intro ls h _; exact h
  | cons d D ih =>
    intro ls h hD
    rw [List.foldl_cons]
    exact ih (h.did (hD d (List.mem_cons_self ..))) (fun x hx => hD x (List.mem_cons_of_mem _ hx))
theorem all64_new (n : Nat) : All64 (List.replicate n []) := fun l hl x hx => by
  simp at hl
  rw [hl.2] at hx
  cases hx
theorem both_len (ls ls' : List (List Int)) : (both ls ls').length = ls.length := by simp [both]
theorem both_getD (ls ls' : List (List Int)) (j : Nat) (h : j < ls.length) : (both ls ls').getD j [] = ls.getD j [] ++ ls'.getD j [] := by
  simp [both, List.getD, h]
theorem All64.both {ls ls' : List (List Int)} (h : All64 ls) (h' : All64 ls') : All64 (both ls ls') := by
  intro l hl x hx
  obtain ⟨t, _, rfl⟩ := List.mem_map.1 hl
  rcases List.mem_append.1 hx with hx | hx
  · exact h.at t x hx
  · exact h'.at t x hx
theorem sums_both {o f : Int} (h : num_Reduces.f 3 o = some (f, true)) {ls ls' : List (List Int)} (hl : All64 ls) {j : Nat} (hj : j < ls.length) : sums o f (both ls ls') j = red o (sums o f ls j) (sums o f ls' j) := by
  unfold sums
  rw [both_getD _ _ _ hj]
  exact fold_app h (hl.at j)
theorem sums_out {o f : Int} {ls : List (List Int)} {j : Nat} (hj : ¬ j < ls.length) : sums o f ls j = f := by
  unfold sums
  simp [List.getD, List.getElem?_eq_none (show ls.length ≤ j by omega), fold]
theorem cnts_out {ls : List (List Int)} {j : Nat} (hj : ¬ j < ls.length) : cnts ls j = 0 := by
  unfold cnts
  simp [List.getD, List.getElem?_eq_none (show ls.length ≤ j by omega)]
theorem May.both {o f o' f' : Int} {ls ls' : List (List Int)} {M N : Nat} (h : May o f ls M) (h' : May o' f' ls' N) : May o f (both ls ls') (M + N) := by
  refine ⟨h.red, by rw [both_len]; exact h.one, by rw [both_len]; exact h.four, fun l hl => ?_⟩
  obtain ⟨t, _, rfl⟩ := List.mem_map.1 hl
  have := h.at t
  have := h'.at t
  rw [List.length_append]
  omega

/-- The error of Merge. -/
def mcode (b b' : Bool) (o o' : Int) (n n' : Nat) : Int := if b = false ∨ b' = false then 1 else if o ≠ o' ∨ n ≠ n' then 2 else 0
def merged (b b' : Bool) (o o' : Int) (ls ls' : List (List Int)) : List (List Int) := if mcode b b' o o' ls.length ls'.length = 0 then both ls ls' else ls
theorem merge_A (b b' : Bool) (A B : Option Addr) (o f o' f' : Int) (ls ls' : List (List Int)) (w : World) (h : AgN w b A o f ls) (h' : AgN w b' B o' f' ls') (hm : b = true → May o f ls 1000) (hm' : b' = true → May o' f' ls' 1000) (h64 : All64 ls) :
    Calls Try.prog 21 #[.pointer A, .pointer B] w fun e w' => e = .returned (.int .i64 (mcode b b' o o' ls.length ls'.length)) ∧ AgN w' b A o f (merged b b' o o' ls ls') ∧ w.grownBy w' (blk A) := by
  cases b with
  | false =>
    rw [show A = none from h]
    refine (merge_nil1 B w).mono ?_
    rintro e w' ⟨rfl, hb⟩
    exact ⟨by simp [mcode], rfl, grown_none hb⟩
  | true =>
    obtain ⟨g, rfl, h⟩ := h
    have hm := hm rfl
    cases b' with
    | false =>
      rw [show B = none from h']
      refine (merge_nil2 g w).mono ?_
      rintro e w' ⟨rfl, hb⟩
      exact ⟨by simp [mcode], ⟨g, rfl, by simpa [merged, mcode] using h.below hb⟩, grown_below hb⟩
    | true =>
      obtain ⟨k, rfl, h'⟩ := h'
      have hm' := hm' rfl
      by_cases e1 : o = o'
      · subst e1
        by_cases e2 : ls.length = ls'.length
        · have hff : f = f' := by
            have := hm.red.symm.trans hm'.red
            injection this with this
            injection this
          subst hff
          rw [← e2] at h'
          refine (merge_ok g k o f ls.length f _ _ _ _ w h h' hm.takes (fun j _ => by have := hm.at j; unfold cnts; omega) (fun j _ => by have := hm'.at j; unfold cnts; omega)).mono ?_
          rintro e w' ⟨rfl, hi, hg⟩
          have hmc : mcode true true o o ls.length ls'.length = 0 := by simp [mcode, e2]
          refine ⟨by rw [hmc], ⟨g, rfl, ?_⟩, hg⟩
          rw [merged, if_pos hmc, both_len]
          refine hi.same (fun j hj => ?_) (fun j hj => ?_)
          · by_cases q : j < ls.length
            · exact (sums_both hm.red h64 q).symm
            · rw [sums_out q, sums_out (by omega), sums_out (by rw [both_len]; exact q)]
              exact (good_first hm.red).1
          · by_cases q : j < ls.length
            · unfold cnts
              rw [both_getD _ _ _ q]
              simp
            · rw [cnts_out q, cnts_out (by omega), cnts_out (by rw [both_len]; exact q)]
              rfl
        · refine (merge_n g k o f ls.length f' ls'.length _ _ _ _ w h h' (by omega)).mono ?_
          rintro e w' ⟨rfl, hb⟩
          have hmc : mcode true true o o ls.length ls'.length = 2 := by simp [mcode, e2]
          refine ⟨by rw [hmc], ⟨g, rfl, ?_⟩, grown_below hb⟩
          rw [merged, if_neg (by rw [hmc]; decide)]
          exact h.below hb
      · refine (merge_op g k o f ls.length o' f' ls'.length _ _ _ _ w h h' e1).mono ?_
        rintro e w' ⟨rfl, hb⟩
        have hmc : mcode true true o o' ls.length ls'.length = 2 := by simp [mcode, e1]
        refine ⟨by rw [hmc], ⟨g, rfl, ?_⟩, grown_below hb⟩
        rw [merged, if_neg (by rw [hmc]; decide)]
        exact h.below hb
theorem merge_R (b b' : Bool) (A B : Option Addr) (o f o' f' : Int) (ls ls' : List (List Int)) (w : World) (h : RfN w b A o ls) (h' : RfN w b' B o' ls') (hm : b = true → May o f ls 1000) (hm' : b' = true → May o' f' ls' 1000) :
    Calls Try.prog 22 #[.pointer A, .pointer B] w fun e w' => e = .returned (.int .i64 (mcode b b' o o' ls.length ls'.length)) ∧ RfN w' b A o (merged b b' o o' ls ls') ∧ w.grownBy w' (blk A) := by
  cases b with
  | false =>
    rw [show A = none from h]
    refine (rmerge_nil1 B w).mono ?_
    rintro e w' ⟨rfl, hb⟩
    exact ⟨by simp [mcode], rfl, grown_none hb⟩
  | true =>
    obtain ⟨g, rfl, h⟩ := h
    have hm := hm rfl
    cases b' with
    | false =>
      rw [show B = none from h']
      refine (rmerge_nil2 g w).mono ?_
      rintro e w' ⟨rfl, hb⟩
      exact ⟨by simp [mcode], ⟨g, rfl, by simpa [merged, mcode] using h.below hb⟩, grown_below hb⟩
    | true =>
      obtain ⟨k, rfl, h'⟩ := h'
      have hm' := hm' rfl
      by_cases e1 : o = o'
      · subst e1
        by_cases e2 : ls.length = ls'.length
        · refine (rmerge_ok g k o ls ls' w h h' hm.one hm.four e2.symm (fun l hl => Nat.le_trans (hm.few l hl) (by decide)) (fun l hl => Nat.le_trans (hm'.few l hl) (by decide))).mono ?_
          rintro e w' ⟨rfl, hi, hg⟩
          have hmc : mcode true true o o ls.length ls'.length = 0 := by simp [mcode, e2]
          refine ⟨by rw [hmc], ⟨g, rfl, ?_⟩, hg⟩
          rw [merged, if_pos hmc]
          exact hi
        · refine (rmerge_n g k o ls ls' w h h' e2).mono ?_
          rintro e w' ⟨rfl, hb⟩
          have hmc : mcode true true o o ls.length ls'.length = 2 := by simp [mcode, e2]
          refine ⟨by rw [hmc], ⟨g, rfl, ?_⟩, grown_below hb⟩
          rw [merged, if_neg (by rw [hmc]; decide)]
          exact h.below hb
      · refine (rmerge_op g k o o' ls ls' w h h' e1).mono ?_
        rintro e w' ⟨rfl, hb⟩
        have hmc : mcode true true o o' ls.length ls'.length = 2 := by simp [mcode, e1]
        refine ⟨by rw [hmc], ⟨g, rfl, ?_⟩, grown_below hb⟩
        rw [merged, if_neg (by rw [hmc]; decide)]
        exact h.below hb
end Go.Proofs.Ytdohoajphknciaa.Agg
