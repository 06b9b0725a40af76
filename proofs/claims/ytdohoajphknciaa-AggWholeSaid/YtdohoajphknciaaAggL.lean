/- What each of the two tells, whatever is done. -/
import Derived.Test.YtdohoajphknciaaAggX
set_option linter.unusedSimpArgs false
set_option linter.unusedVariables false
namespace Go.Proofs.Ytdohoajphknciaa.Agg
open Go.RowKit Go.Proofs.Ytdohoajphknciaa.PT Go.Proofs.Ytdohoajphknciaa.Pure Go.Proofs.Ytdohoajphknciaa.Perm Go.Proofs.YtdohoajphknciaaW.PrintWords Go.Proofs.YtdohoajphknciaaW.PrintLast Go.Proofs.YtdohoajphknciaaW.PrintMore

def sums (o f : Int) (ls : List (List Int)) : Nat → Int := fun j => fold o f (ls.getD j [])
def cnts (ls : List (List Int)) : Nat → Int := fun j => ((ls.getD j []).length : Int)
/-- What may be: the operation takes in many, one worker to four, none of them with too many numbers. -/
structure May (o f : Int) (ls : List (List Int)) (M : Nat) : Prop where
  red : num_Reduces.f 3 o = some (f, true)
  one : 1 ≤ ls.length
  four : ls.length ≤ 4
  few : ∀ l ∈ ls, l.length ≤ M
theorem May.takes {o f : Int} {ls : List (List Int)} {M : Nat} (h : May o f ls M) : takes o := red_of 2 o f h.red
theorem May.ref {o f : Int} {ls : List (List Int)} {M : Nat} (h : May o f ls M) : PA.reticuleref01_Reduces.f 3 o = some (f, true) := (ref_reduces 2 o).trans h.red
theorem May.less {o f : Int} {ls : List (List Int)} {M N : Nat} (h : May o f ls M) (hN : M ≤ N) : May o f ls N := ⟨h.red, h.one, h.four, fun l hl => Nat.le_trans (h.few l hl) hN⟩
theorem May.at {o f : Int} {ls : List (List Int)} {M : Nat} (h : May o f ls M) (j : Nat) : (ls.getD j []).length ≤ M := by
  by_cases q : j < ls.length
  · exact h.few _ (by simp [List.getD, q])
  · simp [List.getD, List.getElem?_eq_none (show ls.length ≤ j by omega)]

def AgN (w : World) : Bool → Option Addr → Int → Int → List (List Int) → Prop
  | false, A, _, _, _ => A = none
  | true, A, o, f, ls => ∃ g, A = some ⟨g, 0, none⟩ ∧ IsA w g o f ls.length (sums o f ls) (cnts ls)
def RfN (w : World) : Bool → Option Addr → Int → List (List Int) → Prop
  | false, R, _, _ => R = none
  | true, R, o, ls => ∃ g, R = some ⟨g, 0, none⟩ ∧ IsR w g o ls
def blk (A : Option Addr) : Option Nat := A.map (·.block)

def code (live : Bool) (n : Nat) (worker : Int) : Int := if live = false then 1 else if worker < 0 ∨ (n : Int) ≤ worker then 2 else 0
def took (ls : List (List Int)) (worker x : Int) : List (List Int) := if worker < 0 ∨ (ls.length : Int) ≤ worker then ls else ls.set worker.toNat (ls.getD worker.toNat [] ++ [x])
theorem took_len (ls : List (List Int)) (worker x : Int) : (took ls worker x).length = ls.length := by
  unfold took; split <;> simp

theorem AgN.below {w w' : World} {b : Bool} {A : Option Addr} {o f : Int} {ls : List (List Int)} (h : AgN w b A o f ls) (hb : Below w.heap.size w w') : AgN w' b A o f ls := by
  cases b with
  | false => exact h
  | true => obtain ⟨g, e, h⟩ := h; exact ⟨g, e, h.below hb⟩
theorem RfN.below {w w' : World} {b : Bool} {R : Option Addr} {o : Int} {ls : List (List Int)} (h : RfN w b R o ls) (hb : Below w.heap.size w w') : RfN w' b R o ls := by
  cases b with
  | false => exact h
  | true => obtain ⟨g, e, h⟩ := h; exact ⟨g, e, h.below hb⟩
/-- A write that grew another block. -/
theorem AgN.kept {w w' : World} {b : Bool} {A : Option Addr} {o f : Int} {ls : List (List Int)} {r : Option Nat} (h : AgN w b A o f ls) (hg : w.grownBy w' r) (hr : r = none ∨ blk A ≠ r) : AgN w' b A o f ls := by
  cases b with
  | false => exact h
  | true =>
    obtain ⟨g, rfl, h⟩ := h
    refine ⟨g, rfl, ?_⟩
    have hl := h.lt
    unfold IsA at h ⊢
    rw [hg.block g hl (by rcases hr with rfl | hr; · simp
                          · exact fun e => hr e), h]
theorem RfN.kept {w w' : World} {b : Bool} {R : Option Addr} {o : Int} {ls : List (List Int)} {r : Option Nat} (h : RfN w b R o ls) (hg : w.grownBy w' r) (ha : Apart w r) (hr : r = none ∨ blk R ≠ r) : RfN w' b R o ls := by
  cases b with
  | false => exact h
  | true =>
    obtain ⟨g, rfl, h⟩ := h
    refine ⟨g, rfl, ?_⟩
    have hl := h.lt
    obtain ⟨v, h1, h2⟩ := h
    exact ⟨v, by rw [hg.block g hl (by rcases hr with rfl | hr; · simp
                                       · exact fun e => hr e), h1], h2.kept hg ha⟩
theorem AgN.apart {w : World} {b : Bool} {A : Option Addr} {o f : Int} {ls : List (List Int)} (h : AgN w b A o f ls) : Apart w (blk A) := by
  cases b with
  | false => rw [show A = none from h]; exact Apart.none w
  | true => obtain ⟨g, rfl, h⟩ := h; exact h.apart
theorem RfN.apart {w : World} {b : Bool} {R : Option Addr} {o : Int} {ls : List (List Int)} (h : RfN w b R o ls) : Apart w (blk R) := by
  cases b with
  | false => rw [show R = none from h]; exact Apart.none w
  | true => obtain ⟨g, rfl, h⟩ := h; exact h.apart
theorem AgN.ne {w : World} {b b' : Bool} {A R : Option Addr} {o f o' : Int} {ls ls' : List (List Int)} (h : AgN w b A o f ls) (h' : RfN w b' R o' ls') : blk A = none ∨ blk R ≠ blk A := by
  cases b with
  | false => left; rw [show A = none from h]; rfl
  | true =>
    right
    obtain ⟨g, rfl, h⟩ := h
    cases b' with
    | false => rw [show R = none from h']; simp [blk]
    | true =>
      obtain ⟨k, rfl, h'⟩ := h'
      intro e
      injection e with e
      exact h.ne h' e.symm
theorem AgN.ne' {w : World} {b b' : Bool} {A R : Option Addr} {o f o' : Int} {ls ls' : List (List Int)} (h : AgN w b A o f ls) (h' : RfN w b' R o' ls') : blk R = none ∨ blk A ≠ blk R := by
  cases b' with
  | false => left; rw [show R = none from h']; rfl
  | true =>
    right
    obtain ⟨k, rfl, h'⟩ := h'
    cases b with
    | false => rw [show A = none from h]; simp [blk]
    | true =>
      obtain ⟨g, rfl, h⟩ := h
      intro e
      injection e with e
      exact h.ne h' e

theorem sums_took {o f x : Int} {ls : List (List Int)} {j : Nat} (h : j < ls.length) : sums o f (ls.set j (ls.getD j [] ++ [x])) = upd (sums o f ls) j (red o (sums o f ls j) x) := by
  funext t
  unfold sums upd
  by_cases e : t = j
  · subst e
    rw [if_pos rfl]
    simp [List.getD, h, fold]
  · rw [if_neg e]
    simp [List.getD, List.getElem?_set_ne (fun q => e q.symm)]
theorem cnts_took {x : Int} {ls : List (List Int)} {j : Nat} (h : j < ls.length) : cnts (ls.set j (ls.getD j [] ++ [x])) = upd (cnts ls) j (cnts ls j + 1) := by
  funext t
  unfold cnts upd
  by_cases e : t = j
  · subst e
    rw [if_pos rfl]
    simp [List.getD, h]
  · rw [if_neg e]
    simp [List.getD, List.getElem?_set_ne (fun q => e q.symm)]

theorem take_A (b : Bool) (A : Option Addr) (o f worker x : Int) (ls : List (List Int)) (w : World) (h : AgN w b A o f ls) (hm : b = true → May o f ls 1000) :
    Calls Try.prog 14 #[.pointer A, .int .i64 worker, .int .i64 x] w fun e w' => e = .returned (.int .i64 (code b ls.length worker)) ∧ AgN w' b A o f (took ls worker x) ∧ w.grownBy w' (blk A) := by
  cases b with
  | false =>
    rw [show A = none from h]
    refine (take_nil worker x w).mono ?_
    rintro e w' ⟨rfl, hb⟩
    exact ⟨rfl, rfl, grown_none hb⟩
  | true =>
    obtain ⟨g, rfl, h⟩ := h
    have hm := hm rfl
    by_cases hw : worker < 0 ∨ (ls.length : Int) ≤ worker
    · refine (take_bad g o f ls.length worker x _ _ w h hw).mono ?_
      rintro e w' ⟨rfl, hb⟩
      refine ⟨by simp [code, hw], ?_, grown_below hb⟩
      rw [took, if_pos hw]
      exact ⟨g, rfl, h.below hb⟩
    · have h0 : 0 ≤ worker := by omega
      have hn : worker < (ls.length : Int) := by omega
      have hj : worker.toNat < ls.length := by omega
      have h4 := hm.four
      have := hm.at worker.toNat
      refine (take_ok g o f ls.length x worker _ _ w h hm.takes h0 hn (by omega) (by unfold cnts; omega)).mono ?_
      rintro e w' ⟨rfl, hi, hg⟩
      refine ⟨by simp [code, hw], ?_, hg⟩
      rw [took, if_neg hw]
      refine ⟨g, rfl, ?_⟩
      rw [sums_took hj, cnts_took hj, List.length_set]
      exact hi
theorem take_R (b : Bool) (R : Option Addr) (o f worker x : Int) (ls : List (List Int)) (w : World) (h : RfN w b R o ls) (hm : b = true → May o f ls 1000) :
    Calls Try.prog 35 #[.pointer R, .int .i64 worker, .int .i64 x] w fun e w' => e = .returned (.int .i64 (code b ls.length worker)) ∧ RfN w' b R o (took ls worker x) ∧ w.grownBy w' (blk R) := by
  cases b with
  | false =>
    rw [show R = none from h]
    refine (rtake_nil worker x w).mono ?_
    rintro e w' ⟨rfl, hb⟩
    exact ⟨rfl, rfl, grown_none hb⟩
  | true =>
    obtain ⟨g, rfl, h⟩ := h
    have hm := hm rfl
    by_cases hw : worker < 0 ∨ (ls.length : Int) ≤ worker
    · refine (rtake_bad g o worker x ls w h hw).mono ?_
      rintro e w' ⟨rfl, hb⟩
      refine ⟨by simp [code, hw], ?_, grown_below hb⟩
      rw [took, if_pos hw]
      exact ⟨g, rfl, h.below hb⟩
    · refine (rtake_ok g o worker x ls w h (by omega) (by omega) hm.four (fun l hl => Nat.le_trans (hm.few l hl) (by omega))).mono ?_
      rintro e w' ⟨rfl, hi, hg⟩
      refine ⟨by simp [code, hw], ?_, hg⟩
      rw [took, if_neg hw]
      exact ⟨g, rfl, hi⟩

theorem sums_new (o f : Int) (n : Nat) : sums o f (List.replicate n []) = fun _ => f := by
  funext t
  unfold sums
  by_cases h : t < n
  · simp [List.getD, h, fold]
  · simp [List.getD, h, fold]
theorem cnts_new (n : Nat) : cnts (List.replicate n []) = fun _ => 0 := by
  funext t
  unfold cnts
  by_cases h : t < n
  · simp [List.getD, h]
  · simp [List.getD, h]
theorem clear_A (b : Bool) (A : Option Addr) (o f : Int) (ls : List (List Int)) (w : World) (h : AgN w b A o f ls) :
    Calls Try.prog 23 #[.pointer A] w fun e w' => e = .returned (.tuple #[]) ∧ AgN w' b A o f (List.replicate ls.length []) ∧ w.grownBy w' (blk A) := by
  cases b with
  | false =>
    rw [show A = none from h]
    refine (clear_nil w).mono ?_
    rintro e w' ⟨rfl, hb⟩
    exact ⟨rfl, rfl, grown_none hb⟩
  | true =>
    obtain ⟨g, rfl, h⟩ := h
    refine (clear_ok g o f ls.length _ _ w h).mono ?_
    rintro e w' ⟨rfl, hi, hg⟩
    refine ⟨rfl, ⟨g, rfl, ?_⟩, hg⟩
    rw [sums_new, cnts_new, List.length_replicate]
    exact hi
theorem clear_R (b : Bool) (R : Option Addr) (o f : Int) (ls : List (List Int)) (w : World) (h : RfN w b R o ls) (hm : b = true → May o f ls 1000) :
    Calls Try.prog 36 #[.pointer R] w fun e w' => e = .returned (.tuple #[]) ∧ RfN w' b R o (List.replicate ls.length []) ∧ w.grownBy w' (blk R) := by
  cases b with
  | false =>
    rw [show R = none from h]
    refine (rclear_nil w).mono ?_
    rintro e w' ⟨rfl, hb⟩
    exact ⟨rfl, rfl, grown_none hb⟩
  | true =>
    obtain ⟨g, rfl, h⟩ := h
    refine (rclear_ok g o ls w h (hm rfl).one (hm rfl).four).mono ?_
    rintro e w' ⟨rfl, hi, hg⟩
    exact ⟨rfl, ⟨g, rfl, hi⟩, hg⟩

/-- What Part tells of a worker. -/
def pt (b : Bool) (o f : Int) (ls : List (List Int)) (worker : Int) : Int := if code b ls.length worker = 0 then sums o f ls worker.toNat else 0
theorem part_A (b : Bool) (A : Option Addr) (o f worker : Int) (ls : List (List Int)) (w : World) (h : AgN w b A o f ls) (hm : b = true → May o f ls 1000) :
    Calls Try.prog 16 #[.pointer A, .int .i64 worker] w fun e w' => e = .returned (.tuple #[.int .i64 (pt b o f ls worker), .int .i64 (code b ls.length worker)]) ∧ Below w.heap.size w w' := by
  cases b with
  | false => rw [show A = none from h]; exact part_nil worker w
  | true =>
    obtain ⟨g, rfl, h⟩ := h
    have hm := hm rfl
    by_cases hw : worker < 0 ∨ (ls.length : Int) ≤ worker
    · refine (part_bad g o f ls.length worker _ _ w h hw).mono ?_
      rintro e w' ⟨rfl, hb⟩
      exact ⟨by simp [pt, code, hw], hb⟩
    · have h4 := hm.four
      refine (part_ok g o f ls.length worker _ _ w h (by omega) (by omega) (by omega)).mono ?_
      rintro e w' ⟨rfl, hb⟩
      exact ⟨by simp [pt, code, hw], hb⟩
theorem part_R (b : Bool) (R : Option Addr) (o f worker : Int) (ls : List (List Int)) (w : World) (h : RfN w b R o ls) (hm : b = true → May o f ls 1000) :
    Calls Try.prog 29 #[.pointer R, .int .i64 worker] w fun e w' => e = .returned (.tuple #[.int .i64 (pt b o f ls worker), .int .i64 (code b ls.length worker)]) ∧ Below w.heap.size w w' := by
  cases b with
  | false => rw [show R = none from h]; exact rpart_nil worker w
  | true =>
    obtain ⟨g, rfl, h⟩ := h
    have hm := hm rfl
    by_cases hw : worker < 0 ∨ (ls.length : Int) ≤ worker
    · refine (rpart_bad g o worker ls w h hw).mono ?_
      rintro e w' ⟨rfl, hb⟩
      exact ⟨by simp [pt, code, hw], hb⟩
    · obtain ⟨j, rfl⟩ := Int.eq_ofNat_of_zero_le (show 0 ≤ worker by omega)
      have hj : j < ls.length := by omega
      refine (rpart_ok g j o f ls w h hm.ref hj hm.four (fun l hl => Nat.le_trans (hm.few l hl) (by omega))).mono ?_
      rintro e w' ⟨rfl, hb⟩
      refine ⟨?_, hb⟩
      have : ¬ ((j : Int) < 0 ∨ (ls.length : Int) ≤ j) := hw
      simp [pt, code, this, sums, List.getD, hj]

def wh (b : Bool) (o f : Int) (ls : List (List Int)) (k : Nat) : Int := if b = true then all o f (sums o f ls) (ord ls.length k) else 0
def er (b : Bool) : Int := if b = true then 0 else 1
theorem whole_A (b : Bool) (A : Option Addr) (o f : Int) (k : Nat) (ls : List (List Int)) (w : World) (h : AgN w b A o f ls) (hm : b = true → May o f ls 1000) (hk : (k : Int) ≤ 18446744073709551615) :
    Calls Try.prog 15 #[.pointer A, .int .u64 k] w fun e w' => e = .returned (.tuple #[.int .i64 (wh b o f ls k), .int .i64 (er b)]) ∧ Below w.heap.size w w' := by
  cases b with
  | false => rw [show A = none from h]; exact whole_nil k w
  | true =>
    obtain ⟨g, rfl, h⟩ := h
    have hm := hm rfl
    exact whole_ok g ls.length k o f _ _ w h hm.takes hm.one hm.four hk
theorem whole_R (b : Bool) (R : Option Addr) (o f : Int) (k : Nat) (ls : List (List Int)) (w : World) (h : RfN w b R o ls) (hm : b = true → May o f ls 1000) :
    Calls Try.prog 30 #[.pointer R, .int .u64 k] w fun e w' => e = .returned (.tuple #[.int .i64 (wh b o f ls k), .int .i64 (er b)]) ∧ Below w.heap.size w w' := by
  cases b with
  | false => rw [show R = none from h]; exact rwhole_nil k w
  | true =>
    obtain ⟨g, rfl, h⟩ := h
    have hm := hm rfl
    exact rwhole_ok g k o f ls w h hm.ref hm.one hm.four (fun l hl => Nat.le_trans (hm.few l hl) (by omega))

theorem cnts_sum {ls : List (List Int)} (h : ls.length ≤ 4) : cnts ls 0 + cnts ls 1 + cnts ls 2 + cnts ls 3 = (cnt ls : Int) := by
  match ls, h with
  | [], _ => rfl
  | [a], _ => simp [cnts, cnt]
  | [a, b], _ => simp [cnts, cnt]
  | [a, b, c], _ => simp [cnts, cnt] <;> omega
  | [a, b, c, d], _ => simp [cnts, cnt] <;> omega
  | a :: b :: c :: d :: e :: l, h => simp at h <;> omega
def ct (b : Bool) (ls : List (List Int)) : Int := if b = true then (cnt ls : Int) else 0
theorem count_A (b : Bool) (A : Option Addr) (o f : Int) (ls : List (List Int)) (w : World) (h : AgN w b A o f ls) (hm : b = true → May o f ls 1000) :
    Calls Try.prog 17 #[.pointer A] w fun e w' => e = .returned (.int .i64 (ct b ls)) ∧ Below w.heap.size w w' := by
  cases b with
  | false => rw [show A = none from h]; exact count_nil w
  | true =>
    obtain ⟨g, rfl, h⟩ := h
    have hm := hm rfl
    have := count_ok g o f ls.length _ _ w h (fun j _ => by have := hm.at j; unfold cnts; omega)
    rw [cnts_sum hm.four] at this
    exact this
theorem count_R (b : Bool) (R : Option Addr) (o f : Int) (ls : List (List Int)) (w : World) (h : RfN w b R o ls) (hm : b = true → May o f ls 1000) :
    Calls Try.prog 31 #[.pointer R] w fun e w' => e = .returned (.int .i64 (ct b ls)) ∧ Below w.heap.size w w' := by
  cases b with
  | false => rw [show R = none from h]; exact rcount_nil w
  | true =>
    obtain ⟨g, rfl, h⟩ := h
    have hm := hm rfl
    exact rcount_ok g o ls w h hm.one hm.four (fun l hl => Nat.le_trans (hm.few l hl) (by omega))

theorem fork_A (b : Bool) (A : Option Addr) (o f : Int) (ls : List (List Int)) (w : World) (h : AgN w b A o f ls) :
    Calls Try.prog 18 #[.pointer A] w fun e w' => ∃ F, e = .returned (.pointer F) ∧ AgN w' b F o f ls ∧ (∀ g, blk F = some g → w.heap.size ≤ g) ∧ Below w.heap.size w w' := by
  cases b with
  | false =>
    rw [show A = none from h]
    refine (fork_nil w).mono ?_
    rintro e w' ⟨rfl, hb⟩
    exact ⟨none, rfl, rfl, fun g e => (by cases e), hb⟩
  | true =>
    obtain ⟨g, rfl, h⟩ := h
    refine (fork_ok g o f ls.length _ _ w h).mono ?_
    rintro e w' ⟨rfl, hi, hb⟩
    exact ⟨_, rfl, ⟨_, rfl, hi⟩, fun g e => (by injection e with e; exact Nat.le_of_eq e), hb⟩
theorem fork_R (b : Bool) (R : Option Addr) (o f : Int) (ls : List (List Int)) (w : World) (h : RfN w b R o ls) (hm : b = true → May o f ls 1000) :
    Calls Try.prog 19 #[.pointer R] w fun e w' => ∃ F, e = .returned (.pointer F) ∧ RfN w' b F o ls ∧ (∀ g, blk F = some g → w.heap.size ≤ g) ∧ Below w.heap.size w w' := by
  cases b with
  | false =>
    rw [show R = none from h]
    refine (rfork_nil w).mono ?_
    rintro e w' ⟨rfl, hb⟩
    exact ⟨none, rfl, rfl, fun g e => (by cases e), hb⟩
  | true =>
    obtain ⟨g, rfl, h⟩ := h
    refine (rfork_ok g o ls w h (hm rfl).one (hm rfl).four).mono ?_
    rintro e w' ⟨k, rfl, hk, hi, hb⟩
    exact ⟨_, rfl, ⟨_, rfl, hi⟩, fun g e => (by injection e with e; subst e; exact hk), hb⟩

/-- Is there one? -/
def isL (o n : Int) : Bool := ((num_Reduces.f 3 o).getD (0, false)).2 && decide (1 ≤ n) && decide (n ≤ 4)
def fst0 (o : Int) : Int := ((num_Reduces.f 3 o).getD (0, false)).1
theorem new_A (o n : Int) (w : World) : Calls Try.prog 12 #[.int .u8 o, .int .i64 n] w fun e w' => ∃ A, e = .returned (.pointer A) ∧ AgN w' (isL o n) A o (fst0 o) (List.replicate n.toNat []) ∧ (∀ g, blk A = some g → w.heap.size ≤ g) ∧ Below w.heap.size w w' := by
  obtain ⟨f, b, hr⟩ := reduces_some 2 o
  have hf : fst0 o = f := by simp [fst0, hr]
  by_cases hb : b = false ∨ n < 1 ∨ 4 < n
  · have hl : isL o n = false := by
      simp only [isL, hr, Option.getD_some]
      rcases hb with rfl | h | h
      · rfl
      · simp [show ¬ 1 ≤ n by omega]
      · simp [show ¬ n ≤ 4 by omega]
    rw [hl]
    refine (new_no o n f b w hr hb).mono ?_
    rintro e w' ⟨rfl, hb⟩
    exact ⟨none, rfl, rfl, fun g e => (by cases e), hb⟩
  · have h1 : 1 ≤ n := by omega
    have h4 : n ≤ 4 := by omega
    have hbt : b = true := by cases b with | false => exact absurd (Or.inl rfl) hb | true => rfl
    subst hbt
    have hl : isL o n = true := by simp [isL, hr, h1, h4]
    rw [hl, hf]
    refine (new_ok o n f w hr h1 h4).mono ?_
    rintro e w' ⟨rfl, hi, hb⟩
    refine ⟨_, rfl, ⟨_, rfl, ?_⟩, fun g e => (by injection e with e; exact Nat.le_of_eq e), hb⟩
    rw [sums_new, cnts_new, List.length_replicate, show ((n.toNat : Nat) : Int) = n by omega]
    exact hi
theorem new_R (o n : Int) (w : World) : Calls Try.prog 24 #[.int .u8 o, .int .i64 n] w fun e w' => ∃ R, e = .returned (.pointer R) ∧ RfN w' (isL o n) R o (List.replicate n.toNat []) ∧ (∀ g, blk R = some g → w.heap.size ≤ g) ∧ Below w.heap.size w w' := by
  obtain ⟨f, b, hr⟩ := reduces_some 2 o
  have hr' : PA.reticuleref01_Reduces.f 3 o = some (f, b) := (ref_reduces 2 o).trans hr
  by_cases hb : b = false ∨ n < 1 ∨ 4 < n
  · have hl : isL o n = false := by
      simp only [isL, hr, Option.getD_some]
      rcases hb with rfl | h | h
      · rfl
      · simp [show ¬ 1 ≤ n by omega]
      · simp [show ¬ n ≤ 4 by omega]
    rw [hl]
    refine (rnew_no o n f b w hr' hb).mono ?_
    rintro e w' ⟨rfl, hb⟩
    exact ⟨none, rfl, rfl, fun g e => (by cases e), hb⟩
  · have h1 : 1 ≤ n := by omega
    have h4 : n ≤ 4 := by omega
    have hbt : b = true := by cases b with | false => exact absurd (Or.inl rfl) hb | true => rfl
    subst hbt
    have hl : isL o n = true := by simp [isL, hr, h1, h4]
    rw [hl]
    obtain ⟨m, rfl⟩ := Int.eq_ofNat_of_zero_le (show 0 ≤ n by omega)
    refine (rnew_ok o f m w hr' (by omega) (by omega)).mono ?_
    rintro e w' ⟨g, rfl, hg, hi, hb⟩
    exact ⟨_, rfl, ⟨_, rfl, hi⟩, fun k e => (by injection e with e; subst e; exact hg), hb⟩
theorem may_new {o n : Int} (h : isL o n = true) : May o (fst0 o) (List.replicate n.toNat []) 0 := by
  obtain ⟨f, b, hr⟩ := reduces_some 2 o
  simp only [isL, hr, Option.getD_some, Bool.and_eq_true, decide_eq_true_eq] at h
  obtain ⟨⟨rfl, h1⟩, h4⟩ := h
  exact ⟨by simp [fst0, hr], by simp; omega, by simp; omega, fun l hl => by simp at hl; simp [hl.2]⟩
end Go.Proofs.Ytdohoajphknciaa.Agg
