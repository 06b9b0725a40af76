/- agg.New, Take, Whole: the walks (as for the statements of agg). -/
import Derived.Test.YthmenclkgngkkaaTd
import Derived.Deep.RegionHeld3
set_option linter.unusedSimpArgs false
set_option linter.unusedVariables false
namespace Go.Proofs.Ythmenclkgngkkaa.Agg
open Go.RowKit Go.Proofs.Ythmenclkgngkkaa.PA Go.Proofs.Ythmenclkgngkkaa.M Go.Proofs.Ythmenclkgngkkaa.Perm Go.Proofs.YthmenclkgngkkaaW.PrintWords Go.Proofs.YthmenclkgngkkaaW.PrintLast Go.Proofs.YthmenclkgngkkaaW.PrintMore
def ag (o f n : Int) (s c : Nat → Int) : List Value := [.int .u8 o, .int .i64 f, .int .i64 (s 0), .int .i64 (c 0), .int .i64 (s 1), .int .i64 (c 1), .int .i64 (s 2), .int .i64 (c 2), .int .i64 (s 3), .int .i64 (c 3), .int .i64 n]
def IsA (w : World) (g : Nat) (o f n : Int) (s c : Nat → Int) : Prop := w.heap[g]? = some (.cells (ag o f n s c).toArray 85 (0, 0))
theorem IsA.lt {w : World} {g : Nat} {o f n : Int} {s c : Nat → Int} (h : IsA w g o f n s c) : g < w.heap.size := by
 rcases Nat.lt_or_ge g w.heap.size with h' | h'
 ·exact h'
 ·unfold IsA at h; rw [Array.getElem?_eq_none h'] at h; cases h
theorem IsA.at {w : World} {g : Nat} {o f n : Int} {s c : Nat → Int} (h : IsA w g o f n s c) (i : Nat) : w.cell? ⟨g, i, none⟩ = (ag o f n s c)[i]? := by
 unfold IsA at h
 simp [World.cell?, h]
theorem IsA.free {w : World} {g : Nat} {o f n : Int} {s c : Nat → Int} (h : IsA w g o f n s c) (i : Nat) : w.frozen? ⟨g, i, none⟩ = false := by
 unfold IsA at h
 simp [World.frozen?, h]
theorem IsA.below {w w' : World} {g : Nat} {o f n : Int} {s c : Nat → Int} (h : IsA w g o f n s c) (hb : Below w.heap.size w w') : IsA w' g o f n s c := by
 have hl := h.lt
 unfold IsA at h ⊢
 rw [hb.block g hl, h]
theorem IsA.set {w : World} {g : Nat} {o f n : Int} {s c : Nat → Int} (h : IsA w g o f n s c) (i : Nat) (v : Value) {s' c' : Nat → Int} (e : (ag o f n s c).set i v = ag o f n s' c') : IsA (w.setCell ⟨g, i, none⟩ v) g o f n s' c' := by
 unfold IsA at h ⊢
 rw [← e]
 simp [World.setCell, Array.getElem?_modify, h]
def upd (s : Nat → Int) (j : Nat) (v : Int) : Nat → Int := fun i => if i = j then v else s i
theorem C_two (w : World) (B : Nat) (x y : Int) (h0 : w.cell? ⟨B, 0, none⟩ = some (.int .i64 x)) (h1 : w.cell? ⟨B, 1, none⟩ = some (.int .i64 y)) : Kd.C (Kd.int .i64) w (some ⟨B, 0, none⟩) 2 [x, y] := by
 refine ⟨rfl, by decide, fun _ => ⟨_, rfl, fun j p hp => ?_⟩⟩
 have hs : (Kd.int .i64).sz = 1 := rfl
 match j, hp with
 | 0, hp =>
  cases hp
  refine ⟨[.int .i64 x], rfl, rfl, fun i u hu => ?_⟩
  cases i with
  | zero => cases hu; simpa [Addr.add] using h0
  | succ i => simp at hu
 | 1, hp =>
  cases hp
  refine ⟨[.int .i64 y], rfl, rfl, fun i u hu => ?_⟩
  cases i with
  | zero => cases hu; simpa [Addr.add, hs] using h1
  | succ i => simp at hu
theorem do2 (o x y : Int) (ho : takes o) (w : World) (B : Nat) (h0 : w.cell? ⟨B, 0, none⟩ = some (.int .i64 x)) (h1 : w.cell? ⟨B, 1, none⟩ = some (.int .i64 y)) :
  Calls Try.prog 46 #[.int .u8 o, .slice (some ⟨B, 0, none⟩) 2 2] w fun e_ w' => e_ = .returned (.tuple #[.int .i64 (red o x y), .int .i64 0]) ∧ Below w.heap.size w w' :=
 num_Do.calls 2 o (some ⟨B, 0, none⟩) 2 [x, y] (red o x y) 0 w (C_two w B x y h0 h1) (Nat.le_refl 2) (do_red ho 1 x y)
theorem ag_two {j : Nat} (hj : j < 4) (o f n v u : Int) (s c : Nat → Int) : ((ag o f n s c).set (2 + j * 2) (.int .i64 v)).set (2 + j * 2 + 1) (.int .i64 u) = ag o f n (upd s j v) (upd c j u) := by
 match j, hj with
 | 0, _ => rfl
 | 1, _ => rfl
 | 2, _ => rfl
 | 3, _ => rfl
theorem ag_s {j : Nat} (hj : j < 4) {o f n : Int} {s c : Nat → Int} : (ag o f n s c)[2 + j * 2]? = some (.int .i64 (s j)) := by
 match j, hj with
 | 0, _ => rfl
 | 1, _ => rfl
 | 2, _ => rfl
 | 3, _ => rfl
theorem ag_c {j : Nat} (hj : j < 4) {o f n : Int} {s c : Nat → Int} : (ag o f n s c)[2 + j * 2 + 1]? = some (.int .i64 (c j)) := by
 match j, hj with
 | 0, _ => rfl
 | 1, _ => rfl
 | 2, _ => rfl
 | 3, _ => rfl
theorem IsA.same {w : World} {g : Nat} {o f n : Int} {s c s' c' : Nat → Int} (h : IsA w g o f n s c) (hs : ∀ j, j < 4 → s j = s' j) (hc : ∀ j, j < 4 → c j = c' j) : IsA w g o f n s' c' := by
 unfold IsA at h ⊢
 rw [h]
 unfold ag
 rw [hs 0 (by decide), hs 1 (by decide), hs 2 (by decide), hs 3 (by decide), hc 0 (by decide), hc 1 (by decide), hc 2 (by decide), hc 3 (by decide)]
theorem IsA.clear4 {w : World} {g : Nat} {o f n : Int} {s c : Nat → Int} (h : IsA w g o f n (fun k => if k < 4 then f else s k) (fun k => if k < 4 then 0 else c k)) : IsA w g o f n (fun _ => f) (fun _ => 0) :=
 h.same (fun j hj => by simp [hj]) (fun j hj => by simp [hj])
theorem IsA.two {w : World} {g j : Nat} {o f n v u : Int} {s c : Nat → Int} (h : IsA w g o f n s c) (hj : j < 4) : IsA ((w.setCell ⟨g, 2 + j * 2, none⟩ (.int .i64 v)).setCell ⟨g, 2 + j * 2 + 1, none⟩ (.int .i64 u)) g o f n (upd s j v) (upd c j u) := by
 unfold IsA at h ⊢
 rw [← ag_two hj]
 simp [World.setCell, Array.getElem?_modify, h]
theorem grown_set {w w3 : World} {g i : Nat} {u : Value} (hg : w.grownBy w3 (some g)) : w.grownBy (w3.setCell ⟨g, i, none⟩ u) (some g) :=
 ⟨hg.os, hg.tape, hg.output, by simpa [World.setCell] using hg.size, fun k hk hne => by
  rw [Below.heap_setCell _ _ _ _ (fun e => hne (by rw [e]))]; exact hg.block k hk hne⟩
theorem grown_drew {w w3 : World} {r : Option Nat} (hg : w.grownBy w3 r) : w.grownBy w3.drew r := ⟨hg.os, hg.tape, hg.output, hg.size, hg.block⟩
theorem IsA.new (w : World) (o f n : Int) (s c : Nat → Int) : IsA (w.alloc (.cells (ag o f n s c).toArray 85 (0, 0))) w.heap.size o f n s c := by
 unfold IsA
 show (w.heap.push _)[w.heap.size]? = _
 simp
theorem grown_below {w w3 : World} {g : Nat} (hb : Below w.heap.size w w3) : w.grownBy w3 (some g) := ⟨hb.os, hb.tape, hb.output, hb.size, fun k hk _ => hb.block k hk⟩
theorem grown_two {w w3 : World} {g i k : Nat} {u v : Value} (hb : Below w.heap.size w w3) : w.grownBy ((w3.setCell ⟨g, i, none⟩ u).setCell ⟨g, k, none⟩ v) (some g) := grown_set (grown_set (grown_below hb))
theorem grown_trans {w W w3 : World} {g : Nat} (hb : Below w.heap.size w W) (hg : W.grownBy w3 (some g)) : w.grownBy w3 (some g) :=
 ⟨hg.os.trans hb.os, hg.tape.trans hb.tape, hg.output.trans hb.output, Nat.le_trans hb.size hg.size, fun k hk hne => (hg.block k (Nat.lt_of_lt_of_le hk hb.size) hne).trans (hb.block k hk)⟩
set_option maxRecDepth 100000 in
set_option maxHeartbeats 2000000 in
theorem take1 (g b1 b2 j : Nat) (o f n x : Int) (s c : Nat → Int) (w : World) (h : IsA w g o f n s c) (ho : takes o) (hj : j < 4) (h1 : w.cell? ⟨b1, 0, none⟩ = some (.pointer (some ⟨g, 0, none⟩))) (h2 : w.cell? ⟨b2, 0, none⟩ = some (.int .i64 x)) (hc : -1000000 ≤ c j ∧ c j ≤ 1000000) :
  Calls Try.prog 54 #[.pointer (some ⟨g, 2 + j * 2, none⟩), .pointer (some ⟨b1, 0, none⟩), .pointer (some ⟨b2, 0, none⟩)] w fun e w' => e = .returned (.tuple #[]) ∧ IsA w' g o f n (upd s j (red o (s j) x)) (upd c j (c j + 1)) ∧ w.grownBy w' (some g) := by
 have HI := Lib.hid h
 have lg := h.lt
 have l1 := World.block_lt_of_cell? w _ h1
 have l2 := World.block_lt_of_cell? w _ h2
 have e0 : w.cell? ⟨g, 0, none⟩ = some (.int .u8 o) := h.at 0
 have es : w.cell? ⟨g, 2 + j * 2, none⟩ = some (.int .i64 (s j)) := by
  rw [h.at]
  match j, hj with
  | 0, _ => rfl
  | 1, _ => rfl
  | 2, _ => rfl
  | 3, _ => rfl
 have ec : w.cell? ⟨g, 2 + j * 2 + 1, none⟩ = some (.int .i64 (c j)) := by
  rw [h.at]
  match j, hj with
  | 0, _ => rfl
  | 1, _ => rfl
  | 2, _ => rfl
  | 3, _ => rfl
 clear h
 go_enter Try.func54, Try.ntmps54
 go_wp2_with fail
 refine start_ (n := 18) (S := fun w' => w'.cell? ⟨b1, 0, none⟩ = some (.pointer (some ⟨g, 0, none⟩)) ∧ w'.cell? ⟨b2, 0, none⟩ = some (.int .i64 x) ∧ w'.cell? ⟨g, 0, none⟩ = some (.int .u8 o) ∧ w'.cell? ⟨g, 2 + j * 2, none⟩ = some (.int .i64 (s j))) (ds := [17]) #[false,false,false,false,false,false,false,false,false,false,false,false,false,false,false,false,false,false] (by kernel_rfl) rfl rfl ⟨h1, h2, e0, es⟩ (fun hHeld => ?_)
 refine pure_ (i := 0) (N := some 5) (v := ?_) (a' := ?_) #[true,false,false,false,false,false,false,false,false,false,false,false,false,false,false,false,false,false] rfl rfl (by kernel_rfl) (fun _ _ _ h => h) (Or.inl ⟨by rfl, ?_⟩) ?_ ?_
 rotate_left
 ·intro w'
  go_simp
  with_reducible rfl
 rotate_left
 ·simp only [Act.put, List.setIfInBounds_toArray, List.set_cons_zero, List.set_cons_succ, i64_w, i32_w]
  rfl
 refine pure_ (i := 5) (N := some 10) (v := ?_) (a' := ?_) #[true,false,false,false,false,true,false,false,false,false,false,false,false,false,false,false,false,false] rfl rfl (by kernel_rfl) (fun _ _ _ h => h) (Or.inl ⟨by rfl, ?_⟩) ?_ ?_
 rotate_left
 ·intro w'
  go_simp
  with_reducible rfl
 rotate_left
 ·simp only [Act.put, List.setIfInBounds_toArray, List.set_cons_zero, List.set_cons_succ, i64_w, i32_w]
  rfl
 refine pure_ (i := 6) (N := some 11) (v := ?_) (a' := ?_) #[true,false,false,false,false,true,true,false,false,false,false,false,false,false,false,false,false,false] rfl rfl (by kernel_rfl) (fun _ _ _ h => h) (Or.inl ⟨by rfl, ?_⟩) ?_ ?_
 rotate_left
 ·intro w'
  go_simp
  with_reducible rfl
 rotate_left
 ·simp only [Act.put, List.setIfInBounds_toArray, List.set_cons_zero, List.set_cons_succ, i64_w, i32_w]
  rfl
 refine pure_ (i := 7) (N := some 12) (v := ?_) (a' := ?_) #[true,false,false,false,false,true,true,true,false,false,false,false,false,false,false,false,false,false] rfl rfl (by kernel_rfl) (fun _ _ _ h => h) (Or.inl ⟨by rfl, ?_⟩) ?_ ?_
 rotate_left
 ·intro w'
  go_simp
  with_reducible rfl
 rotate_left
 ·simp only [Act.put, List.setIfInBounds_toArray, List.set_cons_zero, List.set_cons_succ, i64_w, i32_w]
  rfl
 refine take_ (i := 1) (N := some 6) (v := ?_) (a' := ?_) #[true,true,false,false,false,true,true,true,false,false,false,false,false,false,false,false,false,false] rfl rfl (by kernel_rfl) (fun _ _ _ h => h) (Or.inl ⟨by rfl, ?_⟩) hHeld ?_ ?_
 rotate_left
 ·rintro w' ⟨s0, s1, s2, s3⟩
  go_simp
  with_reducible rfl
 rotate_left
 ·simp only [Act.put, List.setIfInBounds_toArray, List.set_cons_zero, List.set_cons_succ, i64_w, i32_w]
  rfl
 refine pure_ (i := 2) (N := some 7) (v := ?_) (a' := ?_) #[true,true,true,false,false,true,true,true,false,false,false,false,false,false,false,false,false,false] rfl rfl (by kernel_rfl) (fun _ _ _ h => h) (Or.inl ⟨by rfl, ?_⟩) ?_ ?_
 rotate_left
 ·intro w'
  go_simp
  with_reducible rfl
 rotate_left
 ·simp only [Act.put, List.setIfInBounds_toArray, List.set_cons_zero, List.set_cons_succ, i64_w, i32_w]
  rfl
 refine pure_ (i := 3) (N := some 8) (v := ?_) (a' := ?_) #[true,true,true,true,false,true,true,true,false,false,false,false,false,false,false,false,false,false] rfl rfl (by kernel_rfl) (fun _ _ _ h => h) (Or.inl ⟨by rfl, ?_⟩) ?_ ?_
 rotate_left
 ·intro w'
  go_simp
  with_reducible rfl
 rotate_left
 ·simp only [Act.put, List.setIfInBounds_toArray, List.set_cons_zero, List.set_cons_succ, i64_w, i32_w]
  rfl
 refine take_ (i := 4) (N := some 9) (v := ?_) (a' := ?_) #[true,true,true,true,true,true,true,true,false,false,false,false,false,false,false,false,false,false] rfl rfl (by kernel_rfl) (fun _ _ _ h => h) (Or.inl ⟨by rfl, ?_⟩) hHeld ?_ ?_
 rotate_left
 ·rintro w' ⟨s0, s1, s2, s3⟩
  go_simp
  with_reducible rfl
 rotate_left
 ·simp only [Act.put, List.setIfInBounds_toArray, List.set_cons_zero, List.set_cons_succ, i64_w, i32_w]
  rfl
 refine take_ (i := 8) (N := some 13) (v := ?_) (a' := ?_) #[true,true,true,true,true,true,true,true,true,false,false,false,false,false,false,false,false,false] rfl rfl (by kernel_rfl) (fun _ _ _ h => h) (Or.inl ⟨by rfl, ?_⟩) hHeld ?_ ?_
 rotate_left
 ·rintro w' ⟨s0, s1, s2, s3⟩
  go_simp
  with_reducible rfl
 rotate_left
 ·simp only [Act.put, List.setIfInBounds_toArray, List.set_cons_zero, List.set_cons_succ, i64_w, i32_w]
  rfl
 refine take_ (i := 9) (N := some 14) (v := ?_) (a' := ?_) #[true,true,true,true,true,true,true,true,true,true,false,false,false,false,false,false,false,false] rfl rfl (by kernel_rfl) (fun _ _ _ h => h) (Or.inl ⟨by rfl, ?_⟩) hHeld ?_ ?_
 rotate_left
 ·rintro w' ⟨s0, s1, s2, s3⟩
  go_simp
  with_reducible rfl
 rotate_left
 ·simp only [Act.put, List.setIfInBounds_toArray, List.set_cons_zero, List.set_cons_succ, i64_w, i32_w]
  rfl
 refine one_ (i := 10) (N := some 15) #[true,true,true,true,true,true,true,true,true,true,true,false,false,false,false,false,false,false] rfl rfl (by kernel_rfl) (by decide) (fun K hK => ?_)
 refine value_ (w1 := ?_) (v := ?_) (by rfl) rfl ?_ ?_
 rotate_left 2
 ·go_simp
  constructor
  ·rfl
  ·rfl
 refine hK.out _ _ ⟨(by go_simp), (by go_simp), (by go_simp), (by go_simp)⟩ (fun hHeld => ?_)
 clear hK K
 refine norm_ (a' := ?_) ?_ ?_
 rotate_left
 ·show Act.put _ (some 15) _ = _
  simp only [Act.put, List.setIfInBounds_toArray, List.set_cons_zero, List.set_cons_succ, i64_w, i32_w]
  rfl
 refine one_ (i := 11) (N := some 16) #[true,true,true,true,true,true,true,true,true,true,true,true,false,false,false,false,false,false] rfl rfl (by kernel_rfl) (by decide) (fun K hK => ?_)
 refine goes_ Try.func46 (by kernel_rfl) rfl #[.int .u8 o, .slice (some ⟨w.heap.size, 0, none⟩) 2 2] (by rfl) rfl rfl (by simp only [List.map_toArray, List.map_cons, List.map_nil]; rfl) ?_
 with_reducible refine (do2 o (s j) x ho _ _ (by go_simp) (by go_simp)).mono ?_
 rintro e w3 ⟨rfl, hb⟩
 refine ⟨_, rfl, ?_⟩
 have hB2 : Below w.heap.size w w3 := below_step (by repeat (first | exact Below.refl _ _ | apply below_drew1 | apply below_alloc)) hb
 refine hK.out _ _ ⟨(hB2.cell l1).trans h1, (hB2.cell l2).trans h2, (hB2.cell lg).trans e0, (hB2.cell lg).trans es⟩ (fun hHeld => ?_)
 clear hK K
 refine norm_ (a' := ?_) ?_ ?_
 rotate_left
 ·show Act.put _ (some 16) _ = _
  simp only [Act.put, List.setIfInBounds_toArray, List.set_cons_zero, List.set_cons_succ, i64_w, i32_w]
  rfl
 refine pure_ (i := 12) (N := some 4) (v := ?_) (a' := ?_) #[true,true,true,true,true,true,true,true,true,true,true,true,true,false,false,false,false,false] rfl rfl (by kernel_rfl) (fun _ _ _ h => h) (Or.inl ⟨by rfl, ?_⟩) ?_ ?_
 rotate_left
 ·intro w'
  go_simp
  with_reducible rfl
 rotate_left
 ·simp only [Act.put, List.setIfInBounds_toArray, List.set_cons_zero, List.set_cons_succ, i64_w, i32_w]
  rfl
 refine pure_ (i := 13) (N := some 17) (v := ?_) (a' := ?_) #[true,true,true,true,true,true,true,true,true,true,true,true,true,true,false,false,false,false] rfl rfl (by kernel_rfl) (fun _ _ _ h => h) (Or.inl ⟨by rfl, ?_⟩) ?_ ?_
 rotate_left
 ·intro w'
  go_simp
  with_reducible rfl
 rotate_left
 ·simp only [Act.put, List.setIfInBounds_toArray, List.set_cons_zero, List.set_cons_succ, i64_w, i32_w]
  rfl
 refine pure_ (i := 14) (N := some 18) (v := ?_) (a' := ?_) #[true,true,true,true,true,true,true,true,true,true,true,true,true,true,true,false,false,false] rfl rfl (by kernel_rfl) (fun _ _ _ h => h) (Or.inl ⟨by rfl, ?_⟩) ?_ ?_
 rotate_left
 ·intro w'
  go_simp
  with_reducible rfl
 rotate_left
 ·simp only [Act.put, List.setIfInBounds_toArray, List.set_cons_zero, List.set_cons_succ, i64_w, i32_w]
  rfl
 refine pure_ (i := 15) (N := some 19) (v := ?_) (a' := ?_) #[true,true,true,true,true,true,true,true,true,true,true,true,true,true,true,true,false,false] rfl rfl (by kernel_rfl) (fun _ _ _ h => h) (Or.inl ⟨by rfl, ?_⟩) ?_ ?_
 rotate_left
 ·intro w'
  go_simp
  with_reducible rfl
 rotate_left
 ·simp only [Act.put, List.setIfInBounds_toArray, List.set_cons_zero, List.set_cons_succ, i64_w, i32_w]
  rfl
 refine pure_ (i := 16) (N := some 20) (v := ?_) (a' := ?_) #[true,true,true,true,true,true,true,true,true,true,true,true,true,true,true,true,true,false] rfl rfl (by kernel_rfl) (fun _ _ _ h => h) (Or.inl ⟨by rfl, ?_⟩) ?_ ?_
 rotate_left
 ·intro w'
  go_simp
  with_reducible rfl
 rotate_left
 ·simp only [Act.put, List.setIfInBounds_toArray, List.set_cons_zero, List.set_cons_succ, i64_w, i32_w]
  rfl
 refine last_ (i := 17) (N := none) #[true,true,true,true,true,true,true,true,true,true,true,true,true,true,true,true,true,true] rfl rfl (by kernel_rfl) (by decide) (fun K hK => ?_)
 have f3 : w3.frozen? ⟨g, 2 + j * 2, none⟩ = false := (hB2.frozen lg).trans (HI.out.free _)
 refine skip_ (w1 := ?_) (by rfl) rfl ?_ ?_
 rotate_left
 ·go_simp
  rfl
 refine hK.out _ _ ?_
 clear hK K
 refine done_ (by kernel_rfl) ?_
 have ec3 : w3.cell? ⟨g, 2 + j * 2 + 1, none⟩ = some (.int .i64 (c j)) := (hB2.cell lg).trans ec
 have f4 : w3.frozen? ⟨g, 2 + j * 2 + 1, none⟩ = false := (hB2.frozen lg).trans (HI.out.free _)
 have f3 : w3.frozen? ⟨g, 2 + j * 2, none⟩ = false := (hB2.frozen lg).trans (HI.out.free _)
 have HB2 := Lib.hid hB2
 clear hb hB2
 go_wp2
 go_end0
 exact ⟨rfl, (HI.out.below HB2.out).two hj, grown_two HB2.out⟩
set_option maxRecDepth 100000 in
set_option maxHeartbeats 2000000 in
theorem with_take (g b1 b2 : Nat) (o f n x worker : Int) (s c : Nat → Int) (w : World) (h : IsA w g o f n s c) (ho : takes o) (h0 : 0 ≤ worker) (hn : worker < n) (hn4 : n ≤ 4) (h1 : w.cell? ⟨b1, 0, none⟩ = some (.pointer (some ⟨g, 0, none⟩))) (h2 : w.cell? ⟨b2, 0, none⟩ = some (.int .i64 x)) (hc : -1000000 ≤ c worker.toNat ∧ c worker.toNat ≤ 1000000) :
  Calls Try.prog 53 #[.pointer (some ⟨g, 0, none⟩), .int .i64 worker, .func (.func 54) #[] #[.pointer (some ⟨b1, 0, none⟩), .pointer (some ⟨b2, 0, none⟩)]] w fun e w' => e = .returned (.int .i64 0) ∧ IsA w' g o f n (upd s worker.toNat (red o (s worker.toNat) x)) (upd c worker.toNat (c worker.toNat + 1)) ∧ w.grownBy w' (some g) := by
 obtain ⟨j, rfl⟩ := Int.eq_ofNat_of_zero_le h0
 rw [Int.toNat_natCast] at *
 have en : w.cell? ⟨g, 10, none⟩ = some (.int .i64 n) := h.at 10
 have hj : j < 4 := by omega
 have hd : decide (n ≤ (j : Int)) = false := decide_eq_false (by omega)
 have hd0 : decide ((j : Int) < 0) = false := decide_eq_false (by omega)
 have HI := Lib.hid h; clear h
 go_enter Try.func53, Try.ntmps53
 go_wp2_with fail
 refine (take1 g b1 b2 j o f n x s c _ HI.out ho hj h1 h2 hc).mono ?_
 rintro e w' ⟨rfl, hi, hg⟩
 have H1 := Lib.hid hi
 have H2 := Lib.hid hg
 clear hi hg
 go_wp2
 go_ret
 exact ⟨rfl, H1.out, H2.out⟩
theorem take_ok (g : Nat) (o f n x worker : Int) (s c : Nat → Int) (w : World) (h : IsA w g o f n s c) (ho : takes o) (h0 : 0 ≤ worker) (hn : worker < n) (hn4 : n ≤ 4) (hc : -1000000 ≤ c worker.toNat ∧ c worker.toNat ≤ 1000000) :
  Calls Try.prog 26 #[.pointer (some ⟨g, 0, none⟩), .int .i64 worker, .int .i64 x] w fun e w' => e = .returned (.int .i64 0) ∧ IsA w' g o f n (upd s worker.toNat (red o (s worker.toNat) x)) (upd c worker.toNat (c worker.toNat + 1)) ∧ w.grownBy w' (some g) := by
 have HI := Lib.hid h
 have HC := Lib.hid hc
 clear h hc
 go_enter Try.func26, Try.ntmps26
 go_wp2_with fail
 refine (with_take g _ _ o f n x worker s c _ (HI.out.below (by repeat (first | apply below_alloc | exact Below.refl _ _))) ho h0 hn hn4 (by go_simp) (by go_simp) HC.out).mono ?_
 rintro e w' ⟨rfl, hi, hg⟩
 have H1 := Lib.hid hi
 have H2 : w.grownBy w' (some g) := grown_trans (by repeat (first | apply below_alloc | exact Below.refl _ _)) hg
 have H2' := Lib.hid H2
 clear hi hg H2
 go_wp2
 go_ret
 exact ⟨rfl, H1.out, H2'.out⟩
set_option maxRecDepth 100000 in
set_option maxHeartbeats 2000000 in
/-- Clear: each part begins anew. -/
theorem clear_ok (g : Nat) (o f n : Int) (s c : Nat → Int) (w : World) (h : IsA w g o f n s c) : Calls Try.prog 52 #[.pointer (some ⟨g, 0, none⟩)] w fun e w' => e = .returned (.tuple #[]) ∧ IsA w' g o f n (fun _ => f) (fun _ => 0) ∧ w.grownBy w' (some g) := by
 have HI := Lib.hid h
 clear h
 go_enter Try.func52, Try.ntmps52
 go_wp2_with fail
 go_loopw [2, 5] (fun _ v5 wr => ∃ i : Nat, i ≤ 4 ∧ v5 = .int .i64 i ∧ IsA wr g o f n (fun k => if k < i then f else s k) (fun k => if k < i then 0 else c k) ∧ w.grownBy wr (some g)) (fun _ v5 _ => 4 - (intOf v5).toNat)
 case atStart => exact ⟨0, by decide, rfl, by simpa using HI.out, grown_below (Below.refl _ _)⟩
 case round =>
  obtain ⟨i, hi, rfl, ha, hg⟩ := hrel
  by_cases hlt : i < 4
  ·have e1 : wr.cell? ⟨g, 1, none⟩ = some (.int .i64 f) := ha.at 1
   have hlt' : (i : Int) < 4 := by omega
   have e2 : wr.cell? ⟨g, 2 + i * 2, none⟩ = some (.int .i64 (if i < i then f else s i)) := (ha.at _).trans (ag_s hlt)
   have e3 : wr.cell? ⟨g, 2 + i * 2 + 1, none⟩ = some (.int .i64 (if i < i then 0 else c i)) := (ha.at _).trans (ag_c hlt)
   have f2 : wr.frozen? ⟨g, 2 + i * 2, none⟩ = false := ha.free _
   have f3 : wr.frozen? ⟨g, 2 + i * 2 + 1, none⟩ = false := ha.free _
   have HA := Lib.hid ha
   have HG := Lib.hid hg
   clear ha hg
   go_wp2_with fail
   refine start_ (n := 11) (S := fun w' => w'.cell? ⟨g, 1, none⟩ = some (.int .i64 f)) (ds := [10]) #[false,false,false,false,false,false,false,false,false,false,false] (by kernel_rfl) rfl rfl (e1) (fun hHeld => ?_)
   refine pure_ (i := 0) (N := some 8) (v := ?_) (a' := ?_) #[true,false,false,false,false,false,false,false,false,false,false] rfl rfl (by kernel_rfl) (fun _ _ _ h => h) (Or.inl ⟨by rfl, ?_⟩) ?_ ?_
   rotate_left
   ·intro w'
    go_simp
    with_reducible rfl
   rotate_left
   ·simp only [Act.put, List.setIfInBounds_toArray, List.set_cons_zero, List.set_cons_succ, i64_w, i32_w]
    rfl
   refine pure_ (i := 1) (N := some 9) (v := ?_) (a' := ?_) #[true,true,false,false,false,false,false,false,false,false,false] rfl rfl (by kernel_rfl) (fun _ _ _ h => h) (Or.inl ⟨by rfl, ?_⟩) ?_ ?_
   rotate_left
   ·intro w'
    go_simp
    with_reducible rfl
   rotate_left
   ·simp only [Act.put, List.setIfInBounds_toArray, List.set_cons_zero, List.set_cons_succ, i64_w, i32_w]
    rfl
   refine pure_ (i := 2) (N := some 10) (v := ?_) (a' := ?_) #[true,true,true,false,false,false,false,false,false,false,false] rfl rfl (by kernel_rfl) (fun _ _ _ h => h) (Or.inl ⟨by rfl, ?_⟩) ?_ ?_
   rotate_left
   ·intro w'
    go_simp
    with_reducible rfl
   rotate_left
   ·simp only [Act.put, List.setIfInBounds_toArray, List.set_cons_zero, List.set_cons_succ, i64_w, i32_w]
    rfl
   refine pure_ (i := 3) (N := some 11) (v := ?_) (a' := ?_) #[true,true,true,true,false,false,false,false,false,false,false] rfl rfl (by kernel_rfl) (fun _ _ _ h => h) (Or.inl ⟨by rfl, ?_⟩) ?_ ?_
   rotate_left
   ·intro w'
    go_simp
    with_reducible rfl
   rotate_left
   ·simp only [Act.put, List.setIfInBounds_toArray, List.set_cons_zero, List.set_cons_succ, i64_w, i32_w]
    rfl
   refine pure_ (i := 4) (N := some 12) (v := ?_) (a' := ?_) #[true,true,true,true,true,false,false,false,false,false,false] rfl rfl (by kernel_rfl) (fun _ _ _ h => h) (Or.inl ⟨by rfl, ?_⟩) ?_ ?_
   rotate_left
   ·intro w'
    go_simp
    with_reducible rfl
   rotate_left
   ·simp only [Act.put, List.setIfInBounds_toArray, List.set_cons_zero, List.set_cons_succ, i64_w, i32_w]
    rfl
   refine pure_ (i := 7) (N := some 15) (v := ?_) (a' := ?_) #[true,true,true,true,true,false,false,true,false,false,false] rfl rfl (by kernel_rfl) (fun _ _ _ h => h) (Or.inl ⟨by rfl, ?_⟩) ?_ ?_
   rotate_left
   ·intro w'
    go_simp
    with_reducible rfl
   rotate_left
   ·simp only [Act.put, List.setIfInBounds_toArray, List.set_cons_zero, List.set_cons_succ, i64_w, i32_w]
    rfl
   refine pure_ (i := 8) (N := some 16) (v := ?_) (a' := ?_) #[true,true,true,true,true,false,false,true,true,false,false] rfl rfl (by kernel_rfl) (fun _ _ _ h => h) (Or.inl ⟨by rfl, ?_⟩) ?_ ?_
   rotate_left
   ·intro w'
    go_simp
    with_reducible rfl
   rotate_left
   ·simp only [Act.put, List.setIfInBounds_toArray, List.set_cons_zero, List.set_cons_succ, i64_w, i32_w]
    rfl
   refine take_ (i := 5) (N := some 13) (v := ?_) (a' := ?_) #[true,true,true,true,true,true,false,true,true,false,false] rfl rfl (by kernel_rfl) (fun _ _ _ h => h) (Or.inl ⟨by rfl, ?_⟩) hHeld ?_ ?_
   rotate_left
   ·intro w' s0
    go_simp
    with_reducible rfl
   rotate_left
   ·simp only [Act.put, List.setIfInBounds_toArray, List.set_cons_zero, List.set_cons_succ, i64_w, i32_w]
    rfl
   refine pure_ (i := 6) (N := some 14) (v := ?_) (a' := ?_) #[true,true,true,true,true,true,true,true,true,false,false] rfl rfl (by kernel_rfl) (fun _ _ _ h => h) (Or.inl ⟨by rfl, ?_⟩) ?_ ?_
   rotate_left
   ·intro w'
    go_simp
    with_reducible rfl
   rotate_left
   ·simp only [Act.put, List.setIfInBounds_toArray, List.set_cons_zero, List.set_cons_succ, i64_w, i32_w]
    rfl
   refine pure_ (i := 9) (N := some 17) (v := ?_) (a' := ?_) #[true,true,true,true,true,true,true,true,true,true,false] rfl rfl (by kernel_rfl) (fun _ _ _ h => h) (Or.inl ⟨by rfl, ?_⟩) ?_ ?_
   rotate_left
   ·intro w'
    go_simp
    with_reducible rfl
   rotate_left
   ·simp only [Act.put, List.setIfInBounds_toArray, List.set_cons_zero, List.set_cons_succ, i64_w, i32_w]
    rfl
   refine last_ (i := 10) (N := none) #[true,true,true,true,true,true,true,true,true,true,true] rfl rfl (by kernel_rfl) (by decide) (fun K hK => ?_)
   refine skip_ (w1 := ?_) (by rfl) rfl ?_ ?_
   rotate_left
   ·go_simp
    rfl
   refine hK.out _ _ ?_
   clear hK K
   refine done_ (by kernel_rfl) ?_
   go_wp2
   go_roundw
   case rel =>
    refine ⟨i + 1, by omega, by go_num, ?_, ?_⟩
    ·have h1 := HA.out.two (v := f) (u := 0) hlt
     refine IsA.same (s := upd (fun k => if k < i then f else s k) i f) (c := upd (fun k => if k < i then 0 else c k) i 0) h1 (fun j _ => ?_) (fun j _ => ?_)
     ·simp only [upd]; (repeat' split) <;> first | rfl | omega
     ·simp only [upd]; (repeat' split) <;> first | rfl | omega
    ·exact grown_drew (grown_set (grown_set HG.out))
   case measure => simp [intOf]; omega
  ·obtain rfl : i = 4 := by omega
   have HA := Lib.hid ha
   have HG := Lib.hid hg
   clear ha hg
   go_wp2
   go_end0
   exact ⟨rfl, (HA.out).clear4, HG.out⟩
theorem new_ok (o n f : Int) (w : World) (h : num_Reduces.f 3 o = some (f, true)) (h1 : 1 ≤ n) (h4 : n ≤ 4) : Calls Try.prog 25 #[.int .u8 o, .int .i64 n] w fun e w' => e = .returned (.pointer (some ⟨w.heap.size, 0, none⟩)) ∧ IsA w' w.heap.size o f n (fun _ => f) (fun _ => 0) ∧ Below w.heap.size w w' := by
 have b1 : decide (n < 1) = false := decide_eq_false (by omega)
 have b2 : decide (4 < n) = false := decide_eq_false (by omega)
 have H := Lib.hid h
 clear h
 go_enter Try.func25, Try.ntmps25
 go_wp2_with fail
 refine (num_Reduces.calls 3 o f true _ H.out).mono ?_
 rintro e w' ⟨rfl, ⟨m, rfl⟩⟩
 go_wp2_with fail
 refine (clear_ok w.heap.size o f n (fun _ => 0) (fun _ => 0) _ (IsA.new (w.drewN m) o f n _ _)).mono ?_
 rintro e w' ⟨rfl, hi, hg⟩
 have HI := Lib.hid hi
 have HG := Lib.hid hg
 clear hi hg
 go_wp2
 go_ret
 refine ⟨rfl, HI.out, ?_⟩
 have q := HG.out
 exact ⟨q.os, q.tape, q.output, Nat.le_trans (by simp) q.size, fun k hk => (q.block k (by simp; omega) (by intro e; injection e with e; omega)).trans (Below.heap_alloc _ _ _ hk)⟩
def all (o f : Int) (s : Nat → Int) (p : List Int) : Int := p.foldl (fun a i => red o a (s i.toNat)) f
set_option maxRecDepth 100000 in
set_option maxHeartbeats 4000000 in
theorem whole_ok (g n k : Nat) (o f : Int) (s c : Nat → Int) (w : World) (h : IsA w g o f n s c) (ho : takes o) (hn1 : 1 ≤ n) (hn : n ≤ 4) (hk : (k : Int) ≤ 18446744073709551615) :
  Calls Try.prog 27 #[.pointer (some ⟨g, 0, none⟩), .int .u64 k] w fun e w' => e = .returned (.tuple #[.int .i64 (all o f s (ord n k)), .int .i64 0]) ∧ Below w.heap.size w w' := by
 have e1 : w.cell? ⟨g, 1, none⟩ = some (.int .i64 f) := h.at 1
 have e10 : w.cell? ⟨g, 10, none⟩ = some (.int .i64 n) := h.at 10
 have HI := Lib.hid h
 have lg := h.lt
 have hn' : (n : Int) ≤ 4 := by omega
 clear h
 go_enter Try.func27, Try.ntmps27
 go_wp2_with fail
 refine (from_yes n k _ (by omega) hk).mono ?_
 rintro e w1 ⟨v, rfl, ho1, hb1⟩
 have hlen : (ord n k).length = n := by rw [(ord_perm n k).length_eq]; simp [upto]
 obtain ⟨gp, cap, rfl, hgp, hgl, _, _, _, hH⟩ := Lib.holds_of_ownsRow (enc := I) ho1 (by
  rintro rfl
  rcases ho1.2 with ⟨_, q⟩ | ⟨_, _, _, q, _⟩
  ·omega
  ·cases q)
 obtain ⟨p, hp⟩ : ∃ p, p = ord n k := ⟨_, rfl⟩
 have hpr : ∀ x ∈ p, 0 ≤ x ∧ x < (n : Int) := fun x hx => by
  rw [hp] at hx
  exact upto_mem.1 ((ord_perm n k).mem_iff.1 hx)
 rw [← hp] at hlen hH
 have hlp : (ord n k).length = p.length := by rw [hp]
 rw [hlp]
 have HP := Lib.hid hp
 have HR := Lib.hid hpr
 have HH := Lib.hid hH
 have HL := Lib.hid hlen
 have HB1 := Lib.hid hb1
 clear hp hpr hH ho1 hlp hlen hb1
 have hpl : p.length ≤ 4 := by have := HL.out; omega
 go_wp2_with fail
 go_loopw [6, 10, 28, 32] (fun v6 _ v28 _ wr => ∃ i : Nat, i ≤ p.length ∧ v28 = .int .i64 i ∧ v6 = .int .i64 (all o f s (p.take i)) ∧ Below w1.heap.size w1 wr) (fun _ _ v28 _ _ => p.length - (intOf v28).toNat)
 case atStart => exact ⟨0, Nat.zero_le _, rfl, rfl, Below.refl _ _⟩
 case round =>
  obtain ⟨i, hi, rfl, rfl, hb⟩ := hrel
  by_cases hlt : i < p.length
  ·have hx := HR.out p[i] (List.getElem_mem hlt)
   obtain ⟨j, hj⟩ : ∃ j : Nat, p[i] = (j : Int) := ⟨p[i].toNat, by omega⟩
   have hc1 := (HH.out i (by simpa using hlt)).1
   have hx4 : j < 4 := by omega
   have hjn : (j : Int) < n := by omega
   have hx4i : (j : Int) < 4 := by omega
   have ej : (p.toArray)[i]! = (j : Int) := by simp [getElem!_pos, hlt, hj]
   rw [ej, Nat.zero_add] at hc1
   have hc2 : wr.cell? ⟨gp, i, none⟩ = some (.int .i64 (j : Int)) := (hb.cell hgl).trans hc1
   have lg1 : g < w1.heap.size := Nat.lt_of_lt_of_le lg HB1.out.size
   have hI1 := (HI.out.below HB1.out).below hb
   have q0 : wr.cell? ⟨g, 0, none⟩ = some (.int .u8 o) := hI1.at 0
   have qs : wr.cell? ⟨g, 2 + j * 2, none⟩ = some (.int .i64 (s j)) := (hI1.at _).trans (ag_s hx4)
   have lgr := hI1.lt
   have hi4 : i < 4 := by omega
   obtain ⟨acc, hacc⟩ : ∃ a, a = all o f s (p.take i) := ⟨_, rfl⟩
   rw [← hacc]
   have HA := Lib.hid hacc
   have HJ := Lib.hid hj
   have HB := Lib.hid hb
   clear hacc hj hb hc1 hI1 ej hx
   go_wp2_with fail
   refine start_ (n := 18) (S := fun w' => w'.cell? ⟨g, 0, none⟩ = some (.int .u8 o) ∧ w'.cell? ⟨g, 2 + j * 2, none⟩ = some (.int .i64 (s j))) (ds := []) #[false,false,false,false,false,false,false,false,false,false,false,false,false,false,false,false,false,false] (by kernel_rfl) rfl rfl ⟨q0, qs⟩ (fun hHeld => ?_)
   refine pure_ (i := 0) (N := some 33) (v := ?_) (a' := ?_) #[true,false,false,false,false,false,false,false,false,false,false,false,false,false,false,false,false,false] rfl rfl (by kernel_rfl) (fun _ _ _ h => h) (Or.inl ⟨by rfl, ?_⟩) ?_ ?_
   rotate_left
   ·intro w'
    go_simp
    with_reducible rfl
   rotate_left
   ·simp only [Act.put, List.setIfInBounds_toArray, List.set_cons_zero, List.set_cons_succ, i64_w, i32_w]
    rfl
   refine pure_ (i := 1) (N := some 34) (v := ?_) (a' := ?_) #[true,true,false,false,false,false,false,false,false,false,false,false,false,false,false,false,false,false] rfl rfl (by kernel_rfl) (fun _ _ _ h => h) (Or.inl ⟨by rfl, ?_⟩) ?_ ?_
   rotate_left
   ·intro w'
    go_simp
    with_reducible rfl
   rotate_left
   ·simp only [Act.put, List.setIfInBounds_toArray, List.set_cons_zero, List.set_cons_succ, i64_w, i32_w]
    rfl
   refine pure_ (i := 2) (N := some 35) (v := ?_) (a' := ?_) #[true,true,true,false,false,false,false,false,false,false,false,false,false,false,false,false,false,false] rfl rfl (by kernel_rfl) (fun _ _ _ h => h) (Or.inl ⟨by rfl, ?_⟩) ?_ ?_
   rotate_left
   ·intro w'
    go_simp
    with_reducible rfl
   rotate_left
   ·simp only [Act.put, List.setIfInBounds_toArray, List.set_cons_zero, List.set_cons_succ, i64_w, i32_w]
    rfl
   refine pure_ (i := 4) (N := some 37) (v := ?_) (a' := ?_) #[true,true,true,false,true,false,false,false,false,false,false,false,false,false,false,false,false,false] rfl rfl (by kernel_rfl) (fun _ _ _ h => h) (Or.inl ⟨by rfl, ?_⟩) ?_ ?_
   rotate_left
   ·intro w'
    go_simp
    with_reducible rfl
   rotate_left
   ·simp only [Act.put, List.setIfInBounds_toArray, List.set_cons_zero, List.set_cons_succ, i64_w, i32_w]
    rfl
   refine pure_ (i := 5) (N := some 38) (v := ?_) (a' := ?_) #[true,true,true,false,true,true,false,false,false,false,false,false,false,false,false,false,false,false] rfl rfl (by kernel_rfl) (fun _ _ _ h => h) (Or.inl ⟨by rfl, ?_⟩) ?_ ?_
   rotate_left
   ·intro w'
    go_simp
    with_reducible rfl
   rotate_left
   ·simp only [Act.put, List.setIfInBounds_toArray, List.set_cons_zero, List.set_cons_succ, i64_w, i32_w]
    rfl
   refine pure_ (i := 6) (N := some 39) (v := ?_) (a' := ?_) #[true,true,true,false,true,true,true,false,false,false,false,false,false,false,false,false,false,false] rfl rfl (by kernel_rfl) (fun _ _ _ h => h) (Or.inl ⟨by rfl, ?_⟩) ?_ ?_
   rotate_left
   ·intro w'
    go_simp
    with_reducible rfl
   rotate_left
   ·simp only [Act.put, List.setIfInBounds_toArray, List.set_cons_zero, List.set_cons_succ, i64_w, i32_w]
    rfl
   refine pure_ (i := 7) (N := some 40) (v := ?_) (a' := ?_) #[true,true,true,false,true,true,true,true,false,false,false,false,false,false,false,false,false,false] rfl rfl (by kernel_rfl) (fun _ _ _ h => h) (Or.inl ⟨by rfl, ?_⟩) ?_ ?_
   rotate_left
   ·intro w'
    go_simp
    with_reducible rfl
   rotate_left
   ·simp only [Act.put, List.setIfInBounds_toArray, List.set_cons_zero, List.set_cons_succ, i64_w, i32_w]
    rfl
   refine pure_ (i := 8) (N := some 41) (v := ?_) (a' := ?_) #[true,true,true,false,true,true,true,true,true,false,false,false,false,false,false,false,false,false] rfl rfl (by kernel_rfl) (fun _ _ _ h => h) (Or.inl ⟨by rfl, ?_⟩) ?_ ?_
   rotate_left
   ·intro w'
    go_simp
    with_reducible rfl
   rotate_left
   ·simp only [Act.put, List.setIfInBounds_toArray, List.set_cons_zero, List.set_cons_succ, i64_w, i32_w]
    rfl
   refine pure_ (i := 9) (N := some 42) (v := ?_) (a' := ?_) #[true,true,true,false,true,true,true,true,true,true,false,false,false,false,false,false,false,false] rfl rfl (by kernel_rfl) (fun _ _ _ h => h) (Or.inl ⟨by rfl, ?_⟩) ?_ ?_
   rotate_left
   ·intro w'
    go_simp
    with_reducible rfl
   rotate_left
   ·simp only [Act.put, List.setIfInBounds_toArray, List.set_cons_zero, List.set_cons_succ, i64_w, i32_w]
    rfl
   refine pure_ (i := 10) (N := some 43) (v := ?_) (a' := ?_) #[true,true,true,false,true,true,true,true,true,true,true,false,false,false,false,false,false,false] rfl rfl (by kernel_rfl) (fun _ _ _ h => h) (Or.inl ⟨by rfl, ?_⟩) ?_ ?_
   rotate_left
   ·intro w'
    go_simp
    with_reducible rfl
   rotate_left
   ·simp only [Act.put, List.setIfInBounds_toArray, List.set_cons_zero, List.set_cons_succ, i64_w, i32_w]
    rfl
   refine take_ (i := 3) (N := some 36) (v := ?_) (a' := ?_) #[true,true,true,true,true,true,true,true,true,true,true,false,false,false,false,false,false,false] rfl rfl (by kernel_rfl) (fun _ _ _ h => h) (Or.inl ⟨by rfl, ?_⟩) hHeld ?_ ?_
   rotate_left
   ·rintro w' ⟨s0, s1⟩
    go_simp
    with_reducible rfl
   rotate_left
   ·simp only [Act.put, List.setIfInBounds_toArray, List.set_cons_zero, List.set_cons_succ, i64_w, i32_w]
    rfl
   refine take_ (i := 11) (N := some 44) (v := ?_) (a' := ?_) #[true,true,true,true,true,true,true,true,true,true,true,true,false,false,false,false,false,false] rfl rfl (by kernel_rfl) (fun _ _ _ h => h) (Or.inl ⟨by rfl, ?_⟩) hHeld ?_ ?_
   rotate_left
   ·rintro w' ⟨s0, s1⟩
    go_simp
    with_reducible rfl
   rotate_left
   ·simp only [Act.put, List.setIfInBounds_toArray, List.set_cons_zero, List.set_cons_succ, i64_w, i32_w]
    rfl
   refine one_ (i := 12) (N := some 45) #[true,true,true,true,true,true,true,true,true,true,true,true,true,false,false,false,false,false] rfl rfl (by kernel_rfl) (by decide) (fun K hK => ?_)
   refine value_ (w1 := ?_) (v := ?_) (by rfl) rfl ?_ ?_
   rotate_left 2
   ·go_simp
    constructor
    ·rfl
    ·rfl
   refine hK.out _ _ ⟨(by go_simp), (by go_simp)⟩ (fun hHeld => ?_)
   clear hK K
   refine norm_ (a' := ?_) ?_ ?_
   rotate_left
   ·show Act.put _ (some 45) _ = _
    simp only [Act.put, List.setIfInBounds_toArray, List.set_cons_zero, List.set_cons_succ, i64_w, i32_w]
    rfl
   refine one_ (i := 13) (N := some 46) #[true,true,true,true,true,true,true,true,true,true,true,true,true,true,false,false,false,false] rfl rfl (by kernel_rfl) (by decide) (fun K hK => ?_)
   refine goes_ Try.func46 (by kernel_rfl) rfl #[.int .u8 o, .slice (some ⟨wr.heap.size, 0, none⟩) 2 2] (by rfl) rfl rfl (by simp only [List.map_toArray, List.map_cons, List.map_nil]; rfl) ?_
   with_reducible refine (do2 o acc (s j) ho _ _ (by go_simp) (by go_simp)).mono ?_
   rintro e w3 ⟨rfl, hb⟩
   refine ⟨_, rfl, ?_⟩
   have hB2 : Below wr.heap.size wr w3 := below_step (by repeat (first | exact Below.refl _ _ | apply below_drew1 | apply below_alloc)) hb
   refine hK.out _ _ ⟨(hB2.cell lgr).trans q0, (hB2.cell lgr).trans qs⟩ (fun hHeld => ?_)
   clear hK K
   refine norm_ (a' := ?_) ?_ ?_
   rotate_left
   ·show Act.put _ (some 46) _ = _
    simp only [Act.put, List.setIfInBounds_toArray, List.set_cons_zero, List.set_cons_succ, i64_w, i32_w]
    rfl
   refine pure_ (i := 14) (N := some 32) (v := ?_) (a' := ?_) #[true,true,true,true,true,true,true,true,true,true,true,true,true,true,true,false,false,false] rfl rfl (by kernel_rfl) (fun _ _ _ h => h) (Or.inl ⟨by rfl, ?_⟩) ?_ ?_
   rotate_left
   ·intro w'
    go_simp
    with_reducible rfl
   rotate_left
   ·simp only [Act.put, List.setIfInBounds_toArray, List.set_cons_zero, List.set_cons_succ, i64_w, i32_w]
    rfl
   refine pure_ (i := 15) (N := some 47) (v := ?_) (a' := ?_) #[true,true,true,true,true,true,true,true,true,true,true,true,true,true,true,true,false,false] rfl rfl (by kernel_rfl) (fun _ _ _ h => h) (Or.inl ⟨by rfl, ?_⟩) ?_ ?_
   rotate_left
   ·intro w'
    go_simp
    with_reducible rfl
   rotate_left
   ·simp only [Act.put, List.setIfInBounds_toArray, List.set_cons_zero, List.set_cons_succ, i64_w, i32_w]
    rfl
   refine pure_ (i := 16) (N := some 48) (v := ?_) (a' := ?_) #[true,true,true,true,true,true,true,true,true,true,true,true,true,true,true,true,true,false] rfl rfl (by kernel_rfl) (fun _ _ _ h => h) (Or.inl ⟨by rfl, ?_⟩) ?_ ?_
   rotate_left
   ·intro w'
    go_simp
    with_reducible rfl
   rotate_left
   ·simp only [Act.put, List.setIfInBounds_toArray, List.set_cons_zero, List.set_cons_succ, i64_w, i32_w]
    rfl
   refine pure_ (i := 17) (N := some 6) (v := ?_) (a' := ?_) #[true,true,true,true,true,true,true,true,true,true,true,true,true,true,true,true,true,true] rfl rfl (by kernel_rfl) (fun _ _ _ h => h) (Or.inl ⟨by rfl, ?_⟩) ?_ ?_
   rotate_left
   ·intro w'
    go_simp
    with_reducible rfl
   rotate_left
   ·simp only [Act.put, List.setIfInBounds_toArray, List.set_cons_zero, List.set_cons_succ, i64_w, i32_w]
    rfl
   refine done_ (by kernel_rfl) ?_
   have HB2 := Lib.hid hB2
   clear hB2 hb
   go_wp2
   go_roundw
   case rel =>
    refine ⟨i + 1, by omega, by go_num, ?_, below_step HB.out HB2.out⟩
    rw [List.take_succ_eq_append_getElem hlt, all, List.foldl_append, List.foldl_cons, List.foldl_nil, HJ.out, Int.toNat_natCast]
    have := HA.out
    rw [all] at this
    rw [← this]
   case measure => simp [intOf]; omega
  ·have hie : i = p.length := by omega
   have HE := Lib.hid hie
   have HB := Lib.hid hb
   clear hb hie
   go_wp2
   go_ret2
   refine ⟨?_, below_step HB1.out HB.out⟩
   rw [HE.out, List.take_length, HP.out]
   rfl
end Go.Proofs.Ythmenclkgngkkaa.Agg
