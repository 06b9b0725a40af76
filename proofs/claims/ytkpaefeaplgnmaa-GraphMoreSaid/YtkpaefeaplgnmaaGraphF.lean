/- The walks of graph: new, and what it tells. -/
import Derived.Test.YtkpaefeaplgnmaaGraphE
set_option linter.unusedSimpArgs false
set_option linter.unusedVariables false
namespace Go.Proofs.Ytkpaefeaplgnmaa.G
open Go.RowKit Go.Proofs.Ytkpaefeaplgnmaa.PA Go.Proofs.Ytkpaefeaplgnmaa.Mp Go.Proofs.YtkpaefeaplgnmaaW.PrintWords Go.Proofs.YtkpaefeaplgnmaaW.PrintLast Go.Proofs.YtkpaefeaplgnmaaW.PrintMore

theorem IsG.below {w w' : World} {g n : Nat} {l : List S53} (h : IsG w g n l) (hb : Below w.heap.size w w') : IsG w' g n l := by
 obtain ⟨base, gO, gI, b, A, c, val, K, h1, h2, h3⟩ := h
 exact ⟨base, gO, gI, b, A, c, val, K, h1.below hb, Kd.C_below h2 hb, h3⟩
/-- Is there a graph? -/
def okG (n : Int) (l : List S53) : Bool := (chk n l).2 == 0
theorem ok_fits {n : Int} {l : List S53} (h : okG n l = true) : ∃ m : Nat, n = (m : Int) ∧ Fits m l ∧ chk n l = (0, 0) := by
 unfold okG chk at h
 split at h
 ·simp at h
 ·rename_i hn
  split at h
  ·simp at h
  ·rename_i hb
   obtain ⟨m, rfl⟩ := Int.eq_ofNat_of_zero_le (show 0 ≤ n by omega)
   refine ⟨m, rfl, ⟨by omega, by omega, by omega, fun e he => ?_⟩, by rw [chk, if_neg hn, if_neg hb]⟩
   obtain ⟨i, hi, rfl⟩ := List.getElem_of_mem he
   have : (!fit (m : Int) l[i]) = false := List.not_of_lt_findIdx (p := fun e => !fit (m : Int) e) (xs := l) (i := i) (by unfold bad at hb; omega)
   simp [fit] at this
   exact ⟨this.1.1.1, this.1.1.2, this.1.2, this.2⟩
theorem ok_err {n : Int} {l : List S53} (h : okG n l = false) : (chk n l).2 = 11 := by
 unfold okG chk at h
 unfold chk
 split at h
 ·rename_i hn; rw [if_pos hn]
 ·rename_i hn
  rw [if_neg hn]
  split at h
  ·rename_i hb; rw [if_pos hb]
  ·simp at h

theorem C_of_R {α : Type} {d : Kd α} {e : Nat} {w : World} {base : Nat} {ok : Nat → Prop} {v : Value} {l : List α} (h : Kd.R d e w base ok v l) : ∃ A c, v = .slice A l.length c ∧ l.length ≤ c ∧ Kd.C d w A l.length l := by
 obtain ⟨A', c', he, hl, hr⟩ := Kd.R_reads h
 exact ⟨A', c', he, hl, hr⟩

set_option maxHeartbeats 2000000 in
theorem new_no (n : Int) (A : Option Addr) (c : Nat) (l : List S53) (w : World) (hr : Kd.C k53 w A l.length l) (hl : (l.length : Int) ≤ 9223372036854775807) (h : okG n l = false) :
  Calls Try.prog 11 #[.int .i64 n, .slice A l.length c] w fun e w' => e = .returned (.pointer none) ∧ Below w.heap.size w w' := by
 have H := Lib.hid (ok_err h)
 have HR := Lib.hid hr
 clear h hr
 go_enter Try.func11, Try.ntmps11
 go_wp2_with fail
 refine (check_ok n A c l _ HR.out hl).mono ?_
 rintro e w1 ⟨rfl, hb1⟩
 rw [H.out]
 have HB := Lib.hid hb1
 clear hb1
 go_wp2
 go_ret
 exact ⟨rfl, HB.out⟩
set_option maxHeartbeats 2000000 in
theorem new_ok (n : Nat) (A : Option Addr) (c : Nat) (l : List S53) (w : World) (hr : Kd.C k53 w A l.length l) (hf : Fits n l) (h : chk n l = (0, 0)) :
  Calls Try.prog 11 #[.int .i64 n, .slice A l.length c] w fun e w' => ∃ g, e = .returned (.pointer (some ⟨g, 0, none⟩)) ∧ w.heap.size ≤ g ∧ IsG w' g n l ∧ Below w.heap.size w w' := by
 have H := Lib.hid h
 have HR := Lib.hid hr
 have HF := Lib.hid hf
 have h30 := hf.few
 clear h hr hf
 go_enter Try.func11, Try.ntmps11
 go_wp2_with fail
 refine (check_ok n A c l _ HR.out (by omega)).mono ?_
 rintro e w1 ⟨rfl, hb1⟩
 rw [H.out]
 have HB := Lib.hid hb1
 clear hb1
 go_wp2_with fail
 refine (cloneE A c l _ (Kd.C_below HR.out HB.out) (by omega)).mono ?_
 rintro e w2 ⟨v, rfl, hv, hb2⟩
 obtain ⟨A2, c2, rfl, hl2, hr2⟩ := C_of_R hv
 have HR2 := Lib.hid hr2
 have HB2 := Lib.hid (below_step HB.out hb2)
 clear hv hr2 hb2
 go_wp2_with fail
 refine (made_ok n A2 c2 l _ HR2.out hl2 HF.out).mono ?_
 rintro e w3 ⟨g, rfl, hg, hi, hb3⟩
 have HI := Lib.hid hi
 have HB3 := Lib.hid (below_step HB2.out hb3)
 have hgw : w.heap.size ≤ g := Nat.le_trans HB2.out.size hg
 clear hi hb3
 go_wp2
 go_ret
 exact ⟨g, rfl, hgw, HI.out, HB3.out⟩

theorem n_nil (w : World) : Calls Try.prog 14 #[.pointer none] w fun e w' => e = .returned (.int .i64 0) ∧ Below w.heap.size w w' := by
 go_enter Try.func14, Try.ntmps14
 go_wp2
 go_ret
 exact ⟨rfl, Below.refl _ _⟩
theorem n_ok (g n : Nat) (l : List S53) (w : World) (h : IsG w g n l) : Calls Try.prog 14 #[.pointer (some ⟨g, 0, none⟩)] w fun e w' => e = .returned (.int .i64 n) ∧ Below w.heap.size w w' := by
 obtain ⟨base, gO, gI, b, A, c, val, K, h1, h2, h3⟩ := h
 have p1 : w.cell? ⟨g, 1, none⟩ = some (.slice (some ⟨gO, 0, none⟩) n n) := by rw [cell_of h1.st]; rfl
 clear h1 h2 h3
 go_enter Try.func14, Try.ntmps14
 go_wp2
 go_ret
 exact ⟨rfl, Below.refl _ _⟩
theorem m_nil (w : World) : Calls Try.prog 39 #[.pointer none] w fun e w' => e = .returned (.int .i64 0) ∧ Below w.heap.size w w' := by
 go_enter Try.func39, Try.ntmps39
 go_wp2
 go_ret
 exact ⟨rfl, Below.refl _ _⟩
theorem m_ok (g n : Nat) (l : List S53) (w : World) (h : IsG w g n l) : Calls Try.prog 39 #[.pointer (some ⟨g, 0, none⟩)] w fun e w' => e = .returned (.int .i64 l.length) ∧ Below w.heap.size w w' := by
 obtain ⟨base, gO, gI, b, A, c, val, K, h1, h2, h3⟩ := h
 have p1 : w.cell? ⟨g, 0, none⟩ = some (.slice A l.length c) := by rw [cell_of h1.st]; rfl
 clear h1 h2 h3
 go_enter Try.func39, Try.ntmps39
 go_wp2
 go_ret
 exact ⟨rfl, Below.refl _ _⟩

theorem R_of_own {w : World} {base : Nat} {v : Value} {l : List Int} (h : w.ownsRow base 3 1 v l.length (l.map I)) : Kd.R (Kd.int .i64) 3 w base (fun _ => True) v l := by
 refine ⟨fun _ _ => trivial, l.map I, h, ?_⟩
 clear h
 induction l with
 | nil => exact Reps.none _ _
 | cons x l ih => exact Reps.one (show Kd.M (Kd.int .i64) _ _ _ x [.int .i64 x] from rfl) ih
/-- A row of a side, read. -/
theorem IsG.rowO {w : World} {g n : Nat} {l : List S53} (h : IsG w g n l) : ∃ gO, w.cell? ⟨g, 1, none⟩ = some (.slice (some ⟨gO, 0, none⟩) n n) ∧ ∀ v, v < n → ∃ A c, w.cell? ⟨gO, v, none⟩ = some (.slice A (rw_ l (.o v)).length c) ∧ (rw_ l (.o v)).length ≤ c ∧ Kd.C (Kd.int .i64) w A (rw_ l (.o v)).length (rw_ l (.o v)) := by
 obtain ⟨base, gO, gI, b, A, c, val, K, h1, h2, h3⟩ := h
 refine ⟨gO, by rw [cell_of h1.st]; rfl, fun v hv => ?_⟩
 obtain ⟨A', c', e, hl, hr⟩ := C_of_R (R_of_own (h1.sep.own (.o v)))
 exact ⟨A', c', by rw [h1.oo.cellAt v (by omega), ← e]; simp [hv], hl, hr⟩
theorem IsG.rowI {w : World} {g n : Nat} {l : List S53} (h : IsG w g n l) : ∃ gI, w.cell? ⟨g, 2, none⟩ = some (.slice (some ⟨gI, 0, none⟩) n n) ∧ ∀ v, v < n → ∃ A c, w.cell? ⟨gI, v, none⟩ = some (.slice A (rw_ l (.i v)).length c) ∧ (rw_ l (.i v)).length ≤ c ∧ Kd.C (Kd.int .i64) w A (rw_ l (.i v)).length (rw_ l (.i v)) := by
 obtain ⟨base, gO, gI, b, A, c, val, K, h1, h2, h3⟩ := h
 refine ⟨gI, by rw [cell_of h1.st]; rfl, fun v hv => ?_⟩
 obtain ⟨A', c', e, hl, hr⟩ := C_of_R (R_of_own (h1.sep.own (.i v)))
 exact ⟨A', c', by rw [h1.ii.cellAt v (by omega), ← e]; simp [hv], hl, hr⟩
theorem rw_len (l : List S53) (x : Ix) : (rw_ l x).length ≤ l.length := by
 unfold rw_ idxs
 rw [List.length_map]
 exact Nat.le_trans (List.length_filter_le _ _) (by simp)
end Go.Proofs.Ytkpaefeaplgnmaa.G
