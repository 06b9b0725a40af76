/- The walks of graph: where each node's edges begin. -/
import Derived.Test.YtkpaefeaplgnmaaGraphL
set_option linter.unusedSimpArgs false
set_option linter.unusedVariables false
namespace Go.Proofs.Ytkpaefeaplgnmaa.G
open Go.RowKit Go.Proofs.Ytkpaefeaplgnmaa.PA Go.Proofs.Ytkpaefeaplgnmaa.Mp Go.Proofs.YtkpaefeaplgnmaaW.PrintWords Go.Proofs.YtkpaefeaplgnmaaW.PrintLast Go.Proofs.YtkpaefeaplgnmaaW.PrintMore

theorem few_ok (A : Option Addr) (c : Nat) (l : List S53) (w : World) (hc : l.length ≤ c) : Calls Try.prog 10 #[.slice A l.length c] w fun e w' => e = .returned (.slice A (l.take 32).length c) ∧ w' = w := by
  obtain ⟨i53, hi53, z53, s53, b53⟩ := info_parts info53
  by_cases h : 32 < l.length
  · have d0 : decide (32 < (l.length : Int)) = true := decide_eq_true (by omega)
    have d1 : decide (32 < l.length) = true := decide_eq_true h
    have e : (l.take 32).length = 32 := by rw [List.length_take]; omega
    have hct := cut_to (P := Try.prog) 22 53 .i64 Try.underlying22 hi53 A l.length c 32 (by decide) (by omega) hc
    rw [e]
    clear e
    go_enter Try.func10, Try.ntmps10
    go_wp2
    go_ret
    exact ⟨rfl, rfl⟩
  · have d0 : decide (32 < (l.length : Int)) = false := decide_eq_false (by omega)
    have d1 : decide (32 < l.length) = false := decide_eq_false h
    have e : (l.take 32).length = l.length := by rw [List.length_take]; omega
    rw [e]
    clear e
    go_enter Try.func10, Try.ntmps10
    go_wp2
    go_ret
    exact ⟨rfl, rfl⟩

/-- All edges that leave, node by node; where each node's begin. -/
def colsN (l : List S53) (k : Nat) : List Int := ((List.range k).map (fun v => rw_ l (.o v))).flatten
def rowsN (l : List S53) (k : Nat) : List Int := (List.range k).map (fun v => ((colsN l v).length : Int))
theorem cols_succ (l : List S53) (k : Nat) : colsN l (k + 1) = colsN l k ++ rw_ l (.o k) := by simp [colsN, List.range_succ]
theorem rows_succ (l : List S53) (k : Nat) : rowsN l (k + 1) = rowsN l k ++ [((colsN l k).length : Int)] := by simp [rowsN, List.range_succ]
theorem cols_len (l : List S53) (k : Nat) : (colsN l k).length ≤ k * l.length := by
  induction k with
  | zero => simp [colsN]
  | succ k ih =>
    rw [cols_succ, List.length_append, Nat.succ_mul]
    have := rw_len l (.o k)
    omega
theorem rows_len (l : List S53) (k : Nat) : (rowsN l k).length = k := by simp [rowsN]

theorem rows_nil (w : World) : Calls Try.prog 13 #[.pointer none] w fun e w' => e = .returned (.tuple #[.slice none 0 0, .slice none 0 0]) ∧ Below w.heap.size w w' := by
  go_enter Try.func13, Try.ntmps13
  go_wp2
  go_ret2
  exact ⟨rfl, Below.refl _ _⟩

set_option maxHeartbeats 4000000 in
theorem rows_ok (g n : Nat) (l : List S53) (w : World) (hg : IsG w g n l) (hf : Fits n l) :
    Calls Try.prog 13 #[.pointer (some ⟨g, 0, none⟩)] w fun e w' => ∃ x y, e = .returned (.tuple #[x, y]) ∧ Kd.R (Kd.int .i64) 3 w' w.heap.size (fun _ => True) x (rowsN l (n + 1)) ∧ Kd.R (Kd.int .i64) 3 w' w.heap.size (fun _ => True) y (colsN l n) ∧ Below w.heap.size w w' := by
  obtain ⟨gO, p1, hrow⟩ := hg.rowO
  have l1 : g < w.heap.size := World.block_lt_of_cell? w _ p1
  have h12 := hf.top
  have h30 := hf.few
  have HR := Lib.hid hrow
  clear hg hf hrow
  go_enter Try.func13, Try.ntmps13
  go_wp2
  go_loopw [4, 5, 15] (fun v4 v5 v15 wr => ∃ k : Nat, k ≤ n ∧ v15 = .int .i64 k ∧ Kd.R (Kd.int .i64) 3 wr w.heap.size (fun k_ => some k_ ≠ v5.ownBlock) v4 (rowsN l k) ∧ Kd.R (Kd.int .i64) 3 wr w.heap.size (fun k_ => some k_ ≠ v4.ownBlock) v5 (colsN l k) ∧ Below w.heap.size w wr) (fun _ _ v15 _ => n - (intOf v15).toNat)
  case atStart => exact ⟨0, Nat.zero_le _, rfl, Kd.R_nil _ _ _ _ _, Kd.R_nil _ _ _ _ _, Below.refl _ _⟩
  case round =>
    obtain ⟨k, hk, rfl, hr4, hr5, hb⟩ := hrel
    obtain ⟨A4, c4, rfl⟩ := Kd.R_slice hr4
    obtain ⟨A5, c5, rfl⟩ := Kd.R_slice hr5
    have hcl := cols_len l k
    have hcm : k * l.length ≤ 12 * 30 := Nat.mul_le_mul (by omega) h30
    have hrl := rows_len l k
    have HR4 := Lib.hid hr4
    have HR5 := Lib.hid hr5
    have HB := Lib.hid hb
    have HRL := Lib.hid hrl
    clear hr4 hr5 hb hrl
    by_cases hlt : k < n
    · obtain ⟨A', c', p2, hlc, hC⟩ := HR.out k hlt
      have q2 := (HB.out.cell (World.block_lt_of_cell? w _ p2)).trans p2
      have hrk := rw_len l (.o k)
      have HC := Lib.hid hC
      clear hC p2
      go_wp2_with (first | ((with_reducible refine gate_builtin (b := .append) (xs := #[.tmp 19, .tmp 22]) rfl ?_); at_builtin; refine Kd.R_append (w0 := w) (Kd.int .i64) w.heap.size rfl (.tmp 19) (.tmp 22) 27 3 (.int .i64 0) 8 rfl Try.underlying27 info3' rfl (by decide) (by omega) _ (rowsN l k) ((colsN l k).length : Int) [.int .i64 ((colsN l k).length : Int)] (fun k_ => some k_ ≠ (Value.slice A5 (colsN l k).length c5).ownBlock) (fun _ => False) rfl rfl rfl (fun _ hk => hk.elim) (Kd.fresh' (Kd.R_lt HR5.out)) HR4.out HB.out HB.out.size (by have := HRL.out; omega) ?_; intro v1 w1 ho hb1 hg hat; have HO := Lib.hid ho; have HB1 := Lib.hid hb1; have HA := Lib.hid (Kd.R_after (ok := fun _ => True) (Kd.R_mono HR5.out (fun _ hk => ⟨trivial, hk⟩)) hg hat); clear ho hb1 hg hat) | ((with_reducible refine gate_builtin (b := .append) (xs := #[.tmp 24, .tmp 25]) rfl ?_); at_builtin; refine Kd.R_append_row (w0 := w) (Value.int .i64) (0 : Int) w.heap.size rfl (.tmp 24) (.tmp 25) 27 3 (.int .i64 0) 8 rfl Try.underlying27 info3' rfl (by omega) _ (colsN l k) (rw_ l (.o k)) A' (rw_ l (.o k)).length c' (fun k_ => some k_ ≠ v1.ownBlock) rfl rfl (Kd.fresh' (Kd.R_lt HO.out)) (Kd.R_mono HA.out (fun _ hk => hk.2)) (Kd.C_below HC.out (HB1.out)) HB1.out HB1.out.size (by omega) ?_; intro v2 w2 ho2 hb2 hg2 hat2; have HO2 := Lib.hid ho2; have HB2 := Lib.hid hb2; have HA2 := Lib.hid (Kd.R_after (ok := fun _ => True) (Kd.R_mono HO.out (fun _ hk => ⟨trivial, hk⟩)) hg2 hat2); clear ho2 hb2 hg2 hat2))
      go_roundw
      case rel => exact ⟨k + 1, by omega, by go_num, by rw [rows_succ]; exact Kd.R_mono HA2.out (fun _ hk => hk.2), by rw [cols_succ]; exact HO2.out, HB2.out⟩
      case measure => simp [intOf]; omega
    · have hkn : k = n := by omega
      have HKN := Lib.hid hkn
      clear hkn
      go_wp2_with ((with_reducible refine gate_builtin (b := .append) (xs := #[.tmp 28, .tmp 31]) rfl ?_); at_builtin; refine Kd.R_append (w0 := w) (Kd.int .i64) w.heap.size rfl (.tmp 28) (.tmp 31) 27 3 (.int .i64 0) 8 rfl Try.underlying27 info3' rfl (by decide) (by omega) _ (rowsN l k) ((colsN l k).length : Int) [.int .i64 ((colsN l k).length : Int)] (fun k_ => some k_ ≠ (Value.slice A5 (colsN l k).length c5).ownBlock) (fun _ => False) rfl rfl rfl (fun _ hk => hk.elim) (Kd.fresh' (Kd.R_lt HR5.out)) HR4.out HB.out HB.out.size (by have := HRL.out; omega) ?_; intro v1 w1 ho hb1 hg hat; have HO := Lib.hid ho; have HB1 := Lib.hid hb1; have HA := Lib.hid (Kd.R_after (ok := fun _ => True) (Kd.R_mono HR5.out (fun _ hk => ⟨trivial, hk⟩)) hg hat); clear ho hb1 hg hat)
      go_ret2
      refine ⟨_, _, rfl, ?_, ?_, HB1.out⟩
      · rw [← HKN.out, rows_succ]; exact Kd.R_mono HO.out (fun _ _ => trivial)
      · rw [← HKN.out]; exact Kd.R_mono HA.out (fun _ _ => trivial)
end Go.Proofs.Ytkpaefeaplgnmaa.G
