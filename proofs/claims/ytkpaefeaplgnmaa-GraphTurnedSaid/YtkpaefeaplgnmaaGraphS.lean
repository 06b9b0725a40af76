/- The walk of same: both tell the same. -/
import Derived.Test.YtkpaefeaplgnmaaGraphR
set_option linter.unusedSimpArgs false
set_option linter.unusedVariables false
namespace Go.Proofs.Ytkpaefeaplgnmaa.G
open Go.RowKit Go.Proofs.Ytkpaefeaplgnmaa.PA Go.Proofs.Ytkpaefeaplgnmaa.Mp Go.Proofs.YtkpaefeaplgnmaaW.PrintWords Go.Proofs.YtkpaefeaplgnmaaW.PrintLast Go.Proofs.YtkpaefeaplgnmaaW.PrintMore
theorem wf_sm {x : Int} (h0 : -1 ≤ x) (h1 : x ≤ 1000) : (Lit.int .i64 x).wf = true := by
  simp only [Lit.wf, Bool.and_eq_true, decide_eq_true_eq]
  rw [show IntKind.i64.min = -9223372036854775808 from by decide +kernel, show IntKind.i64.max = 9223372036854775807 from by decide +kernel]
  omega
theorem w64_x {x : Int} (h : -1 ≤ x ∧ x ≤ 1000) : wrap64 (x + 1) = x + 1 := by unfold wrap64; omega
theorem Boxed2.new (W : World) (a b : Value) : (W.alloc (.cells #[a, b] 53)).heap[W.heap.size]? = some (.cells #[a, b] 53 (0, 0)) := World.alloc_heap_new W _
set_option maxRecDepth 100000 in
set_option maxHeartbeats 4000000 in
theorem same_ok (w0 w : World) (b : Bool) (A B : Option Addr) (n gr : Nat) (l : List S53) (hl : l.length ≤ 1000) (h : St w0 w b A B n l gr) :
    Calls Try.prog 21 #[.pointer A, .pointer B] w fun e w' => e = .returned (.bool true) ∧ Below w0.heap.size w0 w' := by
  have HS := Lib.hid h
  clear h
  go_enter Try.func21, Try.ntmps21
  go_wp2
  go_loopw [5] (fun v5 wr => ∃ x : Int, (-1 ≤ x ∧ x ≤ 13) ∧ v5 = .int .i64 x ∧ St w0 wr b A B n l gr) (fun v5 _ => (13 - intOf v5).toNat)
  case atStart => exact ⟨-1, by decide, rfl, HS.out⟩
  case round =>
    obtain ⟨x, hx0, rfl, hs⟩ := hrel
    have HS0 := Lib.hid hs
    clear hs HS
    by_cases hle : x ≤ 12
    · have d0 : decide (x ≤ 12) = true := decide_eq_true hle
      have hx : -1 ≤ x ∧ x ≤ 1000 := by omega
      go_wp2_with fail
      with_reducible refine (pOut HS0.out hl _).mono ?_
      rintro e w1 ⟨x1, rfl, hx, hs, hk⟩
      have HX1 := Lib.hid hx
      have HK1 := Lib.hid hk
      have HS1 := Lib.hid hs
      clear hx hs hk
      go_wp2_with fail
      with_reducible refine (rOut HS1.out _).mono ?_
      rintro e w2 ⟨x2, rfl, hx, hs, hk⟩
      have HX1 := Lib.hid (R_kp HX1.out hk)
      have HX2 := Lib.hid hx
      have HK2 := Lib.hid hk
      have HS2 := Lib.hid hs
      clear hx hs hk
      go_wp2_with fail
      with_reducible refine (sameI HX1.out HX2.out).mono ?_
      rintro e w3 ⟨rfl, hb⟩
      have HS3 := Lib.hid (HS2.out.below hb)
      clear hb
      go_wp2_with fail
      with_reducible refine (pIn HS3.out hl _).mono ?_
      rintro e w4 ⟨x4, rfl, hx, hs, hk⟩
      have HX4 := Lib.hid hx
      have HK4 := Lib.hid hk
      have HS4 := Lib.hid hs
      clear hx hs hk
      go_wp2_with fail
      with_reducible refine (rIn HS4.out _).mono ?_
      rintro e w5 ⟨x5, rfl, hx, hs, hk⟩
      have HX4 := Lib.hid (R_kp HX4.out hk)
      have HX5 := Lib.hid hx
      have HK5 := Lib.hid hk
      have HS5 := Lib.hid hs
      clear hx hs hk
      go_wp2_with fail
      with_reducible refine (sameI HX4.out HX5.out).mono ?_
      rintro e w6 ⟨rfl, hb⟩
      have HS6 := Lib.hid (HS5.out.below hb)
      clear hb
      go_wp2_with fail
      with_reducible refine (pDeg HS6.out hl _ false).mono ?_
      rintro e w7 ⟨rfl, hs, hk⟩
      have HS7 := Lib.hid hs
      clear hs hk
      go_wp2_with fail
      with_reducible refine (rDeg HS7.out _ false).mono ?_
      rintro e w8 ⟨rfl, hs, hk⟩
      have HS8 := Lib.hid hs
      clear hs hk
      go_wp2_with fail
      with_reducible refine (pDeg HS8.out hl _ true).mono ?_
      rintro e w9 ⟨rfl, hs, hk⟩
      have HS9 := Lib.hid hs
      clear hs hk
      go_wp2_with fail
      with_reducible refine (rDeg HS9.out _ true).mono ?_
      rintro e w10 ⟨rfl, hs, hk⟩
      have HS10 := Lib.hid hs
      clear hs hk
      go_wp2_with fail
      with_reducible refine (pLev HS10.out _).mono ?_
      rintro e w11 ⟨x11, rfl, hx, hs, hk⟩
      have HX11 := Lib.hid hx
      have HK11 := Lib.hid hk
      have HS11 := Lib.hid hs
      clear hx hs hk
      go_wp2_with fail
      with_reducible refine (rLev HS11.out _).mono ?_
      rintro e w12 ⟨x12, rfl, hx, hs, hk⟩
      have HX11 := Lib.hid (R_kp HX11.out hk)
      have HX12 := Lib.hid hx
      have HK12 := Lib.hid hk
      have HS12 := Lib.hid hs
      clear hx hs hk
      go_wp2_with fail
      with_reducible refine (sameI HX11.out HX12.out).mono ?_
      rintro e w13 ⟨rfl, hb⟩
      have HS13 := Lib.hid (HS12.out.below hb)
      clear hb
      go_wp2
      go_loopw [6] (fun v6 wr => ∃ y : Int, (-1 ≤ y ∧ y ≤ 4) ∧ v6 = .int .i64 y ∧ St w0 wr b A B n l gr) (fun v6 _ => (4 - intOf v6).toNat)
      case atStart => exact ⟨-1, by decide, rfl, HS13.out⟩
      case round =>
        obtain ⟨y, hy0, rfl, hs⟩ := hrel
        have HSi := Lib.hid hs
        clear hs
        by_cases hley : y ≤ 3
        · have d1 : decide (y ≤ 3) = true := decide_eq_true hley
          have hy : -1 ≤ y ∧ y ≤ 1000 := by omega
          have HW := Lib.hid (w64_x hy)
          go_wp2_with fail
          with_reducible refine (pBet HSi.out hl _ _ (wf_sm hx.1 hx.2) (wf_sm hy.1 hy.2)).mono ?_
          rintro e w41 ⟨x41, rfl, hx, hs, hk⟩
          have HX41 := Lib.hid hx
          have HK41 := Lib.hid hk
          have HS41 := Lib.hid hs
          clear hx hs hk
          go_wp2_with fail
          with_reducible refine (rBet HS41.out _ _).mono ?_
          rintro e w42 ⟨x42, rfl, hx, hs, hk⟩
          have HX41 := Lib.hid (R_kp HX41.out hk)
          have HX42 := Lib.hid hx
          have HK42 := Lib.hid hk
          have HS42 := Lib.hid hs
          clear hx hs hk
          go_wp2_with fail
          with_reducible refine (sameI HX41.out HX42.out).mono ?_
          rintro e w43 ⟨rfl, hb⟩
          have HS43 := Lib.hid (HS42.out.below hb)
          clear hb
          go_wp2
          go_roundw
          case rel => exact ⟨y + 1, by omega, by first | rfl | exact congrArg _ HW.out | (rw [HW.out]), HS43.out⟩
          case measure => simp [intOf]; omega
        · have d1 : decide (y ≤ 3) = false := decide_eq_false hley
          have HW := Lib.hid (w64_x hx)
          go_wp2
          go_roundw
          case rel => exact ⟨x + 1, by omega, by first | rfl | exact congrArg _ HW.out | (rw [HW.out]), HSi.out⟩
          case measure => simp [intOf]; omega
    · have d0 : decide (x ≤ 12) = false := decide_eq_false hle
      go_wp2
      go_loopw [7] (fun v7 wr => ∃ y : Int, (-1 ≤ y ∧ y ≤ 31) ∧ v7 = .int .i64 y ∧ St w0 wr b A B n l gr) (fun v7 _ => (31 - intOf v7).toNat)
      case atStart => exact ⟨-1, by decide, rfl, HS0.out⟩
      case round =>
        obtain ⟨y, hy0, rfl, hs⟩ := hrel
        have HSe := Lib.hid hs
        clear hs
        by_cases hley : y ≤ 30
        · have d1 : decide (y ≤ 30) = true := decide_eq_true hley
          have hy : -1 ≤ y ∧ y ≤ 1000 := by omega
          have HW := Lib.hid (w64_x hy)
          go_wp2_with fail
          with_reducible refine (pEdge HSe.out _).mono ?_
          rintro e w61 ⟨rfl, hs, hk⟩
          have HS61 := Lib.hid hs
          have l61 := hs.lt
          clear hs hk
          have hbx := Boxed2.new w61 (.int .i64 (edge b l y).1.f0) (.int .i64 (edge b l y).1.f1)
          go_wp2_with fail
          with_reducible refine (rEdge (HS61.out.below ((Below.refl _ _).alloc (Nat.le_refl _) _)) _).mono ?_
          rintro e w62 ⟨rfl, hs, hk⟩
          have hbk := (hk.2 w61.heap.size (by simp) (fun hb => by have := l61 hb; omega)).trans hbx
          have e1 : w62.cell? ⟨w61.heap.size, 0, none⟩ = some (.int .i64 (edge b l y).1.f0) := by rw [cell_of hbk]; rfl
          have e2 : w62.cell? ⟨w61.heap.size, 1, none⟩ = some (.int .i64 (edge b l y).1.f1) := by rw [cell_of hbk]; rfl
          have l62 : w61.heap.size < w62.heap.size := World.block_lt_of_cell? w62 _ e1
          have HS62 := Lib.hid (hs.below ((Below.refl _ _).alloc (Nat.le_refl _) (.cells #[.int .i64 (edge b l y).1.f0, .int .i64 (edge b l y).1.f1] 53)))
          clear hs hk hbk hbx l61
          go_wp2
          go_roundw
          case rel => exact ⟨y + 1, by omega, by first | rfl | exact congrArg _ HW.out | (rw [HW.out]), HS62.out⟩
          case measure => simp [intOf]; omega
        · have d1 : decide (y ≤ 30) = false := decide_eq_false hley
          go_wp2_with fail
          with_reducible refine (pRows HSe.out).mono ?_
          rintro e w81 ⟨x81, y81, rfl, hx, hy, hs, hk⟩
          have HX81 := Lib.hid hx
          have HX81y := Lib.hid hy
          have HS81 := Lib.hid hs
          clear hx hy hs hk
          go_wp2_with fail
          with_reducible refine (rRows HS81.out).mono ?_
          rintro e w82 ⟨x82, y82, rfl, hx, hy, hs, hk⟩
          have HX81 := Lib.hid (R_kp HX81.out hk)
          have HX81y := Lib.hid (R_kp HX81y.out hk)
          have HX82 := Lib.hid hx
          have HX82y := Lib.hid hy
          have HS82 := Lib.hid hs
          clear hx hy hs hk
          go_wp2_with fail
          with_reducible refine (pN HS82.out).mono ?_
          rintro e w83 ⟨rfl, hs, hk⟩
          have HX81 := Lib.hid (R_kp HX81.out hk)
          have HX81y := Lib.hid (R_kp HX81y.out hk)
          have HX82 := Lib.hid (R_kp HX82.out hk)
          have HX82y := Lib.hid (R_kp HX82y.out hk)
          have HS83 := Lib.hid hs
          clear hs hk
          go_wp2_with fail
          with_reducible refine (rN HS83.out).mono ?_
          rintro e w84 ⟨rfl, hs, hk⟩
          have HX81 := Lib.hid (R_kp HX81.out hk)
          have HX81y := Lib.hid (R_kp HX81y.out hk)
          have HX82 := Lib.hid (R_kp HX82.out hk)
          have HX82y := Lib.hid (R_kp HX82y.out hk)
          have HS84 := Lib.hid hs
          clear hs hk
          go_wp2_with fail
          with_reducible refine (pM HS84.out).mono ?_
          rintro e w85 ⟨rfl, hs, hk⟩
          have HX81 := Lib.hid (R_kp HX81.out hk)
          have HX81y := Lib.hid (R_kp HX81y.out hk)
          have HX82 := Lib.hid (R_kp HX82.out hk)
          have HX82y := Lib.hid (R_kp HX82y.out hk)
          have HS85 := Lib.hid hs
          clear hs hk
          go_wp2_with fail
          with_reducible refine (rM HS85.out).mono ?_
          rintro e w86 ⟨rfl, hs, hk⟩
          have HX81 := Lib.hid (R_kp HX81.out hk)
          have HX81y := Lib.hid (R_kp HX81y.out hk)
          have HX82 := Lib.hid (R_kp HX82.out hk)
          have HX82y := Lib.hid (R_kp HX82y.out hk)
          have HS86 := Lib.hid hs
          clear hs hk
          go_wp2_with fail
          with_reducible refine (sameI HX81.out HX82.out).mono ?_
          rintro e w87 ⟨rfl, hb⟩
          have HX81y := Lib.hid (R_kp HX81y.out (Kp.of_below hb))
          have HX82y := Lib.hid (R_kp HX82y.out (Kp.of_below hb))
          have HS87 := Lib.hid (HS86.out.below hb)
          clear hb
          go_wp2_with fail
          with_reducible refine (sameI HX81y.out HX82y.out).mono ?_
          rintro e w88 ⟨rfl, hb⟩
          have HS88 := Lib.hid (HS87.out.below hb)
          clear hb
          go_wp2
          go_ret
          exact ⟨rfl, HS88.out.bl⟩
end Go.Proofs.Ytkpaefeaplgnmaa.G
