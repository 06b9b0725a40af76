/- The laws of agg: what must be; the plays. -/
import Derived.Test.YtdohoajphknciaaAggO
set_option linter.unusedSimpArgs false
set_option linter.unusedVariables false
namespace Go.Proofs.Ytdohoajphknciaa.Agg
open Go.RowKit Go.Proofs.Ytdohoajphknciaa.PT Go.Proofs.Ytdohoajphknciaa.Pure Go.Proofs.Ytdohoajphknciaa.Perm Go.Proofs.YtdohoajphknciaaW.PrintWords Go.Proofs.YtdohoajphknciaaW.PrintLast Go.Proofs.YtdohoajphknciaaW.PrintMore

theorem may2 (ls : List (List Int)) (h : ls.length = 2) (hf : ∀ l ∈ ls, l.length ≤ 10) : May 1 0 ls 1000 := ⟨by decide +kernel, by omega, by omega, fun l hl => Nat.le_trans (hf l hl) (by decide)⟩
set_option maxHeartbeats 4000000 in
theorem live_ok (w : World) : Calls Try.prog 10 #[] w fun e w' => e = .returned (.bool true) ∧ Below w.heap.size w w' := by
 go_enter Try.func10, Try.ntmps10
 go_wp2_with fail
 refine (new_A 1 2 _).mono ?_
 rintro e w1 ⟨A, rfl, ha, hla, hb1⟩
 rw [show isL 1 2 = true by decide +kernel, show fst0 1 = 0 by decide +kernel, show List.replicate (Int.toNat 2) [] = ([[], []] : List (List Int)) from rfl] at ha
 have HA := Lib.hid ha
 have HLA := Lib.hid hla
 have HB1 := Lib.hid hb1
 clear ha hla hb1
 go_wp2_with fail
 refine (take_A true A 1 0 0 3 _ _ HA.out (fun _ => may2 _ rfl (by decide))).mono ?_
 rintro e w2 ⟨rfl, ha, hg⟩
 rw [show code true ([[], []] : List (List Int)).length 0 = 0 by decide, show took ([[], []] : List (List Int)) 0 3 = [[3], []] by decide] at *
 have HB2 := Lib.hid (HB1.out.grown hg HB1.out.size HLA.out)
 have HA2 := Lib.hid ha
 clear ha hg
 go_wp2_with fail
 refine (take_A true A 1 0 1 4 _ _ HA2.out (fun _ => may2 _ rfl (by decide))).mono ?_
 rintro e w3 ⟨rfl, ha, hg⟩
 rw [show code true ([[3], []] : List (List Int)).length 1 = 0 by decide, show took ([[3], []] : List (List Int)) 1 4 = [[3], [4]] by decide] at *
 have HB3 := Lib.hid (HB2.out.grown hg HB2.out.size HLA.out)
 have HA3 := Lib.hid ha
 clear ha hg
 go_wp2_with fail
 refine (whole_A true A 1 0 1 _ _ HA3.out (fun _ => may2 _ rfl (by decide)) (by decide)).mono ?_
 rintro e w4 ⟨rfl, hb⟩
 rw [show wh true 1 0 [[3], [4]] 1 = 7 by decide +kernel, show er true = 0 by decide]
 have HB4 := Lib.hid (below_step HB3.out hb)
 have HA4 := Lib.hid (HA3.out.below hb)
 clear hb
 go_wp2_with fail
 refine (part_A true A 1 0 1 _ _ HA4.out (fun _ => may2 _ rfl (by decide))).mono ?_
 rintro e w5 ⟨rfl, hb⟩
 rw [show pt true 1 0 [[3], [4]] 1 = 4 by decide +kernel, show code true ([[3], [4]] : List (List Int)).length 1 = 0 by decide]
 have HB5 := Lib.hid (below_step HB4.out hb)
 have HA5 := Lib.hid (HA4.out.below hb)
 clear hb
 go_wp2_with fail
 refine (count_A true A 1 0 _ _ HA5.out (fun _ => may2 _ rfl (by decide))).mono ?_
 rintro e w6 ⟨rfl, hb⟩
 rw [show ct true [[3], [4]] = 2 by decide +kernel]
 have HB6 := Lib.hid (below_step HB5.out hb)
 clear hb
 go_wp2
 go_ret
 exact ⟨rfl, HB6.out⟩
end Go.Proofs.Ytdohoajphknciaa.Agg
