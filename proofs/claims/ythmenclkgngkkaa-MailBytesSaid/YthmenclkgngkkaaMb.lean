/- The walk of MailBytes. -/
import Derived.Test.YthmenclkgngkkaaPb
set_option linter.unusedSimpArgs false
set_option linter.unusedVariables false
namespace Go.Proofs.Ythmenclkgngkkaa.M
open Go.RowKit Go.Proofs.Ythmenclkgngkkaa.PA Go.Proofs.YthmenclkgngkkaaW.PrintWords Go.Proofs.YthmenclkgngkkaaW.PrintMore Go.Proofs.YthmenclkgngkkaaW.PrintLast
set_option maxRecDepth 100000 in
set_option maxHeartbeats 8000000 in
theorem bytes_w (w : World) (A : Option Addr) (c : Nat) (l : List S26) (hc : l.length ≤ c) (hr : Kd.C k26 w A l.length l) (hg : l.length ≤ maxLen ∧ ∀ x ∈ l, (Lit.int .i64 x.f0).wf = true ∧ (Lit.int .i64 x.f1).wf = true ∧ (Lit.int .i64 x.f2).wf = true) (hs : l.length * 24 ≤ 140737488351232)
    (B : Option Addr) (cb : Nat) (b : List Int) (hcb : b.length ≤ cb) (hrb : Kd.C kb w B b.length b) (hgb : b.length ≤ maxLen ∧ ∀ x ∈ b, (Lit.int .u8 x).wf = true) (hsb : b.length * 1 ≤ 140737488351232) :
    Calls Try.prog 5 #[.slice A l.length c, .slice B b.length cb] w fun e w' => e = .returned (.bool true) ∧ Below w.heap.size w w' := by
  have hlt := List.length_take_le 50 l
  have hlc : (l.take 50).length ≤ c := by rw [List.length_take]; omega
  have hr' := C_take26 50 hr
  have hx2 : ∀ m ∈ l.take 50, r2 m := fun m hm => by
    have := (hg.2 m (List.mem_of_mem_take hm)).2.2
    simp [Lit.wf, IntKind.min, IntKind.max, IntKind.signed, IntKind.bits] at this
    exact this
  have hF := fun w => few_ok A c l w hc
  obtain ⟨x, hx⟩ : ∃ x, x = l.take 50 := ⟨_, rfl⟩
  rw [← hx] at hlt hlc hr' hF hx2
  obtain ⟨ex, ee, hE, hee, hED⟩ := enc_told x hx2 hlt
  have hbt := List.length_take_le 200 b
  have hbc : (b.take 200).length ≤ cb := by rw [List.length_take]; omega
  have hrb' := C_takeB 200 hrb
  have hy2 : ∀ v ∈ b.take 200, 0 ≤ v ∧ v < 256 := fun v hv => by
    have := hgb.2 v (List.mem_of_mem_take hv)
    simp [Lit.wf, IntKind.min, IntKind.max, IntKind.signed, IntKind.bits] at this
    omega
  have hb200 : (b.take 200).length = min 200 b.length := List.length_take
  obtain ⟨y, hy⟩ : ∃ y, y = b.take 200 := ⟨_, rfl⟩
  rw [← hy] at hbt hbc hrb' hy2 hb200
  obtain ⟨dm, di, de, hD, hde, hdl, hDE⟩ := dec_told y hy2 hbt
  obtain ⟨i5, hi5, z5, s5, b5⟩ := info_parts info5
  have HR := Lib.hid hr'
  have HRB := Lib.hid hrb'
  have HE := Lib.hid hE
  have HEE := Lib.hid hee
  have HED := Lib.hid hED
  have HD := Lib.hid hD
  have HDD := Lib.hid hde
  have HDE := Lib.hid hDE
  have hx1 : x.length ≤ 1000 := by omega
  have hd1 : dm.length ≤ 1000 := by omega
  clear hr hr' hg hs hx hx2 hE hee hED hrb hrb' hgb hsb hy hy2 hD hde hDE hdl
  by_cases hlong : 200 < b.length
  · have d0 : decide (200 < (b.length : Int)) = true := decide_eq_true (by omega)
    have d1 : decide (200 < b.length) = true := decide_eq_true hlong
    have eb : y.length = 200 := by omega
    have hct : ∀ W : World, (Instr.slice 28 (.slice B b.length cb) none (some (.int .i64 200)) none).run Try.prog W = .ok (.slice B y.length cb) W := by
      rw [eb]; exact cut_to (P := Try.prog) 28 5 .i64 Try.underlying28 hi5 B b.length cb 200 (by decide) (by omega) hcb
    clear eb hb200 hi5 hlong
    go_enter Try.func5, Try.ntmps5
    go_wp2_with fail
    with_reducible refine (hF _).mono ?_
    rintro e w1 ⟨rfl, rfl⟩
    go_wp2_with fail
    with_reducible refine (enc_ok A c x ex ee _ HR.out hlc HE.out).mono ?_
    rintro e w2 ⟨V2, c2, rfl, h1, k2, hb⟩
    have HR_2 := Lib.hid (Kd.C_below HR.out hb)
    have HRB_2 := Lib.hid (Kd.C_below HRB.out hb)
    have HB_2 := Lib.hid (hb)
    have HX_2 := Lib.hid h1
    clear hb h1
    go_wp2_with fail
    with_reducible refine (renc_ok A c x ex ee _ HR_2.out hlc HE.out).mono ?_
    rintro e w3 ⟨V3, c3, rfl, h1, k3, hb⟩
    have HR_3 := Lib.hid (Kd.C_below HR_2.out hb)
    have HRB_3 := Lib.hid (Kd.C_below HRB_2.out hb)
    have HX_3 := Lib.hid (Kd.C_below HX_2.out hb)
    have HB_3 := Lib.hid (below_step HB_2.out hb)
    have HY_3 := Lib.hid h1
    clear HR_2 HRB_2 HX_2 HB_2 hb h1
    go_wp2_with fail
    with_reducible refine (dec_ok B cb y dm di de _ HRB_3.out hbc HD.out).mono ?_
    rintro e w4 ⟨V4, c4, rfl, h1, k4, hb⟩
    have HR_4 := Lib.hid (Kd.C_below HR_3.out hb)
    have HRB_4 := Lib.hid (Kd.C_below HRB_3.out hb)
    have HX_4 := Lib.hid (Kd.C_below HX_3.out hb)
    have HY_4 := Lib.hid (Kd.C_below HY_3.out hb)
    have HB_4 := Lib.hid (below_step HB_3.out hb)
    have HP_4 := Lib.hid h1
    clear HR_3 HRB_3 HX_3 HY_3 HB_3 hb h1
    go_wp2_with fail
    with_reducible refine (rdec_ok B cb y dm di de _ HRB_4.out hbc HD.out).mono ?_
    rintro e w5 ⟨V5, c5, rfl, h1, k5, hb⟩
    have HR_5 := Lib.hid (Kd.C_below HR_4.out hb)
    have HRB_5 := Lib.hid (Kd.C_below HRB_4.out hb)
    have HX_5 := Lib.hid (Kd.C_below HX_4.out hb)
    have HY_5 := Lib.hid (Kd.C_below HY_4.out hb)
    have HP_5 := Lib.hid (Kd.C_below HP_4.out hb)
    have HB_5 := Lib.hid (below_step HB_4.out hb)
    have HQ_5 := Lib.hid h1
    clear HR_4 HRB_4 HX_4 HY_4 HP_4 HB_4 hb h1
    rcases HEE.out with rfl | rfl
    · have hED := HED.out rfl
      have HED2 := Lib.hid hED
      clear hED
      go_wp2_with fail
      with_reducible refine (dec_ok V2 c2 ex x 0 0 _ HX_5.out k2 HED2.out).mono ?_
      rintro e w6 ⟨V6, c6, rfl, h1, k6, hb⟩
      have HR_6 := Lib.hid (Kd.C_below HR_5.out hb)
      have HRB_6 := Lib.hid (Kd.C_below HRB_5.out hb)
      have HX_6 := Lib.hid (Kd.C_below HX_5.out hb)
      have HY_6 := Lib.hid (Kd.C_below HY_5.out hb)
      have HP_6 := Lib.hid (Kd.C_below HP_5.out hb)
      have HQ_6 := Lib.hid (Kd.C_below HQ_5.out hb)
      have HB_6 := Lib.hid (below_step HB_5.out hb)
      have HZ_6 := Lib.hid h1
      clear HR_5 HRB_5 HX_5 HY_5 HP_5 HQ_5 HB_5 hb h1
      go_wp2_with fail
      with_reducible refine (same_e V6 A c6 c x _ HZ_6.out HR_6.out k6 hlc hx1).mono ?_
      rintro e w7 ⟨rfl, hb⟩
      have HR_7 := Lib.hid (Kd.C_below HR_6.out hb)
      have HRB_7 := Lib.hid (Kd.C_below HRB_6.out hb)
      have HX_7 := Lib.hid (Kd.C_below HX_6.out hb)
      have HY_7 := Lib.hid (Kd.C_below HY_6.out hb)
      have HP_7 := Lib.hid (Kd.C_below HP_6.out hb)
      have HQ_7 := Lib.hid (Kd.C_below HQ_6.out hb)
      have HZ_7 := Lib.hid (Kd.C_below HZ_6.out hb)
      have HB_7 := Lib.hid (below_step HB_6.out hb)
      clear HR_6 HRB_6 HX_6 HY_6 HP_6 HQ_6 HZ_6 HB_6 hb
      rcases HDD.out with rfl | rfl
      · have hDE := HDE.out rfl
        have HDE2 := Lib.hid hDE
        clear hDE
        go_wp2_with fail
        with_reducible refine (enc_ok V4 c4 dm y 0 _ HP_7.out k4 HDE2.out).mono ?_
        rintro e w8 ⟨V8, c8, rfl, h1, k8, hb⟩
        have HR_8 := Lib.hid (Kd.C_below HR_7.out hb)
        have HRB_8 := Lib.hid (Kd.C_below HRB_7.out hb)
        have HX_8 := Lib.hid (Kd.C_below HX_7.out hb)
        have HY_8 := Lib.hid (Kd.C_below HY_7.out hb)
        have HP_8 := Lib.hid (Kd.C_below HP_7.out hb)
        have HQ_8 := Lib.hid (Kd.C_below HQ_7.out hb)
        have HZ_8 := Lib.hid (Kd.C_below HZ_7.out hb)
        have HB_8 := Lib.hid (below_step HB_7.out hb)
        have s3 : (convert 28 9 (.slice V8 y.length c8)).run Try.prog w8 = .ok (.string (strOfNums y)) w8 := Kd.C_string Try.underlying28 Try.underlying5 Try.underlying9 h1
        have s4 : (convert 28 9 (.slice B y.length cb)).run Try.prog w8 = .ok (.string (strOfNums y)) w8 := Kd.C_string Try.underlying28 Try.underlying5 Try.underlying9 HRB_8.out
        clear hb h1
        go_wp2_with fail
        with_reducible refine (live_ok _).mono ?_
        rintro e w9 ⟨rfl, hb⟩
        have HX_9 := Lib.hid (Kd.C_below HX_8.out hb)
        have HY_9 := Lib.hid (Kd.C_below HY_8.out hb)
        have HP_9 := Lib.hid (Kd.C_below HP_8.out hb)
        have HQ_9 := Lib.hid (Kd.C_below HQ_8.out hb)
        have HB_9 := Lib.hid (below_step HB_8.out hb)
        have s1 : (convert 28 9 (.slice V2 ex.length c2)).run Try.prog w9 = .ok (.string (strOfNums ex)) w9 := Kd.C_string Try.underlying28 Try.underlying5 Try.underlying9 HX_9.out
        have s2 : (convert 28 9 (.slice V3 ex.length c3)).run Try.prog w9 = .ok (.string (strOfNums ex)) w9 := Kd.C_string Try.underlying28 Try.underlying5 Try.underlying9 HY_9.out
        clear hb
        go_wp2_with fail
        with_reducible refine (same_e V4 V5 c4 c5 dm _ HP_9.out HQ_9.out k4 k5 hd1).mono ?_
        rintro e w10 ⟨rfl, hb⟩
        have HB_10 := Lib.hid (below_step HB_9.out hb)
        clear hb
        go_wp2
        go_ret
        exact ⟨rfl, HB_10.out⟩
      · skip
        go_wp2_with fail
        with_reducible refine (live_ok _).mono ?_
        rintro e w9 ⟨rfl, hb⟩
        have HX_9 := Lib.hid (Kd.C_below HX_7.out hb)
        have HY_9 := Lib.hid (Kd.C_below HY_7.out hb)
        have HP_9 := Lib.hid (Kd.C_below HP_7.out hb)
        have HQ_9 := Lib.hid (Kd.C_below HQ_7.out hb)
        have HB_9 := Lib.hid (below_step HB_7.out hb)
        have s1 : (convert 28 9 (.slice V2 ex.length c2)).run Try.prog w9 = .ok (.string (strOfNums ex)) w9 := Kd.C_string Try.underlying28 Try.underlying5 Try.underlying9 HX_9.out
        have s2 : (convert 28 9 (.slice V3 ex.length c3)).run Try.prog w9 = .ok (.string (strOfNums ex)) w9 := Kd.C_string Try.underlying28 Try.underlying5 Try.underlying9 HY_9.out
        clear hb
        go_wp2_with fail
        with_reducible refine (same_e V4 V5 c4 c5 dm _ HP_9.out HQ_9.out k4 k5 hd1).mono ?_
        rintro e w10 ⟨rfl, hb⟩
        have HB_10 := Lib.hid (below_step HB_9.out hb)
        clear hb
        go_wp2
        go_ret
        exact ⟨rfl, HB_10.out⟩
    · skip
      rcases HDD.out with rfl | rfl
      · have hDE := HDE.out rfl
        have HDE2 := Lib.hid hDE
        clear hDE
        go_wp2_with fail
        with_reducible refine (enc_ok V4 c4 dm y 0 _ HP_5.out k4 HDE2.out).mono ?_
        rintro e w8 ⟨V8, c8, rfl, h1, k8, hb⟩
        have HR_8 := Lib.hid (Kd.C_below HR_5.out hb)
        have HRB_8 := Lib.hid (Kd.C_below HRB_5.out hb)
        have HX_8 := Lib.hid (Kd.C_below HX_5.out hb)
        have HY_8 := Lib.hid (Kd.C_below HY_5.out hb)
        have HP_8 := Lib.hid (Kd.C_below HP_5.out hb)
        have HQ_8 := Lib.hid (Kd.C_below HQ_5.out hb)
        have HB_8 := Lib.hid (below_step HB_5.out hb)
        have s3 : (convert 28 9 (.slice V8 y.length c8)).run Try.prog w8 = .ok (.string (strOfNums y)) w8 := Kd.C_string Try.underlying28 Try.underlying5 Try.underlying9 h1
        have s4 : (convert 28 9 (.slice B y.length cb)).run Try.prog w8 = .ok (.string (strOfNums y)) w8 := Kd.C_string Try.underlying28 Try.underlying5 Try.underlying9 HRB_8.out
        clear hb h1
        go_wp2_with fail
        with_reducible refine (live_ok _).mono ?_
        rintro e w9 ⟨rfl, hb⟩
        have HX_9 := Lib.hid (Kd.C_below HX_8.out hb)
        have HY_9 := Lib.hid (Kd.C_below HY_8.out hb)
        have HP_9 := Lib.hid (Kd.C_below HP_8.out hb)
        have HQ_9 := Lib.hid (Kd.C_below HQ_8.out hb)
        have HB_9 := Lib.hid (below_step HB_8.out hb)
        have s1 : (convert 28 9 (.slice V2 ex.length c2)).run Try.prog w9 = .ok (.string (strOfNums ex)) w9 := Kd.C_string Try.underlying28 Try.underlying5 Try.underlying9 HX_9.out
        have s2 : (convert 28 9 (.slice V3 ex.length c3)).run Try.prog w9 = .ok (.string (strOfNums ex)) w9 := Kd.C_string Try.underlying28 Try.underlying5 Try.underlying9 HY_9.out
        clear hb
        go_wp2_with fail
        with_reducible refine (same_e V4 V5 c4 c5 dm _ HP_9.out HQ_9.out k4 k5 hd1).mono ?_
        rintro e w10 ⟨rfl, hb⟩
        have HB_10 := Lib.hid (below_step HB_9.out hb)
        clear hb
        go_wp2
        go_ret
        exact ⟨rfl, HB_10.out⟩
      · skip
        go_wp2_with fail
        with_reducible refine (live_ok _).mono ?_
        rintro e w9 ⟨rfl, hb⟩
        have HX_9 := Lib.hid (Kd.C_below HX_5.out hb)
        have HY_9 := Lib.hid (Kd.C_below HY_5.out hb)
        have HP_9 := Lib.hid (Kd.C_below HP_5.out hb)
        have HQ_9 := Lib.hid (Kd.C_below HQ_5.out hb)
        have HB_9 := Lib.hid (below_step HB_5.out hb)
        have s1 : (convert 28 9 (.slice V2 ex.length c2)).run Try.prog w9 = .ok (.string (strOfNums ex)) w9 := Kd.C_string Try.underlying28 Try.underlying5 Try.underlying9 HX_9.out
        have s2 : (convert 28 9 (.slice V3 ex.length c3)).run Try.prog w9 = .ok (.string (strOfNums ex)) w9 := Kd.C_string Try.underlying28 Try.underlying5 Try.underlying9 HY_9.out
        clear hb
        go_wp2_with fail
        with_reducible refine (same_e V4 V5 c4 c5 dm _ HP_9.out HQ_9.out k4 k5 hd1).mono ?_
        rintro e w10 ⟨rfl, hb⟩
        have HB_10 := Lib.hid (below_step HB_9.out hb)
        clear hb
        go_wp2
        go_ret
        exact ⟨rfl, HB_10.out⟩
  · have d0 : decide (200 < (b.length : Int)) = false := decide_eq_false (by omega)
    have d1 : decide (200 < b.length) = false := decide_eq_false hlong
    have eb : b.length = y.length := by omega
    rw [eb] at d0 d1 ⊢
    clear eb hb200 hi5 hlong
    go_enter Try.func5, Try.ntmps5
    go_wp2_with fail
    with_reducible refine (hF _).mono ?_
    rintro e w1 ⟨rfl, rfl⟩
    go_wp2_with fail
    with_reducible refine (enc_ok A c x ex ee _ HR.out hlc HE.out).mono ?_
    rintro e w2 ⟨V2, c2, rfl, h1, k2, hb⟩
    have HR_2 := Lib.hid (Kd.C_below HR.out hb)
    have HRB_2 := Lib.hid (Kd.C_below HRB.out hb)
    have HB_2 := Lib.hid (hb)
    have HX_2 := Lib.hid h1
    clear hb h1
    go_wp2_with fail
    with_reducible refine (renc_ok A c x ex ee _ HR_2.out hlc HE.out).mono ?_
    rintro e w3 ⟨V3, c3, rfl, h1, k3, hb⟩
    have HR_3 := Lib.hid (Kd.C_below HR_2.out hb)
    have HRB_3 := Lib.hid (Kd.C_below HRB_2.out hb)
    have HX_3 := Lib.hid (Kd.C_below HX_2.out hb)
    have HB_3 := Lib.hid (below_step HB_2.out hb)
    have HY_3 := Lib.hid h1
    clear HR_2 HRB_2 HX_2 HB_2 hb h1
    go_wp2_with fail
    with_reducible refine (dec_ok B cb y dm di de _ HRB_3.out hbc HD.out).mono ?_
    rintro e w4 ⟨V4, c4, rfl, h1, k4, hb⟩
    have HR_4 := Lib.hid (Kd.C_below HR_3.out hb)
    have HRB_4 := Lib.hid (Kd.C_below HRB_3.out hb)
    have HX_4 := Lib.hid (Kd.C_below HX_3.out hb)
    have HY_4 := Lib.hid (Kd.C_below HY_3.out hb)
    have HB_4 := Lib.hid (below_step HB_3.out hb)
    have HP_4 := Lib.hid h1
    clear HR_3 HRB_3 HX_3 HY_3 HB_3 hb h1
    go_wp2_with fail
    with_reducible refine (rdec_ok B cb y dm di de _ HRB_4.out hbc HD.out).mono ?_
    rintro e w5 ⟨V5, c5, rfl, h1, k5, hb⟩
    have HR_5 := Lib.hid (Kd.C_below HR_4.out hb)
    have HRB_5 := Lib.hid (Kd.C_below HRB_4.out hb)
    have HX_5 := Lib.hid (Kd.C_below HX_4.out hb)
    have HY_5 := Lib.hid (Kd.C_below HY_4.out hb)
    have HP_5 := Lib.hid (Kd.C_below HP_4.out hb)
    have HB_5 := Lib.hid (below_step HB_4.out hb)
    have HQ_5 := Lib.hid h1
    clear HR_4 HRB_4 HX_4 HY_4 HP_4 HB_4 hb h1
    rcases HEE.out with rfl | rfl
    · have hED := HED.out rfl
      have HED2 := Lib.hid hED
      clear hED
      go_wp2_with fail
      with_reducible refine (dec_ok V2 c2 ex x 0 0 _ HX_5.out k2 HED2.out).mono ?_
      rintro e w6 ⟨V6, c6, rfl, h1, k6, hb⟩
      have HR_6 := Lib.hid (Kd.C_below HR_5.out hb)
      have HRB_6 := Lib.hid (Kd.C_below HRB_5.out hb)
      have HX_6 := Lib.hid (Kd.C_below HX_5.out hb)
      have HY_6 := Lib.hid (Kd.C_below HY_5.out hb)
      have HP_6 := Lib.hid (Kd.C_below HP_5.out hb)
      have HQ_6 := Lib.hid (Kd.C_below HQ_5.out hb)
      have HB_6 := Lib.hid (below_step HB_5.out hb)
      have HZ_6 := Lib.hid h1
      clear HR_5 HRB_5 HX_5 HY_5 HP_5 HQ_5 HB_5 hb h1
      go_wp2_with fail
      with_reducible refine (same_e V6 A c6 c x _ HZ_6.out HR_6.out k6 hlc hx1).mono ?_
      rintro e w7 ⟨rfl, hb⟩
      have HR_7 := Lib.hid (Kd.C_below HR_6.out hb)
      have HRB_7 := Lib.hid (Kd.C_below HRB_6.out hb)
      have HX_7 := Lib.hid (Kd.C_below HX_6.out hb)
      have HY_7 := Lib.hid (Kd.C_below HY_6.out hb)
      have HP_7 := Lib.hid (Kd.C_below HP_6.out hb)
      have HQ_7 := Lib.hid (Kd.C_below HQ_6.out hb)
      have HZ_7 := Lib.hid (Kd.C_below HZ_6.out hb)
      have HB_7 := Lib.hid (below_step HB_6.out hb)
      clear HR_6 HRB_6 HX_6 HY_6 HP_6 HQ_6 HZ_6 HB_6 hb
      rcases HDD.out with rfl | rfl
      · have hDE := HDE.out rfl
        have HDE2 := Lib.hid hDE
        clear hDE
        go_wp2_with fail
        with_reducible refine (enc_ok V4 c4 dm y 0 _ HP_7.out k4 HDE2.out).mono ?_
        rintro e w8 ⟨V8, c8, rfl, h1, k8, hb⟩
        have HR_8 := Lib.hid (Kd.C_below HR_7.out hb)
        have HRB_8 := Lib.hid (Kd.C_below HRB_7.out hb)
        have HX_8 := Lib.hid (Kd.C_below HX_7.out hb)
        have HY_8 := Lib.hid (Kd.C_below HY_7.out hb)
        have HP_8 := Lib.hid (Kd.C_below HP_7.out hb)
        have HQ_8 := Lib.hid (Kd.C_below HQ_7.out hb)
        have HZ_8 := Lib.hid (Kd.C_below HZ_7.out hb)
        have HB_8 := Lib.hid (below_step HB_7.out hb)
        have s3 : (convert 28 9 (.slice V8 y.length c8)).run Try.prog w8 = .ok (.string (strOfNums y)) w8 := Kd.C_string Try.underlying28 Try.underlying5 Try.underlying9 h1
        have s4 : (convert 28 9 (.slice B y.length cb)).run Try.prog w8 = .ok (.string (strOfNums y)) w8 := Kd.C_string Try.underlying28 Try.underlying5 Try.underlying9 HRB_8.out
        clear hb h1
        go_wp2_with fail
        with_reducible refine (live_ok _).mono ?_
        rintro e w9 ⟨rfl, hb⟩
        have HX_9 := Lib.hid (Kd.C_below HX_8.out hb)
        have HY_9 := Lib.hid (Kd.C_below HY_8.out hb)
        have HP_9 := Lib.hid (Kd.C_below HP_8.out hb)
        have HQ_9 := Lib.hid (Kd.C_below HQ_8.out hb)
        have HB_9 := Lib.hid (below_step HB_8.out hb)
        have s1 : (convert 28 9 (.slice V2 ex.length c2)).run Try.prog w9 = .ok (.string (strOfNums ex)) w9 := Kd.C_string Try.underlying28 Try.underlying5 Try.underlying9 HX_9.out
        have s2 : (convert 28 9 (.slice V3 ex.length c3)).run Try.prog w9 = .ok (.string (strOfNums ex)) w9 := Kd.C_string Try.underlying28 Try.underlying5 Try.underlying9 HY_9.out
        clear hb
        go_wp2_with fail
        with_reducible refine (same_e V4 V5 c4 c5 dm _ HP_9.out HQ_9.out k4 k5 hd1).mono ?_
        rintro e w10 ⟨rfl, hb⟩
        have HB_10 := Lib.hid (below_step HB_9.out hb)
        clear hb
        go_wp2
        go_ret
        exact ⟨rfl, HB_10.out⟩
      · skip
        go_wp2_with fail
        with_reducible refine (live_ok _).mono ?_
        rintro e w9 ⟨rfl, hb⟩
        have HX_9 := Lib.hid (Kd.C_below HX_7.out hb)
        have HY_9 := Lib.hid (Kd.C_below HY_7.out hb)
        have HP_9 := Lib.hid (Kd.C_below HP_7.out hb)
        have HQ_9 := Lib.hid (Kd.C_below HQ_7.out hb)
        have HB_9 := Lib.hid (below_step HB_7.out hb)
        have s1 : (convert 28 9 (.slice V2 ex.length c2)).run Try.prog w9 = .ok (.string (strOfNums ex)) w9 := Kd.C_string Try.underlying28 Try.underlying5 Try.underlying9 HX_9.out
        have s2 : (convert 28 9 (.slice V3 ex.length c3)).run Try.prog w9 = .ok (.string (strOfNums ex)) w9 := Kd.C_string Try.underlying28 Try.underlying5 Try.underlying9 HY_9.out
        clear hb
        go_wp2_with fail
        with_reducible refine (same_e V4 V5 c4 c5 dm _ HP_9.out HQ_9.out k4 k5 hd1).mono ?_
        rintro e w10 ⟨rfl, hb⟩
        have HB_10 := Lib.hid (below_step HB_9.out hb)
        clear hb
        go_wp2
        go_ret
        exact ⟨rfl, HB_10.out⟩
    · skip
      rcases HDD.out with rfl | rfl
      · have hDE := HDE.out rfl
        have HDE2 := Lib.hid hDE
        clear hDE
        go_wp2_with fail
        with_reducible refine (enc_ok V4 c4 dm y 0 _ HP_5.out k4 HDE2.out).mono ?_
        rintro e w8 ⟨V8, c8, rfl, h1, k8, hb⟩
        have HR_8 := Lib.hid (Kd.C_below HR_5.out hb)
        have HRB_8 := Lib.hid (Kd.C_below HRB_5.out hb)
        have HX_8 := Lib.hid (Kd.C_below HX_5.out hb)
        have HY_8 := Lib.hid (Kd.C_below HY_5.out hb)
        have HP_8 := Lib.hid (Kd.C_below HP_5.out hb)
        have HQ_8 := Lib.hid (Kd.C_below HQ_5.out hb)
        have HB_8 := Lib.hid (below_step HB_5.out hb)
        have s3 : (convert 28 9 (.slice V8 y.length c8)).run Try.prog w8 = .ok (.string (strOfNums y)) w8 := Kd.C_string Try.underlying28 Try.underlying5 Try.underlying9 h1
        have s4 : (convert 28 9 (.slice B y.length cb)).run Try.prog w8 = .ok (.string (strOfNums y)) w8 := Kd.C_string Try.underlying28 Try.underlying5 Try.underlying9 HRB_8.out
        clear hb h1
        go_wp2_with fail
        with_reducible refine (live_ok _).mono ?_
        rintro e w9 ⟨rfl, hb⟩
        have HX_9 := Lib.hid (Kd.C_below HX_8.out hb)
        have HY_9 := Lib.hid (Kd.C_below HY_8.out hb)
        have HP_9 := Lib.hid (Kd.C_below HP_8.out hb)
        have HQ_9 := Lib.hid (Kd.C_below HQ_8.out hb)
        have HB_9 := Lib.hid (below_step HB_8.out hb)
        have s1 : (convert 28 9 (.slice V2 ex.length c2)).run Try.prog w9 = .ok (.string (strOfNums ex)) w9 := Kd.C_string Try.underlying28 Try.underlying5 Try.underlying9 HX_9.out
        have s2 : (convert 28 9 (.slice V3 ex.length c3)).run Try.prog w9 = .ok (.string (strOfNums ex)) w9 := Kd.C_string Try.underlying28 Try.underlying5 Try.underlying9 HY_9.out
        clear hb
        go_wp2_with fail
        with_reducible refine (same_e V4 V5 c4 c5 dm _ HP_9.out HQ_9.out k4 k5 hd1).mono ?_
        rintro e w10 ⟨rfl, hb⟩
        have HB_10 := Lib.hid (below_step HB_9.out hb)
        clear hb
        go_wp2
        go_ret
        exact ⟨rfl, HB_10.out⟩
      · skip
        go_wp2_with fail
        with_reducible refine (live_ok _).mono ?_
        rintro e w9 ⟨rfl, hb⟩
        have HX_9 := Lib.hid (Kd.C_below HX_5.out hb)
        have HY_9 := Lib.hid (Kd.C_below HY_5.out hb)
        have HP_9 := Lib.hid (Kd.C_below HP_5.out hb)
        have HQ_9 := Lib.hid (Kd.C_below HQ_5.out hb)
        have HB_9 := Lib.hid (below_step HB_5.out hb)
        have s1 : (convert 28 9 (.slice V2 ex.length c2)).run Try.prog w9 = .ok (.string (strOfNums ex)) w9 := Kd.C_string Try.underlying28 Try.underlying5 Try.underlying9 HX_9.out
        have s2 : (convert 28 9 (.slice V3 ex.length c3)).run Try.prog w9 = .ok (.string (strOfNums ex)) w9 := Kd.C_string Try.underlying28 Try.underlying5 Try.underlying9 HY_9.out
        clear hb
        go_wp2_with fail
        with_reducible refine (same_e V4 V5 c4 c5 dm _ HP_9.out HQ_9.out k4 k5 hd1).mono ?_
        rintro e w10 ⟨rfl, hb⟩
        have HB_10 := Lib.hid (below_step HB_9.out hb)
        clear hb
        go_wp2
        go_ret
        exact ⟨rfl, HB_10.out⟩
end Go.Proofs.Ythmenclkgngkkaa.M
