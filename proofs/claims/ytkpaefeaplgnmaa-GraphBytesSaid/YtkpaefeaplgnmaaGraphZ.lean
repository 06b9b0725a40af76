/- The walk of GraphBytes. -/
import Derived.Test.YtkpaefeaplgnmaaGraphY
set_option linter.unusedSimpArgs false
set_option linter.unusedVariables false
namespace Go.Proofs.Ytkpaefeaplgnmaa.By
open Go.RowKit Go.Proofs.Ytkpaefeaplgnmaa.PA Go.Proofs.Ytkpaefeaplgnmaa.G Go.Proofs.YtkpaefeaplgnmaaW.PrintWords Go.Proofs.YtkpaefeaplgnmaaW.PrintLast Go.Proofs.YtkpaefeaplgnmaaW.PrintMore
theorem info5 : (Try.prog.info? 5).map (fun i => (i.zero, i.size, i.bytes)) = some (some (.int .u8 0), 1, 1) := by kernel_rfl
theorem C_takeB {w : World} {A : Option Addr} {l : List Int} (m : Nat) (h : Kd.C (Kd.int .u8) w A l.length l) : Kd.C (Kd.int .u8) w A (l.take m).length (l.take m) := by
  obtain ⟨h1, h2, h3⟩ := h
  refine ⟨rfl, by rw [List.length_take]; omega, fun hp => ?_⟩
  have hl : 0 < l.length := by rw [List.length_take] at hp; omega
  obtain ⟨a, ha, hj⟩ := h3 hl
  refine ⟨a, ha, fun j p hp => ?_⟩
  exact hj j p (by rw [List.getElem?_take] at hp; split at hp <;> simp_all)
theorem enc_ok (n : Int) (A : Option Addr) (c : Nat) (l : List S53) (w : World) (hr : Kd.C k53 w A l.length l) (hc : l.length ≤ c) (hl : l.length ≤ 100) : Calls Try.prog 24 #[.int .i64 n, .slice A l.length c] w fun e w' => ∃ V cv, e = .returned (.tuple #[.slice V (encs n l).1.length cv, .int .i64 (encs n l).2]) ∧ Kd.C (Kd.int .u8) w' V (encs n l).1.length (encs n l).1 ∧ (encs n l).1.length ≤ cv ∧ Below w.heap.size w w' := by
  refine (PB.graph_Encode.calls 200 n A c l (encs n l).1 (encs n l).2 w hr hc (enc_f n l hl 200 (by decide))).mono ?_
  rintro e w' ⟨v, rfl, hR, hb⟩
  obtain ⟨V, cv, rfl, h1, h2⟩ := C_of_R hR
  exact ⟨V, cv, rfl, h2, h1, hb⟩
theorem renc_ok (n : Int) (A : Option Addr) (c : Nat) (l : List S53) (w : World) (hr : Kd.C k53 w A l.length l) (hc : l.length ≤ c) (hl : l.length ≤ 100) : Calls Try.prog 25 #[.int .i64 n, .slice A l.length c] w fun e w' => ∃ V cv, e = .returned (.tuple #[.slice V (encs n l).1.length cv, .int .i64 (encs n l).2]) ∧ Kd.C (Kd.int .u8) w' V (encs n l).1.length (encs n l).1 ∧ (encs n l).1.length ≤ cv ∧ Below w.heap.size w w' := by
  obtain ⟨K, hK⟩ := renc_f n l hl
  refine (reticuleref03_Encode.calls K n A c l (encs n l).1 (encs n l).2 w hr hc (hK K (Nat.le_refl _))).mono ?_
  rintro e w' ⟨v, rfl, hR, hb⟩
  obtain ⟨V, cv, rfl, h1, h2⟩ := C_of_R hR
  exact ⟨V, cv, rfl, h2, h1, hb⟩
theorem dec_ok (A : Option Addr) (c : Nat) (b : List Int) (w : World) (hr : Kd.C (Kd.int .u8) w A b.length b) (hc : b.length ≤ c) (hb : Byt b) (m i g : Int) (p : List S53) (hd : dec b = (m, p, i, g)) : Calls Try.prog 26 #[.slice A b.length c] w fun e w' => ∃ V cv, e = .returned (.tuple #[.int .i64 m, .slice V p.length cv, .int .i64 i, .int .i64 g]) ∧ Kd.C k53 w' V p.length p ∧ p.length ≤ cv ∧ Below w.heap.size w w' := by
  refine (graph_Decode.calls 200 A c b m p i g w hr hc (by rw [dec_f b hb 200 (by decide), hd])).mono ?_
  rintro e w' ⟨v, rfl, hR, hb⟩
  obtain ⟨V, cv, rfl, h1, h2⟩ := C_of_R hR
  exact ⟨V, cv, rfl, h2, h1, hb⟩
theorem rdec_ok (A : Option Addr) (c : Nat) (b : List Int) (w : World) (hr : Kd.C (Kd.int .u8) w A b.length b) (hc : b.length ≤ c) (hb : Byt b) (m i g : Int) (p : List S53) (hd : dec b = (m, p, i, g)) : Calls Try.prog 27 #[.slice A b.length c] w fun e w' => ∃ V cv, e = .returned (.tuple #[.int .i64 m, .slice V p.length cv, .int .i64 i, .int .i64 g]) ∧ Kd.C k53 w' V p.length p ∧ p.length ≤ cv ∧ Below w.heap.size w w' := by
  refine (reticuleref03_Decode.calls 200 A c b m p i g w hr hc (by rw [rdec_f b hb 200 (by decide), hd])).mono ?_
  rintro e w' ⟨v, rfl, hR, hb⟩
  obtain ⟨V, cv, rfl, h1, h2⟩ := C_of_R hR
  exact ⟨V, cv, rfl, h2, h1, hb⟩
theorem same_e (A1 A2 : Option Addr) (c1 c2 : Nat) (l : List S53) (w : World) (h1 : Kd.C k53 w A1 l.length l) (h2 : Kd.C k53 w A2 l.length l) (hc1 : l.length ≤ c1) (hc2 : l.length ≤ c2) (hl : l.length ≤ 1000) : Calls Try.prog 28 #[.slice A1 l.length c1, .slice A2 l.length c2] w fun e w' => e = .returned (.bool true) ∧ Below w.heap.size w w' := by
  refine (reticuleref03_SameEdges.calls 1101 A1 c1 l A2 c2 l true w h1 hc1 h2 hc2 (same_f l hl 1101 (by decide))).mono ?_
  rintro e w' ⟨rfl, hd⟩
  exact ⟨rfl, hd.below⟩
theorem dec_len (b : List Int) (hb : b.length ≤ 100) : (dec b).2.1.length ≤ 100 := by
  unfold dec
  split
  · simp
  · split
    · simp
    · split
      · simp
      · split
        · simp
        · exact Nat.le_trans (tl_len _ _ _ _) hb
set_option maxHeartbeats 4000000 in
theorem bytes_w (w : World) (n : Int) (wf : (Lit.int .i64 n).wf = true) (A : Option Addr) (c : Nat) (l : List S53) (hc : l.length ≤ c) (hr : Kd.C k53 w A l.length l) (hg : l.length ≤ maxLen ∧ ∀ x ∈ l, (Lit.int .i64 x.f0).wf = true ∧ (Lit.int .i64 x.f1).wf = true) (hs : l.length * 16 ≤ 140737488351232)
    (B : Option Addr) (cb : Nat) (b : List Int) (hcb : b.length ≤ cb) (hrb : Kd.C (Kd.int .u8) w B b.length b) (hgb : b.length ≤ maxLen ∧ ∀ x ∈ b, (Lit.int .u8 x).wf = true) (hsb : b.length * 1 ≤ 140737488351232) :
    Calls Try.prog 6 #[.int .i64 n, .slice A l.length c, .slice B b.length cb] w fun e w' => e = .returned (.bool true) ∧ Below w.heap.size w w' := by
  have hlt := List.length_take_le 32 l
  have hlc : (l.take 32).length ≤ c := by rw [List.length_take]; omega
  obtain ⟨l', hl'⟩ : ∃ l', l' = l.take 32 := ⟨_, rfl⟩
  have hr' := C_take hr
  rw [← hl'] at hr' hlt hlc
  have HR := Lib.hid hr'
  have HFEW := fun w => few_ok A c l w hc
  rw [← hl'] at HFEW
  obtain ⟨q1, hq1⟩ : ∃ q, q = (encs n l').1 := ⟨_, rfl⟩
  obtain ⟨q2, hq2⟩ : ∃ q, q = (encs n l').2 := ⟨_, rfl⟩
  have HE := fun w (h : Kd.C k53 w A l'.length l') => enc_ok n A c l' w h hlc (by omega)
  have HRE := fun w (h : Kd.C k53 w A l'.length l') => renc_ok n A c l' w h hlc (by omega)
  rw [← hq1, ← hq2] at HE HRE
  obtain ⟨i5, hi5, z5, s5, b5⟩ := info_parts info5
  have hby := byt_wf hgb.2
  by_cases hlong : 100 < b.length
  · have d0 : decide (100 < (b.length : Int)) = true := decide_eq_true (by omega)
    have d1 : decide (100 < b.length) = true := decide_eq_true hlong
    obtain ⟨b', hb'⟩ : ∃ b', b' = b.take 100 := ⟨_, rfl⟩
    have eb : b'.length = 100 := by rw [hb', List.length_take]; omega
    have hcu : (Instr.slice 42 (.slice B b.length cb) none (some (.int .i64 100)) none).run Try.prog = fun W => .ok (.slice B b'.length cb) W := by
      rw [eb]; exact funext (cut_to (P := Try.prog) 42 5 .i64 Try.underlying42 hi5 B b.length cb 100 (by decide) (by omega) hcb)
    have hct : ∀ W : World, (Instr.slice 42 (.slice B b.length cb) none (some (.int .i64 100)) none).run Try.prog W = .ok (.slice B b'.length cb) W := fun W => congrFun hcu W
    have hrb' := C_takeB 100 hrb
    rw [← hb'] at hrb'
    have HBY := Lib.hid (show Byt b' from fun x hx => hby x (List.mem_of_mem_take (hb' ▸ hx)))
    have hcb' : b'.length ≤ cb := by omega
    have hl1 : b'.length ≤ 100 := by omega
    have HRB := Lib.hid hrb'
    obtain ⟨⟨m, p, i, g⟩, hd⟩ : ∃ q, q = dec b' := ⟨_, rfl⟩
    have hpl : p.length ≤ 1000 := by have := dec_len b' hl1; rw [← hd] at this; simp only at this; omega
    have HD := Lib.hid hd
    clear hd hrb' hl1 hl' hq1 hq2 hby hr hr' hrb hg hgb hs hsb wf hb' eb hcu
    go_enter Try.func6, Try.ntmps6
    go_wp2_with fail
    with_reducible refine (HFEW _).mono ?_
    rintro e w1 ⟨rfl, rfl⟩
    go_wp2_with fail
    with_reducible refine (HE _ HR.out).mono ?_
    rintro e w2 ⟨V1, c1, rfl, h1, k1, hb⟩
    have HB2 := Lib.hid hb
    have HR2 := Lib.hid (Kd.C_below HR.out hb)
    have HX := Lib.hid h1
    have HRB2 := Lib.hid (Kd.C_below HRB.out hb)
    clear h1 hb
    go_wp2_with fail
    with_reducible refine (HFEW _).mono ?_
    rintro e w3 ⟨rfl, rfl⟩
    go_wp2_with fail
    with_reducible refine (HRE _ HR2.out).mono ?_
    rintro e w4 ⟨V2, c2, rfl, h1, k2, hb⟩
    have HB4 := Lib.hid (below_step HB2.out hb)
    have HX4 := Lib.hid (Kd.C_below HX.out hb)
    have HY4 := Lib.hid h1
    have HRB4 := Lib.hid (Kd.C_below HRB2.out hb)
    clear h1 hb
    go_wp2_with fail
    with_reducible refine (dec_ok B cb b' _ HRB4.out hcb' HBY.out m i g p HD.out.symm).mono ?_
    rintro e w5 ⟨V3, c3, rfl, h1, k3, hb⟩
    have HB5 := Lib.hid (below_step HB4.out hb)
    have HX5 := Lib.hid (Kd.C_below HX4.out hb)
    have HY5 := Lib.hid (Kd.C_below HY4.out hb)
    have HP5 := Lib.hid h1
    have HRB5 := Lib.hid (Kd.C_below HRB4.out hb)
    clear h1 hb
    go_wp2_with fail
    with_reducible refine (rdec_ok B cb b' _ HRB5.out hcb' HBY.out m i g p HD.out.symm).mono ?_
    rintro e w6 ⟨V4, c4, rfl, h1, k4, hb⟩
    have HB6 := Lib.hid (below_step HB5.out hb)
    have HX6 := Lib.hid (Kd.C_below HX5.out hb)
    have HY6 := Lib.hid (Kd.C_below HY5.out hb)
    have HP6 := Lib.hid (Kd.C_below HP5.out hb)
    have HQ6 := Lib.hid h1
    clear h1 hb
    go_wp2_with fail
    with_reducible refine (live_ok _).mono ?_
    rintro e w7 ⟨rfl, hb⟩
    have HB7 := Lib.hid (below_step HB6.out hb)
    have HP7 := Lib.hid (Kd.C_below HP6.out hb)
    have HQ7 := Lib.hid (Kd.C_below HQ6.out hb)
    have s1 : (convert 42 9 (.slice V1 q1.length c1)).run Try.prog w7 = .ok (.string (strOfNums q1)) w7 := Kd.C_string Try.underlying42 Try.underlying5 Try.underlying9 (Kd.C_below HX6.out hb)
    have s2 : (convert 42 9 (.slice V2 q1.length c2)).run Try.prog w7 = .ok (.string (strOfNums q1)) w7 := Kd.C_string Try.underlying42 Try.underlying5 Try.underlying9 (Kd.C_below HY6.out hb)
    clear hb
    go_wp2_with fail
    with_reducible refine (same_e V3 V4 c3 c4 p _ HP7.out HQ7.out k3 k4 hpl).mono ?_
    rintro e w8 ⟨rfl, hb⟩
    have HB8 := Lib.hid (below_step HB7.out hb)
    clear hb s1 s2
    go_wp2
    go_ret
    exact ⟨rfl, HB8.out⟩
  · have d0 : decide (100 < (b.length : Int)) = false := decide_eq_false (by omega)
    have d1 : decide (100 < b.length) = false := decide_eq_false hlong
    have hrb' := hrb
    have HBY := Lib.hid hby
    have hcb' := hcb
    have hl1 : b.length ≤ 100 := by omega
    have HRB := Lib.hid hrb'
    obtain ⟨⟨m, p, i, g⟩, hd⟩ : ∃ q, q = dec b := ⟨_, rfl⟩
    have hpl : p.length ≤ 1000 := by have := dec_len b hl1; rw [← hd] at this; simp only at this; omega
    have HD := Lib.hid hd
    clear hd hrb' hl1 hl' hq1 hq2 hby hr hr' hrb hg hgb hs hsb wf
    go_enter Try.func6, Try.ntmps6
    go_wp2_with fail
    with_reducible refine (HFEW _).mono ?_
    rintro e w1 ⟨rfl, rfl⟩
    go_wp2_with fail
    with_reducible refine (HE _ HR.out).mono ?_
    rintro e w2 ⟨V1, c1, rfl, h1, k1, hb⟩
    have HB2 := Lib.hid hb
    have HR2 := Lib.hid (Kd.C_below HR.out hb)
    have HX := Lib.hid h1
    have HRB2 := Lib.hid (Kd.C_below HRB.out hb)
    clear h1 hb
    go_wp2_with fail
    with_reducible refine (HFEW _).mono ?_
    rintro e w3 ⟨rfl, rfl⟩
    go_wp2_with fail
    with_reducible refine (HRE _ HR2.out).mono ?_
    rintro e w4 ⟨V2, c2, rfl, h1, k2, hb⟩
    have HB4 := Lib.hid (below_step HB2.out hb)
    have HX4 := Lib.hid (Kd.C_below HX.out hb)
    have HY4 := Lib.hid h1
    have HRB4 := Lib.hid (Kd.C_below HRB2.out hb)
    clear h1 hb
    go_wp2_with fail
    with_reducible refine (dec_ok B cb b _ HRB4.out hcb' HBY.out m i g p HD.out.symm).mono ?_
    rintro e w5 ⟨V3, c3, rfl, h1, k3, hb⟩
    have HB5 := Lib.hid (below_step HB4.out hb)
    have HX5 := Lib.hid (Kd.C_below HX4.out hb)
    have HY5 := Lib.hid (Kd.C_below HY4.out hb)
    have HP5 := Lib.hid h1
    have HRB5 := Lib.hid (Kd.C_below HRB4.out hb)
    clear h1 hb
    go_wp2_with fail
    with_reducible refine (rdec_ok B cb b _ HRB5.out hcb' HBY.out m i g p HD.out.symm).mono ?_
    rintro e w6 ⟨V4, c4, rfl, h1, k4, hb⟩
    have HB6 := Lib.hid (below_step HB5.out hb)
    have HX6 := Lib.hid (Kd.C_below HX5.out hb)
    have HY6 := Lib.hid (Kd.C_below HY5.out hb)
    have HP6 := Lib.hid (Kd.C_below HP5.out hb)
    have HQ6 := Lib.hid h1
    clear h1 hb
    go_wp2_with fail
    with_reducible refine (live_ok _).mono ?_
    rintro e w7 ⟨rfl, hb⟩
    have HB7 := Lib.hid (below_step HB6.out hb)
    have HP7 := Lib.hid (Kd.C_below HP6.out hb)
    have HQ7 := Lib.hid (Kd.C_below HQ6.out hb)
    have s1 : (convert 42 9 (.slice V1 q1.length c1)).run Try.prog w7 = .ok (.string (strOfNums q1)) w7 := Kd.C_string Try.underlying42 Try.underlying5 Try.underlying9 (Kd.C_below HX6.out hb)
    have s2 : (convert 42 9 (.slice V2 q1.length c2)).run Try.prog w7 = .ok (.string (strOfNums q1)) w7 := Kd.C_string Try.underlying42 Try.underlying5 Try.underlying9 (Kd.C_below HY6.out hb)
    clear hb
    go_wp2_with fail
    with_reducible refine (same_e V3 V4 c3 c4 p _ HP7.out HQ7.out k3 k4 hpl).mono ?_
    rintro e w8 ⟨rfl, hb⟩
    have HB8 := Lib.hid (below_step HB7.out hb)
    clear hb s1 s2
    go_wp2
    go_ret
    exact ⟨rfl, HB8.out⟩
end Go.Proofs.Ytkpaefeaplgnmaa.By
