/- The walk of GraphPlays. -/
import Derived.Test.YtkpaefeaplgnmaaGraphS
set_option linter.unusedSimpArgs false
set_option linter.unusedVariables false
namespace Go.Proofs.Ytkpaefeaplgnmaa.G
open Go.RowKit Go.Proofs.Ytkpaefeaplgnmaa.PA Go.Proofs.Ytkpaefeaplgnmaa.Mp Go.Proofs.YtkpaefeaplgnmaaW.PrintWords Go.Proofs.YtkpaefeaplgnmaaW.PrintLast Go.Proofs.YtkpaefeaplgnmaaW.PrintMore

theorem rcheck (n : Int) (A : Option Addr) (c : Nat) (l : List S53) (w : World) (hr : Kd.C k53 w A l.length l) (hc : l.length ≤ c) (hl : l.length ≤ 100) :
    Calls Try.prog 19 #[.int .i64 n, .slice A l.length c] w fun e w' => e = .returned (.tuple #[.int .i64 (chk n l).1, .int .i64 (chk n l).2]) ∧ Below w.heap.size w w' := by
  obtain ⟨k, hk⟩ := ref_chk n l hl
  refine (reticuleref03_Check.calls k n A c l _ _ w hr hc hk).mono ?_
  rintro e w' ⟨rfl, hd⟩
  exact ⟨rfl, hd.below⟩
theorem rnew_no (n : Int) (A : Option Addr) (c : Nat) (l : List S53) (w : World) (hr : Kd.C k53 w A l.length l) (hc : l.length ≤ c) (hl : l.length ≤ 100) (h : okG n l = false) :
    Calls Try.prog 20 #[.int .i64 n, .slice A l.length c] w fun e w' => e = .returned (.pointer none) ∧ Below w.heap.size w w' := by
  have H := Lib.hid (ok_err h)
  have HR := Lib.hid hr
  clear h hr
  go_enter Try.func20, Try.ntmps20
  go_wp2_with fail
  refine (rcheck n A c l _ HR.out hc hl).mono ?_
  rintro e w1 ⟨rfl, hb1⟩
  rw [H.out]
  have HB := Lib.hid hb1
  clear hb1
  go_wp2
  go_ret
  exact ⟨rfl, HB.out⟩
set_option maxHeartbeats 1000000 in
theorem rnew_ok (n : Nat) (A : Option Addr) (c : Nat) (l : List S53) (w : World) (hr : Kd.C k53 w A l.length l) (hc : l.length ≤ c) (hl : l.length ≤ 100) (h : chk n l = (0, 0)) :
    Calls Try.prog 20 #[.int .i64 n, .slice A l.length c] w fun e w' => ∃ w0 g, e = .returned (.pointer (some ⟨g, 0, none⟩)) ∧ Below w.heap.size w w0 ∧ IsS66 w0 w' g n l ∧ Below w0.heap.size w0 w' := by
  have H := Lib.hid h
  have HR := Lib.hid hr
  clear h hr
  go_enter Try.func20, Try.ntmps20
  go_wp2_with fail
  refine (rcheck n A c l _ HR.out hc hl).mono ?_
  rintro e w1 ⟨rfl, hb1⟩
  rw [H.out]
  have HB := Lib.hid hb1
  have HR1 := Lib.hid (Kd.C_below HR.out hb1)
  clear hb1
  go_wp2_with (at_builtin; refine Kd.R_append_rows k53 (Rr := k53.K (w1.alloc (.cells #[] 53))) (w0 := w1) w1.heap.size rfl (.tmp 16) (.tmp 17) 22 53 _ 16 rfl Try.underlying22 info53 rfl (by decide) (by decide) (.slice (some ⟨w1.heap.size, 0, none⟩) 0 0) [] l A l.length c (fun _ => True) (fun _ => False) rfl rfl (R_empty k53 53 w1 w1.heap.size (Nat.le_refl _)) ?c1 ?c2 (fun k h => h.elim) (fun _ _ => trivial) ((Below.refl _ _).alloc (Nat.le_refl _) _) (by simp) ?c3 ?_; (case c1 => exact Kd.C_below HR1.out ((Below.refl _ _).alloc (Nat.le_refl _) _)); (case c2 => (intro x cs h; rw [k53_open h]; exact k53_mkM _ _ _ _)); (case c3 => (simp; omega)); intro v1 w2 h1 hb2 _ _; rw [List.nil_append] at h1; obtain ⟨A2, c2, rfl, hc2, hC2⟩ := C_of_R h1; have H1 := Lib.hid hC2; have HB2 := Lib.hid hb2; clear h1 hb2 hC2)
  go_ret
  exact ⟨w2, w2.heap.size, rfl, below_step HB.out HB2.out, IsS66.new w2 w2 A2 c2 n l (Below.refl _ _) H1.out, (Below.refl _ _).alloc (Nat.le_refl _) _⟩
theorem St.none_ (w : World) (n : Nat) (l : List S53) : St w w false none none n l 0 := ⟨fun e => (by cases e), Below.refl _ _, fun _ => ⟨rfl, rfl⟩, fun e => (by cases e), fun e => (by cases e)⟩
theorem St.made {w1 w0 w : World} {g gr n : Nat} {l : List S53} (hg : IsG w1 g n l) (hb : Below w1.heap.size w1 w0) (hi : IsS66 w0 w gr n l) (hb0 : Below w0.heap.size w0 w) (hf : Fits n l) : St w0 w true (some ⟨g, 0, none⟩) (some ⟨gr, 0, none⟩) n l gr :=
  ⟨fun _ => hi.lt, hb0, fun e => (by cases e), fun _ => ⟨g, rfl, rfl, hg.below hb, hi⟩, fun _ => hf⟩
set_option maxHeartbeats 4000000 in
theorem plays_ok (w : World) (n : Int) (A : Option Addr) (c : Nat) (l : List S53) (hc : l.length ≤ c) (hr : Kd.C k53 w A l.length l) :
    Calls Try.prog 4 #[.int .i64 n, .slice A l.length c] w fun e w' => e = .returned (.bool true) ∧ Below w.heap.size w w' := by
  have hlt := List.length_take_le 32 l
  have hlc : (l.take 32).length ≤ c := by rw [List.length_take]; omega
  obtain ⟨l', hl'⟩ : ∃ l', l' = l.take 32 := ⟨_, rfl⟩
  have hr' := C_take hr
  rw [← hl'] at hr' hlt hlc
  have HR := Lib.hid hr'
  have HFEW := fun w => few_ok A c l w hc
  rw [← hl'] at HFEW
  clear hr hr' hl'
  obtain ⟨q1, hq1⟩ : ∃ q, q = (chk n l').1 := ⟨_, rfl⟩
  obtain ⟨q2, hq2⟩ : ∃ q, q = (chk n l').2 := ⟨_, rfl⟩
  have HCK := fun w (h : Kd.C k53 w A l'.length l') => check_ok n A c l' w h (by omega)
  have HRK := fun w (h : Kd.C k53 w A l'.length l') => rcheck n A c l' w h hlc (by omega)
  rw [← hq1, ← hq2] at HCK HRK
  clear hq1 hq2
  cases hok : okG n l' with
  | false =>
    have HOK := Lib.hid hok
    clear hok
    go_enter Try.func4, Try.ntmps4
    go_wp2_with fail
    with_reducible refine (HFEW _).mono ?_
    rintro e w1 ⟨rfl, rfl⟩
    go_wp2_with fail
    with_reducible refine (HCK _ HR.out).mono ?_
    rintro e w2 ⟨rfl, hb⟩
    have HB2 := Lib.hid hb
    have HR2 := Lib.hid (Kd.C_below HR.out hb)
    clear hb
    go_wp2_with fail
    with_reducible refine (HRK _ HR2.out).mono ?_
    rintro e w3 ⟨rfl, hb⟩
    have HB3 := Lib.hid (below_step HB2.out hb)
    have HR3 := Lib.hid (Kd.C_below HR2.out hb)
    clear hb
    go_wp2_with fail
    with_reducible refine (new_no n A c l' _ HR3.out (by omega) HOK.out).mono ?_
    rintro e w4 ⟨rfl, hb⟩
    have HB4 := Lib.hid (below_step HB3.out hb)
    have HR4 := Lib.hid (Kd.C_below HR3.out hb)
    clear hb
    go_wp2_with fail
    with_reducible refine (rnew_no n A c l' _ HR4.out hlc (by omega) HOK.out).mono ?_
    rintro e w5 ⟨rfl, hb⟩
    have HB5 := Lib.hid (below_step HB4.out hb)
    clear hb
    go_wp2_with fail
    with_reducible refine (live_ok _).mono ?_
    rintro e w6 ⟨rfl, hb⟩
    have HB6 := Lib.hid (below_step HB5.out hb)
    clear hb
    go_wp2_with fail
    with_reducible refine (same_ok w6 w6 false none none 0 0 [] (by decide) (St.none_ _ _ _)).mono ?_
    rintro e w7 ⟨rfl, hb⟩
    have HB7 := Lib.hid (below_step HB6.out hb)
    clear hb
    go_wp2
    go_ret
    exact ⟨rfl, HB7.out⟩
  | true =>
    obtain ⟨N, rfl, hf, hck⟩ := ok_fits hok
    have HF := Lib.hid hf
    have HCK0 := Lib.hid hck
    clear hf hck hok
    go_enter Try.func4, Try.ntmps4
    go_wp2_with fail
    with_reducible refine (HFEW _).mono ?_
    rintro e w1 ⟨rfl, rfl⟩
    go_wp2_with fail
    with_reducible refine (HCK _ HR.out).mono ?_
    rintro e w2 ⟨rfl, hb⟩
    have HB2 := Lib.hid hb
    have HR2 := Lib.hid (Kd.C_below HR.out hb)
    clear hb
    go_wp2_with fail
    with_reducible refine (HRK _ HR2.out).mono ?_
    rintro e w3 ⟨rfl, hb⟩
    have HB3 := Lib.hid (below_step HB2.out hb)
    have HR3 := Lib.hid (Kd.C_below HR2.out hb)
    clear hb
    go_wp2_with fail
    with_reducible refine (new_ok N A c l' _ HR3.out HF.out HCK0.out).mono ?_
    rintro e w4 ⟨g, rfl, hgl, hg, hb⟩
    have HB4 := Lib.hid (below_step HB3.out hb)
    have HR4 := Lib.hid (Kd.C_below HR3.out hb)
    have HG := Lib.hid hg
    clear hb hg
    go_wp2_with fail
    with_reducible refine (rnew_ok N A c l' _ HR4.out hlc (by omega) HCK0.out).mono ?_
    rintro e w5 ⟨w0, gr, rfl, hb, hi, hb0⟩
    have HST := Lib.hid (St.made HG.out hb hi hb0 HF.out)
    have HB0 := Lib.hid (below_step HB4.out hb)
    clear hb hi hb0
    go_wp2_with fail
    with_reducible refine (live_ok _).mono ?_
    rintro e w6 ⟨rfl, hb⟩
    have HST6 := Lib.hid (HST.out.below hb)
    clear hb
    go_wp2_with fail
    with_reducible refine (same_ok w0 w6 true _ _ N gr l' (by omega) HST6.out).mono ?_
    rintro e w7 ⟨rfl, hb⟩
    have HB7 := Lib.hid (below_step HB0.out hb)
    clear hb
    go_wp2
    go_ret
    exact ⟨rfl, HB7.out⟩
theorem plays_w (w : World) (n : Int) (wf : (Lit.int .i64 n).wf = true) (A : Option Addr) (c : Nat) (l : List S53) (hc : l.length ≤ c) (hr : Kd.C k53 w A l.length l) (hg : l.length ≤ maxLen ∧ ∀ x ∈ l, (Lit.int .i64 x.f0).wf = true ∧ (Lit.int .i64 x.f1).wf = true) (hs : l.length * 16 ≤ 140737488351232) :
    Calls Try.prog 4 #[.int .i64 n, .slice A l.length c] w fun e w' => e = .returned (.bool true) ∧ Below w.heap.size w w' := plays_ok w n A c l hc hr
end Go.Proofs.Ytkpaefeaplgnmaa.G
