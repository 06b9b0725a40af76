/- The walk of GraphTurned. -/
import Derived.Test.YtkpaefeaplgnmaaGraphV
set_option linter.unusedSimpArgs false
set_option linter.unusedVariables false
namespace Go.Proofs.Ytkpaefeaplgnmaa.G
open Go.RowKit Go.Proofs.Ytkpaefeaplgnmaa.PA Go.Proofs.Ytkpaefeaplgnmaa.Mp Go.Proofs.YtkpaefeaplgnmaaW.PrintWords Go.Proofs.YtkpaefeaplgnmaaW.PrintLast Go.Proofs.YtkpaefeaplgnmaaW.PrintMore

theorem swp_swp (l : List S53) : (l.map swp).map swp = l := by
  rw [List.map_map]
  conv => rhs; rw [← List.map_id l]
  exact List.map_congr_left (fun e _ => rfl)
theorem idxs_map (l : List S53) (f : S53 → S53) (p : S53 → Bool) : idxs (l.map f) p = idxs l (fun e => p (f e)) := by
  unfold idxs
  rw [List.length_map]
  congr 1
  apply List.filter_congr
  intro j _
  rw [List.getElem?_map]
  cases l[j]? <;> rfl
theorem outs_swp (l : List S53) (n v : Nat) (h : v < n) : outs true n (l.map swp) (v : Int) = rw_ l (.i v) := by
  rw [outs_at _ n v h]
  unfold rw_
  rw [idxs_map]
  rfl
theorem ins_swp (l : List S53) (n v : Nat) (h : v < n) : ins true n (l.map swp) (v : Int) = rw_ l (.o v) := by
  rw [ins_at _ n v h]
  unfold rw_
  rw [idxs_map]
  rfl
set_option maxHeartbeats 4000000 in
theorem turns_ok (w : World) (n : Int) (A : Option Addr) (c : Nat) (l : List S53) (hc : l.length ≤ c) (hr : Kd.C k53 w A l.length l) :
    Calls Try.prog 5 #[.int .i64 n, .slice A l.length c] w fun e w' => e = .returned (.bool true) ∧ Below w.heap.size w w' := by
  have hlt := List.length_take_le 32 l
  have hlc : (l.take 32).length ≤ c := by rw [List.length_take]; omega
  obtain ⟨l', hl'⟩ : ∃ l', l' = l.take 32 := ⟨_, rfl⟩
  have hr' := C_take hr
  rw [← hl'] at hr' hlt hlc
  have HR := Lib.hid hr'
  have HFEW := fun w => few_ok A c l w hc
  rw [← hl'] at HFEW
  clear hr hr' hl'
  cases hok : okG n l' with
  | false =>
    have HOK := Lib.hid hok
    clear hok
    go_enter Try.func5, Try.ntmps5
    go_wp2_with fail
    with_reducible refine (HFEW _).mono ?_
    rintro e w1 ⟨rfl, rfl⟩
    go_wp2_with fail
    with_reducible refine (new_no n A c l' _ HR.out (by omega) HOK.out).mono ?_
    rintro e w2 ⟨rfl, hb⟩
    have HB := Lib.hid hb
    clear hb
    go_wp2_with fail
    with_reducible refine (live_ok _).mono ?_
    rintro e w3 ⟨rfl, hb⟩
    have HB3 := Lib.hid (below_step HB.out hb)
    clear hb
    go_wp2
    go_ret
    exact ⟨rfl, HB3.out⟩
  | true =>
    obtain ⟨N, rfl, hf, hck⟩ := ok_fits hok
    have HF := Lib.hid hf
    have HCK := Lib.hid hck
    have h30 := hf.few
    have h12 := hf.top
    clear hf hck hok
    go_enter Try.func5, Try.ntmps5
    go_wp2_with fail
    with_reducible refine (HFEW _).mono ?_
    rintro e w1 ⟨rfl, rfl⟩
    go_wp2_with fail
    with_reducible refine (new_ok N A c l' _ HR.out HF.out HCK.out).mono ?_
    rintro e w1 ⟨g, rfl, hgl, hg, hb⟩
    have HR1 := Lib.hid (Kd.C_below HR.out hb)
    have HB1 := Lib.hid hb
    have HG := Lib.hid hg
    clear hb hg
    go_wp2_with fail
    with_reducible refine (turned_ok g N l' _ HG.out HF.out).mono ?_
    rintro e w2 ⟨t, rfl, ht, hb⟩
    have HT := Lib.hid ht
    have HG2 := Lib.hid (HG.out.below hb)
    have HB2 := Lib.hid (below_step HB1.out hb)
    have HR2 := Lib.hid (Kd.C_below HR1.out hb)
    clear ht hb
    go_wp2
    go_loopw [7] (fun v7 wr => ∃ v : Nat, v ≤ N ∧ v7 = .int .i64 v ∧ Below w2.heap.size w2 wr) (fun v7 _ => N - (intOf v7).toNat)
    case atStart => exact ⟨0, Nat.zero_le _, rfl, Below.refl _ _⟩
    case round =>
      obtain ⟨v, hv, rfl, hb⟩ := hrel
      have HB := Lib.hid hb
      clear hb
      go_wp2_with fail
      with_reducible refine (n_ok g N l' _ (HG2.out.below HB.out)).mono ?_
      rintro e w3 ⟨rfl, hb⟩
      have HB3 := Lib.hid (below_step HB.out hb)
      clear hb HB
      by_cases hvn : v < N
      · have dv : decide ((v : Int) < (N : Int)) = true := decide_eq_true (by omega)
        go_wp2_with fail
        with_reducible refine (out_ok true _ N (l'.map swp) v _ (Gn.of (HT.out.below HB3.out)) (by simp; omega)).mono ?_
        rintro e w4 ⟨x4, rfl, hx, hb⟩
        rw [outs_swp l' N v hvn] at hx
        have HX4 := Lib.hid hx
        have HB4 := Lib.hid (below_step HB3.out hb)
        clear hx hb
        go_wp2_with fail
        with_reducible refine (in_ok true _ N l' v _ (Gn.of (HG2.out.below HB4.out)) (by omega)).mono ?_
        rintro e w5 ⟨x5, rfl, hx, hb⟩
        rw [ins_at l' N v hvn] at hx
        have HX5 := Lib.hid hx
        have HX4b := Lib.hid (Kd.R_below HX4.out hb)
        have HB5 := Lib.hid (below_step HB4.out hb)
        clear hx hb
        go_wp2_with fail
        with_reducible refine (sameI HX4b.out HX5.out).mono ?_
        rintro e w6 ⟨rfl, hb⟩
        have HB6 := Lib.hid (below_step HB5.out hb)
        clear hb HX4 HX5 HX4b HB3 HB4 HB5
        go_wp2_with fail
        with_reducible refine (in_ok true _ N (l'.map swp) v _ (Gn.of (HT.out.below HB6.out)) (by simp; omega)).mono ?_
        rintro e w7 ⟨x7, rfl, hx, hb⟩
        rw [ins_swp l' N v hvn] at hx
        have HX7 := Lib.hid hx
        have HB7 := Lib.hid (below_step HB6.out hb)
        clear hx hb
        go_wp2_with fail
        with_reducible refine (out_ok true _ N l' v _ (Gn.of (HG2.out.below HB7.out)) (by omega)).mono ?_
        rintro e w8 ⟨x8, rfl, hx, hb⟩
        rw [outs_at l' N v hvn] at hx
        have HX8 := Lib.hid hx
        have HX7b := Lib.hid (Kd.R_below HX7.out hb)
        have HB8 := Lib.hid (below_step HB7.out hb)
        clear hx hb
        go_wp2_with fail
        with_reducible refine (sameI HX7b.out HX8.out).mono ?_
        rintro e w9 ⟨rfl, hb⟩
        have HB9 := Lib.hid (below_step HB8.out hb)
        clear hb HX7 HX8 HX7b HB6 HB7 HB8
        go_wp2
        go_roundw
        case rel => exact ⟨v + 1, by omega, by go_num, HB9.out⟩
        case measure => simp [intOf]; omega
      · have dv : decide ((v : Int) < (N : Int)) = false := decide_eq_false (by omega)
        go_wp2_with fail
        with_reducible refine (live_ok _).mono ?_
        rintro e w4 ⟨rfl, hb⟩
        have HB4 := Lib.hid (below_step HB3.out hb)
        clear hb HB3
        go_wp2_with fail
        with_reducible refine (turned_ok t N (l'.map swp) _ (HT.out.below HB4.out) (fits_swp HF.out)).mono ?_
        rintro e w5 ⟨g5, rfl, hg, hb⟩
        rw [swp_swp] at hg
        have HG5 := Lib.hid hg
        have HB5 := Lib.hid (below_step HB4.out hb)
        have HR5 := Lib.hid (Kd.C_below HR2.out HB5.out)
        clear hg hb HB4
        go_wp2_with fail
        with_reducible refine (rnew_ok N A c l' _ HR5.out hlc (by omega) HCK.out).mono ?_
        rintro e w6 ⟨w0, gr, rfl, hb, hi, hb0⟩
        have HST := Lib.hid (St.made HG5.out hb hi hb0 HF.out)
        have HB0 := Lib.hid (below_step HB5.out hb)
        clear hb hi hb0 HG5
        go_wp2_with fail
        with_reducible refine (same_ok w0 w6 true _ _ N gr l' (by omega) HST.out).mono ?_
        rintro e w7 ⟨rfl, hb⟩
        have HB7 := Lib.hid (below_step HB0.out hb)
        have HR7 := Lib.hid (Kd.C_below HR2.out HB7.out)
        clear hb HST HB0
        go_wp2_with fail
        with_reducible refine (rnew_ok N A c l' _ HR7.out hlc (by omega) HCK.out).mono ?_
        rintro e w8 ⟨w0b, gr2, rfl, hb, hi, hb0⟩
        have HI := Lib.hid hi
        have HBI := Lib.hid hb0
        have HB8 := Lib.hid (below_step (below_step HB7.out hb) hb0)
        clear hb hi hb0
        go_wp2_with fail
        with_reducible refine (rturned_ok w0b w8 gr2 N l' HI.out HBI.out (by omega)).mono ?_
        rintro e w9 ⟨w0c, gr3, rfl, hb, hi, hb0⟩
        have hb8 := below_step HB8.out hb
        have HST2 := Lib.hid (St.made HT.out hb8 hi hb0 (fits_swp HF.out))
        have HB9 := Lib.hid hb8
        clear hb hi hb0 hb8
        go_wp2_with fail
        with_reducible refine (same_ok w0c w9 true _ _ N gr3 (l'.map swp) (by simp; omega) HST2.out).mono ?_
        rintro e w10 ⟨rfl, hb⟩
        have HB10 := Lib.hid (below_step HB2.out (below_step HB9.out hb))
        clear hb
        go_wp2
        go_ret
        exact ⟨rfl, HB10.out⟩
theorem turns_w (w : World) (n : Int) (wf : (Lit.int .i64 n).wf = true) (A : Option Addr) (c : Nat) (l : List S53) (hc : l.length ≤ c) (hr : Kd.C k53 w A l.length l) (hg : l.length ≤ maxLen ∧ ∀ x ∈ l, (Lit.int .i64 x.f0).wf = true ∧ (Lit.int .i64 x.f1).wf = true) (hs : l.length * 16 ≤ 140737488351232) :
    Calls Try.prog 5 #[.int .i64 n, .slice A l.length c] w fun e w' => e = .returned (.bool true) ∧ Below w.heap.size w w' := turns_ok w n A c l hc hr
end Go.Proofs.Ytkpaefeaplgnmaa.G
