/- show.Print, show.Pretty: the walks, in the print's own form. -/
import Derived.Test.YtldjbgonlbmeaaaDoorBsa
import Derived.Test.YtldjbgonlbmeaaaDoorPBx2
set_option linter.unusedSimpArgs false
set_option linter.unusedVariables false
namespace Go.Proofs.YtldjbgonlbmeaaaDoor.T
open Go.RowKit Go.Proofs.YtldjbgonlbmeaaaDoor.PA Go.Proofs.YtldjbgonlbmeaaaDoor.PB Go.Proofs.YtldjbgonlbmeaaaDoorW.PrintWords Go.Proofs.YtldjbgonlbmeaaaDoorW.PrintLast Go.Proofs.YtldjbgonlbmeaaaDoorW.PrintMore
def PL (l : List Fm) (top : List Int) : List UInt8 := top.flatMap fun t => flatL l t ++ [10]
def YL (l : List Fm) (top : List Int) : List UInt8 := top.flatMap fun t => fr l l.length t 1 ++ [10]
def show_Print.f (k : Nat) (l : List Fm) (top : List Int) : Option (ByteArray × Int) := (tree_Right.f k l top).bind fun b => if b = true then (if Okl l = true ∧ (PL l top).length ≤ 70368744177664 then some (⟨(PL l top).toArray⟩, 0) else none) else some (⟨#[]⟩, 3)
theorem show_Print.mono : ∀ a0 a1 k, LeO (show_Print.f k a0 a1) (show_Print.f (k + 1) a0 a1) := fun a0 a1 k => LeO.bind (tree_Right.mono a0 a1 k) (fun _ => LeO.refl _)
set_option maxRecDepth 100000 in
set_option maxHeartbeats 4000000 in
theorem show_Print.calls (k : Nat) (A0 : Option Addr) (c0 : Nat) (l0 : List Fm) (A1 : Option Addr) (c1 : Nat) (l1 : List Int) (r1 : ByteArray) (r2 : Int) (w : World) (hr0 : Kd.C kFm w A0 l0.length l0) (hc0 : l0.length ≤ c0) (hr1 : Kd.C (Kd.int .i64) w A1 l1.length l1) (hc1 : l1.length ≤ c1) (h : show_Print.f k l0 l1 = some (r1, r2)) :
  Calls Tryd.prog 7 #[.slice A0 l0.length c0, .slice A1 l1.length c1] w fun e w' => e = .returned (.tuple #[.string r1, .int .i64 r2]) ∧ Below w.heap.size w w' := by
 unfold show_Print.f at h
 cases hb : tree_Right.f k l0 l1 with
 | none => rw [hb] at h; cases h
 | some b =>
  rw [hb] at h
  have h' : (if b = true then (if Okl l0 = true ∧ (PL l0 l1).length ≤ 70368744177664 then some ((⟨(PL l0 l1).toArray⟩ : ByteArray), (0 : Int)) else none) else some (⟨#[]⟩, 3)) = some (r1, r2) := h
  clear h
  have hright := tree_Right.calls k A0 c0 l0 A1 c1 l1 b w hr0 hc0 hr1 hc1 hb
  have HRI := Lib.hid hright
  have HC := Lib.hid hr0
  have HT := Lib.hid hr1
  have htl : l1.length ≤ 9223372036854775807 := hr1.2.1
  clear hb hright hr0 hr1
  cases b with
  | false =>
   rw [if_neg (by decide)] at h'
   injection h' with h'
   injection h' with h1 h2
   have H1 := Lib.hid h1
   have H2 := Lib.hid h2
   clear h1 h2
   go_enter Tryd.func7, Tryd.ntmps7
   go_wp2_with (go_at_call 18; refine HRI.out.mono ?_; rintro e W1 ⟨rfl, hb1⟩; have HB1 := Lib.hid hb1; clear hb1)
   go_ret2
   rw [← H1.out, ← H2.out]
   exact ⟨rfl, HB1.out⟩
  | true =>
   rw [if_pos rfl] at h'
   by_cases hok : Okl l0 = true ∧ (PL l0 l1).length ≤ 70368744177664
   ·rw [if_pos hok] at h'
    injection h' with h'
    injection h' with h1 h2
    obtain ⟨hmx, hlen⟩ := hok
    have hM := Okl.mx hmx
    obtain ⟨T, hT⟩ : ∃ T, T = PL l0 l1 := ⟨_, rfl⟩
    rw [← hT] at h1 hlen
    have H1 := Lib.hid h1
    have H2 := Lib.hid h2
    have HTT := Lib.hid hT
    clear h1 h2 hT hmx
    go_enter Tryd.func7, Tryd.ntmps7
    go_wp2_with (go_at_call 18; refine HRI.out.mono ?_; rintro e W1 ⟨rfl, hb1⟩; have HB1 := Lib.hid hb1; clear hb1)
    have hs1 := HB1.out.size
    have hbl0 : Bl (W1.alloc (.cells #[.pointer none, .slice none 0 0] 39)) w.heap.size W1.heap.size [] := Bl.new hs1
    have hw0 : Below w.heap.size w (W1.alloc (.cells #[.pointer none, .slice none 0 0] 39)) := HB1.out.alloc hs1 _
    generalize W1.alloc (.cells #[.pointer none, .slice none 0 0] 39) = W2 at hbl0 hw0 ⊢
    have HBL0 := Lib.hid hbl0
    have HW0 := Lib.hid hw0
    clear hbl0 hw0
    go_loopw [17] (fun v17 wr => ∃ (i : Nat) (o : List UInt8), i ≤ l1.length ∧ v17 = .int .i64 i ∧ Bl wr w.heap.size W1.heap.size o ∧ Below w.heap.size w wr ∧ o ++ PL l0 (l1.drop i) = T) (fun v17 _ => l1.length - (intOf v17).toNat)
    case atStart => exact ⟨0, [], Nat.zero_le _, rfl, HBL0.out, HW0.out, HTT.out.symm⟩
    case round =>
     obtain ⟨i, o, hi, rfl, hbl, hbw, hE⟩ := hrel
     have HBL := Lib.hid hbl
     have HBW := Lib.hid hbw
     have hsz := hbw.size
     clear hbl hbw
     by_cases hil : i < l1.length
     ·obtain ⟨ad3, rfl, q0⟩ := int_at HT.out hil
      have q1 := (HBW.out.cell (World.block_lt_of_cell? w _ q0)).trans q0
      have hdr : l1.drop i = l1[i] :: l1.drop (i + 1) := List.drop_eq_getElem_cons hil
      obtain ⟨t, ht⟩ : ∃ t, t = l1[i] := ⟨_, rfl⟩
      rw [← ht] at q1 hdr
      have hE2 : o ++ flatL l0 t ++ [10] ++ PL l0 (l1.drop (i + 1)) = T := by rw [← hE, hdr]; simp [PL]
      have hlen1 : o.length + (flatL l0 t).length + 1 ≤ T.length := by rw [← hE2]; simp; omega
      have hszf : (oneS l0 t).1.size = (flatL l0 t).length := by unfold flatL; rw [Array.length_toList]; rfl
      have HSZ := Lib.hid hszf
      have HE2 := Lib.hid hE2
      have e1 : decide (i < l1.length) = true := decide_eq_true hil
      have e1' : decide ((i : Int) < (l1.length : Int)) = true := decide_eq_true (by omega)
      clear hdr ht q0 hE hE2 hszf
      go_wp2_with (first | (go_at_call 9; refine (One_ok l0 A0 c0 t 16777216 wr (Kd.C_below HC.out HBW.out) hM (by decide)).mono ?_; rintro e W3 ⟨rfl, hb3⟩; have h3 := HBL.out.below hb3; have hw3 := below_then HBW.out hsz hb3; have H3 := Lib.hid h3; have HW3 := Lib.hid hw3; clear h3 hw3 hb3) | (go_at_call 19; refine (str_ok w.heap.size W1.heap.size o (oneS l0 t).1 _ H3.out (by rw [HSZ.out]; omega) HW3.out.size).mono ?_; rintro e W4 ⟨⟨v, rfl⟩, h4, hw4, _⟩; have H4 := Lib.hid h4; have HW4 := Lib.hid (HW3.out.trans hw4); clear h4 hw4) | (go_at_call 20; refine (byte_ok w.heap.size W1.heap.size _ 10 _ H4.out (by have := HSZ.out; unfold flatL at hlen1; simp at *; omega) HW4.out.size).mono ?_; rintro e W5 ⟨rfl, h5, hw5, _⟩; have H5 := Lib.hid h5; have HW5 := Lib.hid (HW4.out.trans hw5); clear h5 hw5))
      go_roundw
      case rel => exact ⟨i + 1, _, by omega, by go_num, H5.out, HW5.out, HE2.out⟩
      case measure => simp [intOf]; omega
     ·have hie : i = l1.length := by omega
      have e1 : decide (i < l1.length) = false := decide_eq_false hil
      have e1' : decide ((i : Int) < (l1.length : Int)) = false := decide_eq_false (by omega)
      rw [hie, List.drop_length] at hE
      have hE2 : o = T := by simpa [PL] using hE
      subst hE2
      clear hE hie
      go_wp2_with (go_at_call 21; refine (string_ok w.heap.size W1.heap.size o _ HBL.out hsz).mono ?_; rintro e W5 ⟨rfl, _, hb5, _⟩; have H5 := Lib.hid hb5; clear hb5)
      go_ret2
      rw [← H1.out, ← H2.out]
      exact ⟨rfl, HBW.out.trans H5.out⟩
   ·rw [if_neg hok] at h'; cases h'
def Tin (l : List Fm) (top : List Int) : Prop := ∀ t ∈ top, 0 ≤ t ∧ t < (l.length : Int)
instance (l : List Fm) (top : List Int) : Decidable (Tin l top) := inferInstanceAs (Decidable (∀ t ∈ top, 0 ≤ t ∧ t < (l.length : Int)))
abbrev PrettyOk (l : List Fm) (top : List Int) : Prop := Okl l = true ∧ Kin l ∧ Tin l top ∧ l.length ≤ 400 ∧ (YL l top).length ≤ 70368744177664
def show_Pretty.f (k : Nat) (l : List Fm) (top : List Int) : Option (ByteArray × Int) := (tree_Right.f k l top).bind fun b => if b = true then (if PrettyOk l top then some (⟨(YL l top).toArray⟩, 0) else none) else some (⟨#[]⟩, 3)
theorem show_Pretty.mono : ∀ a0 a1 k, LeO (show_Pretty.f k a0 a1) (show_Pretty.f (k + 1) a0 a1) := fun a0 a1 k => LeO.bind (tree_Right.mono a0 a1 k) (fun _ => LeO.refl _)
set_option maxRecDepth 100000 in
set_option maxHeartbeats 4000000 in
theorem show_Pretty.calls (k : Nat) (A0 : Option Addr) (c0 : Nat) (l0 : List Fm) (A1 : Option Addr) (c1 : Nat) (l1 : List Int) (r1 : ByteArray) (r2 : Int) (w : World) (hr0 : Kd.C kFm w A0 l0.length l0) (hc0 : l0.length ≤ c0) (hr1 : Kd.C (Kd.int .i64) w A1 l1.length l1) (hc1 : l1.length ≤ c1) (h : show_Pretty.f k l0 l1 = some (r1, r2)) :
  Calls Tryd.prog 11 #[.slice A0 l0.length c0, .slice A1 l1.length c1] w fun e w' => e = .returned (.tuple #[.string r1, .int .i64 r2]) ∧ Below w.heap.size w w' := by
 unfold show_Pretty.f at h
 cases hb : tree_Right.f k l0 l1 with
 | none => rw [hb] at h; cases h
 | some b =>
  rw [hb] at h
  have h' : (if b = true then (if PrettyOk l0 l1 then some ((⟨(YL l0 l1).toArray⟩ : ByteArray), (0 : Int)) else none) else some (⟨#[]⟩, 3)) = some (r1, r2) := h
  clear h
  have hright := tree_Right.calls k A0 c0 l0 A1 c1 l1 b w hr0 hc0 hr1 hc1 hb
  have HRI := Lib.hid hright
  have HC := Lib.hid hr0
  have HT := Lib.hid hr1
  have htl : l1.length ≤ 9223372036854775807 := hr1.2.1
  clear hb hright hr0 hr1
  cases b with
  | false =>
   rw [if_neg (by decide)] at h'
   injection h' with h'
   injection h' with h1 h2
   have H1 := Lib.hid h1
   have H2 := Lib.hid h2
   clear h1 h2
   go_enter Tryd.func11, Tryd.ntmps11
   go_wp2_with (go_at_call 18; refine HRI.out.mono ?_; rintro e W1 ⟨rfl, hb1⟩; have HB1 := Lib.hid hb1; clear hb1)
   go_ret2
   rw [← H1.out, ← H2.out]
   exact ⟨rfl, HB1.out⟩
  | true =>
   rw [if_pos rfl] at h'
   by_cases hok : PrettyOk l0 l1
   ·rw [if_pos hok] at h'
    injection h' with h'
    injection h' with h1 h2
    obtain ⟨hmx, hkin, htin, hn4, hlen⟩ := hok
    have hM := Okl.mx hmx
    obtain ⟨T, hT⟩ : ∃ T, T = YL l0 l1 := ⟨_, rfl⟩
    rw [← hT] at h1 hlen
    have hfr := form_ok (w := w) (Bp := 0) (c := c0) HC.out hM (by decide) hkin l0.length
    clear hfr
    have H1 := Lib.hid h1
    have H2 := Lib.hid h2
    have HTT := Lib.hid hT
    have HTI := Lib.hid htin
    have HKI := Lib.hid hkin
    clear h1 h2 hT hmx htin hkin
    go_enter Tryd.func11, Tryd.ntmps11
    go_wp2_with (go_at_call 18; refine HRI.out.mono ?_; rintro e W1 ⟨rfl, hb1⟩; have HB1 := Lib.hid hb1; clear hb1)
    have hs1 := HB1.out.size
    have hly0 : Ly w (W1.alloc (.cells #[.slice A0 l0.length c0, .pointer none, .slice none 0 0] 55)) W1.heap.size A0 c0 l0.length [] := ⟨⟨_, _, .inl rfl, World.alloc_heap_new _ _, own_nil _ _ _ _, ⟨fun _ => rfl, fun _ => rfl⟩⟩, HB1.out.alloc hs1 _, hs1⟩
    generalize W1.alloc (.cells #[.slice A0 l0.length c0, .pointer none, .slice none 0 0] 55) = W2 at hly0 ⊢
    have HL0 := Lib.hid hly0
    clear hly0
    go_loopw [18] (fun v18 wr => ∃ (i : Nat) (o : List UInt8), i ≤ l1.length ∧ v18 = .int .i64 i ∧ Ly w wr W1.heap.size A0 c0 l0.length o ∧ o ++ YL l0 (l1.drop i) = T) (fun v18 _ => l1.length - (intOf v18).toNat)
    case atStart => exact ⟨0, [], Nat.zero_le _, rfl, HL0.out, HTT.out.symm⟩
    case round =>
     obtain ⟨i, o, hi, rfl, hly, hE⟩ := hrel
     have HL := Lib.hid hly
     clear hly
     by_cases hil : i < l1.length
     ·obtain ⟨ad3, rfl, q0⟩ := int_at HT.out hil
      have q1 := (HL.out.bl.cell (World.block_lt_of_cell? w _ q0)).trans q0
      have hdr : l1.drop i = l1[i] :: l1.drop (i + 1) := List.drop_eq_getElem_cons hil
      have htm := HTI.out l1[i] (List.getElem_mem hil)
      obtain ⟨t, ht⟩ : ∃ t : Nat, l1[i] = (t : Int) := ⟨l1[i].toNat, by omega⟩
      rw [ht] at q1 hdr htm
      have hE2 : o ++ fr l0 l0.length t 1 ++ [10] ++ YL l0 (l1.drop (i + 1)) = T := by rw [← hE, hdr]; simp [YL]
      have hlen1 : o.length + (fr l0 l0.length t 1).length + 1 ≤ T.length := by rw [← hE2]; simp; omega
      have htl2 : t < l0.length := by omega
      have HE2 := Lib.hid hE2
      have e1 : decide (i < l1.length) = true := decide_eq_true hil
      have e1' : decide ((i : Int) < (l1.length : Int)) = true := decide_eq_true (by omega)
      clear hdr ht q0 hE hE2 htm
      go_wp2_with (first | (go_at_call 27; refine (form_ok HC.out hM (by decide) HKI.out l0.length t 1 o _ HL.out htl2 (by omega) (by omega) (by omega)).mono ?_; rintro e W3 ⟨rfl, h3⟩; have H3 := Lib.hid h3; clear h3) | (go_at_call 20; refine (byteL_ok 10 H3.out (by simp; omega)).mono ?_; rintro e W4 ⟨rfl, h4⟩; have H4 := Lib.hid h4; clear h4))
      go_roundw
      case rel => exact ⟨i + 1, _, by omega, by go_num, H4.out, HE2.out⟩
      case measure => simp [intOf]; omega
     ·have hie : i = l1.length := by omega
      have e1 : decide (i < l1.length) = false := decide_eq_false hil
      have e1' : decide ((i : Int) < (l1.length : Int)) = false := decide_eq_false (by omega)
      rw [hie, List.drop_length] at hE
      have hE2 : o = T := by simpa [YL] using hE
      subst hE2
      clear hE hie
      go_wp2_with (go_at_call 21; refine (stringL_ok HL.out).mono ?_; rintro e W5 ⟨rfl, hb5⟩; have H5 := Lib.hid hb5; clear hb5)
      go_ret2
      rw [← H1.out, ← H2.out]
      exact ⟨rfl, H5.out⟩
   ·rw [if_neg hok] at h'; cases h'
end Go.Proofs.YtldjbgonlbmeaaaDoor.T
