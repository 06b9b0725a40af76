/- The walk of lex.named. -/
import Derived.Test.YtldjbgonlbmeaaaDoorProg
import Derived.WalkKit
import Derived.Below
import Derived.Outline
import Derived.Lib.Hide
import Derived.Laws.RangeString
import Derived.Laws.RangeAny
import Derived.LoopTactic
set_option linter.unusedSimpArgs false
set_option linter.unusedVariables false
namespace Go.Proofs.YtldjbgonlbmeaaaDoor.Nm
open Go.RowKit
def gd (i : Nat) (b : Nat) : Bool := decide (97 ≤ b ∧ b ≤ 122) || decide (48 ≤ b ∧ b ≤ 57 ∧ 0 < i)
def byte (s : ByteArray) (i : Nat) : Nat := if h : i < s.size then (s[i]'h).toNat else 0
def good (s : ByteArray) : Bool := (List.range s.size).all fun i => gd i (byte s i)
def nmok (s : ByteArray) : Bool := decide (0 < s.size ∧ s.size ≤ 8) && good s
theorem good_bad {s : ByteArray} {i : Nat} (h : i < s.size) (hb : gd i (byte s i) = false) : good s = false := by
 unfold good
 rw [Bool.eq_false_iff]
 intro ha
 rw [List.all_eq_true] at ha
 have := ha i (List.mem_range.2 h)
 rw [hb] at this; cases this
theorem good_all {s : ByteArray} (h : ∀ i, i < s.size → gd i (byte s i) = true) : good s = true := by
 unfold good
 rw [List.all_eq_true]
 exact fun i hi => h i (List.mem_range.1 hi)
theorem below_iter (w : World) (s : ByteArray) (pos : Nat) : Below w.heap.size w (w.iter s pos) := (Below.refl _ w).alloc (Nat.le_refl _) _
theorem empty_of {s : ByteArray} (h : s.size = 0) : s = ⟨#[]⟩ := by
 obtain ⟨d⟩ := s
 have : d.size = 0 := h
 simp at this
 rw [this]
set_option maxRecDepth 100000 in
set_option maxHeartbeats 4000000 in
theorem name_ok (s : ByteArray) (hs : s.size ≤ maxLen) (w : World) : Calls Tryd.prog 54 #[.string s] w fun e w' => e = .returned (.bool (nmok s)) ∧ Below w.heap.size w w' := by
 have hsm : s.size ≤ 9223372036854775807 := hs
 clear hs
 go_enter Tryd.func54, Tryd.ntmps54
 go_wp2
 go_loopw [3, 4, 5, 6] (fun _ _ _ _ wr => ∃ i : Nat, i ≤ s.size ∧ wr = w.iter s i ∧ ∀ k, k < i → gd k (byte s k) = true) (fun _ _ _ _ wr => s.size - wr.iterPos w.heap.size)
 case atStart => exact ⟨0, Nat.zero_le _, rfl, fun k hk => absurd hk (by omega)⟩
 case round =>
  obtain ⟨i, hi, rfl, hg⟩ := hrel
  have HG := Lib.hid hg
  clear hg
  by_cases hlt : i < s.size
  ·have hby : byte s i = (s[i]'hlt).toNat := by unfold byte; rw [dif_pos hlt]
   by_cases ha : (s[i]'hlt).toNat < 128
   ·have hnx := fun ty => run_next_ascii (P := Tryd.prog) w s i ty hlt ha
    obtain ⟨b, hb⟩ : ∃ b, b = (s[i]'hlt).toNat := ⟨_, rfl⟩
    rw [← hb] at hnx hby
    have HBY := Lib.hid hby
    clear ha hb hby
    by_cases h1 : 97 ≤ b
    ·by_cases h2 : b ≤ 122
     ·have b1 : decide ((b : Int) ≥ 97) = true := decide_eq_true (by omega)
      have b2 : decide ((b : Int) ≤ 122) = true := decide_eq_true (by omega)
      have b3 : decide ((b : Int) ≥ 48) = true := decide_eq_true (by omega)
      have b4 : decide ((b : Int) ≤ 57) = false := decide_eq_false (by omega)
      have hgd : gd i b = true := by unfold gd; simp [h1, h2]
      have HGD := Lib.hid hgd
      clear h1 h2 hgd
      go_wp2
      go_roundw
      case rel =>
       refine ⟨i + 1, by omega, rfl, fun k hk => ?_⟩
       by_cases e : k = i
       ·subst e; rw [HBY.out]; exact HGD.out
       ·exact HG.out k (by omega)
      case measure => simp; omega
     ·have b1 : decide ((b : Int) ≥ 97) = true := decide_eq_true (by omega)
      have b2 : decide ((b : Int) ≤ 122) = false := decide_eq_false (by omega)
      have b3 : decide ((b : Int) ≥ 48) = true := decide_eq_true (by omega)
      have b4 : decide ((b : Int) ≤ 57) = false := decide_eq_false (by omega)
      have hbad : good s = false := good_bad hlt (by rw [HBY.out]; unfold gd; simp; omega)
      have HBAD := Lib.hid hbad
      clear h1 h2 hbad
      go_wp2
      go_ret
      exact ⟨by (unfold nmok; rw [HBAD.out, Bool.and_false]; rfl), below_iter _ _ _⟩
    ·have b1 : decide ((b : Int) ≥ 97) = false := decide_eq_false (by omega)
     by_cases h3 : 48 ≤ b ∧ b ≤ 57
     ·have b3 : decide ((b : Int) ≥ 48) = true := decide_eq_true (by omega)
      have b4 : decide ((b : Int) ≤ 57) = true := decide_eq_true (by omega)
      by_cases hi0 : 0 < i
      ·have b5 : decide ((i : Int) > 0) = true := decide_eq_true (by omega)
       have b6 : decide (0 < i) = true := decide_eq_true hi0
       have hgd : gd i b = true := by unfold gd; simp [h3, hi0]
       have HGD := Lib.hid hgd
       clear h1 h3 hgd hi0
       go_wp2
       go_roundw
       case rel =>
        refine ⟨i + 1, by omega, rfl, fun k hk => ?_⟩
        by_cases e : k = i
        ·subst e; rw [HBY.out]; exact HGD.out
        ·exact HG.out k (by omega)
       case measure => simp; omega
      ·have b5 : decide ((i : Int) > 0) = false := decide_eq_false (by omega)
       have b6 : decide (0 < i) = false := decide_eq_false hi0
       have hbad : good s = false := good_bad hlt (by rw [HBY.out]; unfold gd; simp; omega)
       have HBAD := Lib.hid hbad
       clear h1 h3 hbad hi0
       go_wp2
       go_ret
       exact ⟨by (unfold nmok; rw [HBAD.out, Bool.and_false]; rfl), below_iter _ _ _⟩
     ·have hbad : good s = false := good_bad hlt (by rw [HBY.out]; unfold gd; simp; omega)
      have HBAD := Lib.hid hbad
      by_cases h4 : 48 ≤ b
      ·have b3 : decide ((b : Int) ≥ 48) = true := decide_eq_true (by omega)
       have b4 : decide ((b : Int) ≤ 57) = false := decide_eq_false (by omega)
       clear h1 h3 hbad h4
       go_wp2
       go_ret
       exact ⟨by (unfold nmok; rw [HBAD.out, Bool.and_false]; rfl), below_iter _ _ _⟩
      ·have b3 : decide ((b : Int) ≥ 48) = false := decide_eq_false (by omega)
       clear h1 h3 hbad h4
       go_wp2
       go_ret
       exact ⟨by (unfold nmok; rw [HBAD.out, Bool.and_false]; rfl), below_iter _ _ _⟩
   ·have hnx := fun ty => run_next_any (P := Tryd.prog) w s i ty hlt
    have hd := decode_high s i hlt (by omega)
    obtain ⟨r, hr⟩ : ∃ r, r = (Utf8.decode s i).1 := ⟨_, rfl⟩
    rw [← hr] at hnx hd
    have hr1 : 128 ≤ r := hd.1
    generalize i + (Utf8.decode s i).2 = p' at hnx
    have b1 : decide ((r : Int) ≥ 97) = true := decide_eq_true (by omega)
    have b2 : decide ((r : Int) ≤ 122) = false := decide_eq_false (by omega)
    have b3 : decide ((r : Int) ≥ 48) = true := decide_eq_true (by omega)
    have b4 : decide ((r : Int) ≤ 57) = false := decide_eq_false (by omega)
    have hbad : good s = false := good_bad hlt (by rw [hby]; unfold gd; simp; omega)
    have HBAD := Lib.hid hbad
    clear hr hd hbad hby ha
    go_wp2
    go_ret
    exact ⟨by (unfold nmok; rw [HBAD.out, Bool.and_false]; rfl), below_iter _ _ _⟩
  ·have hend := fun ty => run_next_end (P := Tryd.prog) w s i ty hlt
   have hgood : good s = true := good_all fun k hk => HG.out k (by omega)
   have HGOOD := Lib.hid hgood
   clear hgood
   by_cases h0 : s.size = 0
   ·have e0 := empty_of h0
    subst e0
    go_wp2
    go_ret
    exact ⟨rfl, below_iter _ _ _⟩
   ·have be : s.toList.isEmpty = false := by
     rw [ByteArray.toList_eq]
     cases hd : s.data.toList with
     | nil =>
      exfalso
      apply h0
      show s.data.size = 0
      rw [← Array.length_toList, hd]; rfl
     | cons a l => rfl
    have hp : 0 < s.size := by omega
    have HP := Lib.hid hp
    by_cases h8 : s.size ≤ 8
    ·have b8 : decide ((s.size : Int) ≤ 8) = true := decide_eq_true (by omega)
     have b9 : decide (s.size ≤ 8) = true := decide_eq_true h8
     have hn : nmok s = true := by unfold nmok; rw [HGOOD.out]; simp [h8, hp]
     have HN := Lib.hid hn
     clear hn h8 h0 hp
     go_wp2
     go_ret
     exact ⟨by (rw [HN.out]; rfl), below_iter _ _ _⟩
    ·have b8 : decide ((s.size : Int) ≤ 8) = false := decide_eq_false (by omega)
     have b9 : decide (s.size ≤ 8) = false := decide_eq_false h8
     have hn : nmok s = false := by unfold nmok; rw [HGOOD.out]; simp [h8]
     have HN := Lib.hid hn
     clear hn h8 h0 hp
     go_wp2
     go_ret
     exact ⟨by (rw [HN.out]; rfl), below_iter _ _ _⟩
def lex_named.f (s : ByteArray) : Option Bool := if s.size ≤ 9223372036854775807 then some (nmok s) else none
theorem lex_named.calls (a0 : ByteArray) (r : Bool) (w : World) (h : lex_named.f a0 = some r) : Calls Tryd.prog 54 #[.string a0] w fun e w' => e = .returned (.bool r) ∧ Below w.heap.size w w' := by
 unfold lex_named.f at h
 split at h
 ·cases h; exact name_ok a0 (by assumption) w
 ·cases h
end Go.Proofs.YtldjbgonlbmeaaaDoor.Nm
