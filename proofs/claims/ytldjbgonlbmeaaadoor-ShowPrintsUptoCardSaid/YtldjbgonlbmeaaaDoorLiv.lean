/- Plain law: what must be whatever is asked. -/
import Derived.Test.YtldjbgonlbmeaaaDoorFbs
import Derived.Test.YtldjbgonlbmeaaaDoorPCx2
set_option linter.unusedSimpArgs false
set_option linter.unusedVariables false
namespace Go.Proofs.YtldjbgonlbmeaaaDoor.F
open Go.RowKit Go.Proofs.YtldjbgonlbmeaaaDoor.PA Go.Proofs.YtldjbgonlbmeaaaDoor.PB Go.Proofs.YtldjbgonlbmeaaaDoor.PC Go.Proofs.YtldjbgonlbmeaaaDoor.T Go.Proofs.YtldjbgonlbmeaaaDoor.Nm Go.Proofs.YtldjbgonlbmeaaaDoor.Dig Go.Proofs.YtldjbgonlbmeaaaDoorW.PrintWords Go.Proofs.YtldjbgonlbmeaaaDoorW.PrintLast
theorem lines_f (L : List UInt8) (h : L.length ≤ 1000000) : show_Lines.f (⟨L.toArray⟩ : ByteArray) = some ((L.count 10 : Int) + 1) := by
 have hc : strings_Count.f (⟨L.toArray⟩ : ByteArray) (⟨#[10]⟩ : ByteArray) = some (L.count 10 : Int) := rfl
 have := List.count_le_length (l := L) (a := (10 : UInt8))
 unfold show_Lines.f
 rw [hc, Option.bind_some, show wrap64 ((L.count 10 : Int) + 1) = (L.count 10 : Int) + 1 by unfold wrap64; omega]
def lvL : List Fm := [⟨1, ⟨#[]⟩, 0, [1, 2], 0⟩, ⟨3, ⟨#[97]⟩, 0, [], 0⟩, ⟨1, ⟨#[]⟩, 0, [3], 0⟩, ⟨4, ⟨#[]⟩, -4, [], 0⟩]
def lvF : Fo := .br ⟨1, ⟨#[]⟩, 0, [], 0⟩ (.lf ⟨3, ⟨#[97]⟩, 0, [], 0⟩ (.br ⟨1, ⟨#[]⟩, 0, [], 0⟩ (.lf ⟨4, ⟨#[]⟩, -4, [], 0⟩ .nil) .nil)) .nil
theorem text4 : text (-4) = [45, 52] := by
 rw [text_neg (by decide), show (-4 : Int).natAbs = 4 from rfl, dec_small (by decide)]
 rfl
theorem wkd_a : wkd ⟨#[97]⟩ = 3 := by
 have hl : (⟨#[97]⟩ : ByteArray).toList = [97] := by rw [Go.ByteArray.toList_eq]
 have h0 : (ps (⟨#[97]⟩ : ByteArray).toList).2 ≠ 0 := by
  rw [ps_none]
  ·decide
  ·rintro ⟨v, _, e⟩
   rw [hl] at e
   by_cases h : v < 0
   ·rw [text_neg h] at e
    injection e with e1 _
    exact absurd e1 (by decide)
   ·rw [text_nat h] at e
    have := (dec_val v.natAbs).2 97 (by rw [← e]; exact List.mem_cons_self ..)
    exact absurd this (by decide)
 unfold wkd
 rw [if_neg h0, if_neg (by rw [hl]; decide), if_pos (by decide)]
theorem lv_std : Std lvL lvF where
 fl := ⟨by decide, rfl, ⟨by decide, rfl, ⟨by decide, rfl, ⟨by decide, rfl, trivial⟩, trivial⟩⟩, trivial⟩
 len := rfl
 ok := ⟨⟨rfl, rfl, rfl⟩, ⟨Or.inl ⟨rfl, rfl, wkd_a, by decide⟩, ⟨rfl, rfl, rfl⟩, ⟨Or.inr ⟨rfl, rfl, by decide, by decide⟩, trivial⟩, trivial⟩, trivial⟩
 small := by decide
 deep := by decide
theorem live_f : Ev (fun k => reticulelaw08_live.f k) true := by
 have e1 : lvF.pl = [40, 97, 32, 40, 45, 52, 41, 41, 10] := by
  show [40] ++ ([] ++ [97] ++ ([32] ++ [40] ++ ([] ++ text (-4) ++ []) ++ [41] ++ [])) ++ [41] ++ [10] ++ [] = _
  rw [text4]; rfl
 have e2 : lvF.yl = [40, 97, 10, 32, 32, 40, 45, 52, 41, 41, 10] := by
  show [40] ++ ([] ++ [97] ++ (lineL 1 ++ ([40] ++ ([] ++ text (-4) ++ []) ++ [41]) ++ [])) ++ [41] ++ [10] ++ [] = _
  rw [text4]; rfl
 have e3 : show_One.f lvL 2 = some (⟨#[40, 45, 52, 41]⟩, 0) := by
  have ho : Okl lvL = true := by decide
  have hw : wone lvL lvL.length 2 400 [] = (true, 398, [] ++ [40] ++ text (-4) ++ [41]) := rfl
  unfold show_One.f oneS
  rw [if_pos ho, if_neg (by decide), hw, if_pos rfl, text4]
  rfl
 have hp := lv_std.print
 have hy := lv_std.pretty
 rw [e1] at hp
 rw [e2] at hy
 have hl : show_Lines.f (⟨#[40, 97, 10, 32, 32, 40, 45, 52, 41, 41, 10]⟩ : ByteArray) = some 3 := lines_f [40, 97, 10, 32, 32, 40, 45, 52, 41, 41, 10] (by decide)
 have tl : ∀ L : List UInt8, (⟨L.toArray⟩ : ByteArray).toList = L := fun L => by rw [Go.ByteArray.toList_eq]
 obtain ⟨K1, h1⟩ := hp
 obtain ⟨K2, h2⟩ := hy
 refine ⟨max K1 K2, fun k hk => ?_⟩
 have q1 : show_Print.f k lvL (lvF.pls 0) = _ := h1 k (by omega)
 have q2 : show_Pretty.f k lvL (lvF.pls 0) = _ := h2 k (by omega)
 show reticulelaw08_live.f k = _
 unfold reticulelaw08_live.f
 rw [Option.bind_some]
 show (show_Print.f k lvL (lvF.pls 0)).bind _ = _
 rw [q1, Option.bind_some]
 show (show_Pretty.f k lvL (lvF.pls 0)).bind _ = _
 rw [q2, Option.bind_some]
 show (show_One.f lvL 2).bind _ = _
 rw [e3, Option.bind_some, if_pos rfl, if_pos (tl _), if_pos rfl, if_pos (tl _), if_pos rfl, if_pos (tl [40, 45, 52, 41])]
 show (show_Lines.f (⟨#[40, 97, 10, 32, 32, 40, 45, 52, 41, 41, 10]⟩ : ByteArray)).bind _ = _
 rw [hl]
 rfl
theorem live_true {k : Nat} {r : Bool} (h : reticulelaw08_live.f k = some r) : r = true := by
 obtain ⟨K, hK⟩ := live_f
 have h1 : reticulelaw08_live.f (max k K) = some r := at_rounds (g := fun k => reticulelaw08_live.f k) reticulelaw08_live.mono (Nat.le_max_left k K) h
 have h2 : reticulelaw08_live.f (max k K) = some true := hK _ (Nat.le_max_right k K)
 rw [h1] at h2
 exact Option.some.inj h2
end Go.Proofs.YtldjbgonlbmeaaaDoor.F
