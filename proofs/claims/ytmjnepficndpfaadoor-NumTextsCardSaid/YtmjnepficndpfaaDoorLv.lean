/- What must be whatever is asked: it is so. -/
import Derived.Test.YtmjnepficndpfaaDoorPr
import Derived.Test.YtmjnepficndpfaaDoorPTx5
namespace Go.Proofs.YtmjnepficndpfaaDoor.Dig
open Go.RowKit Go.Proofs.YtmjnepficndpfaaDoor.PT Go.Proofs.YtmjnepficndpfaaDoorW.PrintWords
theorem t17 : text (-17) = [45, 49, 55] := by rw [text_neg (by decide), show (-17 : Int).natAbs = 17 by decide, dec_big (by decide), dec_small (by decide)]; rfl
theorem t9 : text (-9) = [45, 57] := by rw [text_neg (by decide), show (-9 : Int).natAbs = 9 by decide, dec_small (by decide)]; rfl
theorem lv_do : num_Do.f 60 19 ([8, 200] : List Int) = some (-56, 0) := by kernel_rfl
theorem lv_red : num_Reduces.f 60 17 = some (0, true) := by kernel_rfl
theorem lv_shr : num_Shr.f (-8) 1 = some (-4) := by kernel_rfl
theorem live_f : reticulelaw01_live.f 60 = some true := by
  unfold reticulelaw01_live.f
  have hp : num_Parse.f 60 (⟨#[45, 49, 55]⟩ : ByteArray) = some (-17, 0) := by
    rw [np_f, show (⟨#[45, 49, 55]⟩ : ByteArray).toList = text (-17) by rw [t17, tl_data], ps_some (by unfold W64; omega)]
  rw [lv_do, Option.bind_some, hp, Option.bind_some, lv_red, Option.bind_some]
  simp only [if_true]
  rw [dig_f (by unfold W64; omega), Option.bind_some, arr_tl, t9, if_pos rfl, lv_shr]
  rfl
end Go.Proofs.YtmjnepficndpfaaDoor.Dig
