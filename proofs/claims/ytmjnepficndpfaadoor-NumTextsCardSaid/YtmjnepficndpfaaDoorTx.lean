/- The walk of NumTexts. -/
import Derived.Test.YtmjnepficndpfaaDoorLv
import Derived.Test.YtmjnepficndpfaaDoorFi
import Derived.Test.YtmjnepficndpfaaDoorJb
set_option linter.unusedSimpArgs false
set_option linter.unusedVariables false
namespace Go.Proofs.YtmjnepficndpfaaDoor.Dig
open Go.RowKit Go.Proofs.YtmjnepficndpfaaDoor.PT Go.Proofs.YtmjnepficndpfaaDoorW.PrintWords
theorem nparse_ok (s : ByteArray) (v e0 : Int) (w : World) (h : ps s.toList = (v, e0)) : Calls Tryd.prog 4 #[.string s] w fun e w' => e = .returned (.tuple #[.int .i64 v, .int .i64 e0]) ∧ Below w.heap.size w w' := by
  refine (num_Parse.calls 60 s v e0 w (by rw [np_f, h])).mono ?_
  rintro e w' ⟨rfl, hb⟩
  exact ⟨rfl, by first | exact hb | exact hb.below⟩
theorem rparse_ok (s : ByteArray) (v e0 : Int) (w : World) (h : ps s.toList = (v, e0)) : Calls Tryd.prog 5 #[.string s] w fun e w' => e = .returned (.tuple #[.int .i64 v, .int .i64 e0]) ∧ Below w.heap.size w w' := by
  refine (reticuleref01_Parse.calls 60 s v e0 w (by rw [rp_f, h])).mono ?_
  rintro e w' ⟨rfl, hb⟩
  exact ⟨rfl, by first | exact hb | exact hb.below⟩
theorem ndig_ok (a : Int) (w : World) (h : W64 a) : Calls Tryd.prog 6 #[.int .i64 a] w fun e w' => e = .returned (.string ⟨(text a).toArray⟩) ∧ Below w.heap.size w w' := num_Digits.calls a _ w (dig_f h)
theorem nlive_ok (w : World) : Calls Tryd.prog 7 #[] w fun e w' => e = .returned (.bool true) ∧ Below w.heap.size w w' := by
  refine (reticulelaw01_live.calls 60 true w live_f).mono ?_
  rintro e w' ⟨rfl, hb⟩
  exact ⟨rfl, by first | exact hb | exact hb.below⟩
end Go.Proofs.YtmjnepficndpfaaDoor.Dig
