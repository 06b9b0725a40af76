/- strings.Count of one sign, in the print's own form. -/
import Derived.Test.YtldjbgonlbmeaaaDoorBsa
import Derived.Test.YtldjbgonlbmeaaaDoorPAx0
namespace Go.Proofs.YtldjbgonlbmeaaaDoor.T
open Go.RowKit Go.Proofs.YtldjbgonlbmeaaaDoorW.PrintWords
def strings_Count.f (s sub : ByteArray) : Option Int := match sub.data.toList with
  | [c] => some (Lib.countByte s.data.toList c : Int)
  | _ => none
theorem strings_Count.calls (a0 a1 : ByteArray) (r : Int) (w : World) (h : strings_Count.f a0 a1 = some r) :
    Calls Tryd.prog 29 #[.string a0, .string a1] w fun e w' => e = .returned (.int .i64 r) ∧ Drawn0 w w' := by
  unfold strings_Count.f at h
  split at h
  · rename_i c hc
    have e : a1 = ⟨#[c]⟩ := by
      obtain ⟨d⟩ := a1
      congr 1
      exact Array.ext' hc
    subst e
    injection h with h
    refine (Tryd.strings_Count_one a0 c w).mono ?_
    rintro e w' ⟨rfl, rfl⟩
    exact ⟨by rw [h], Drawn0.refl _⟩
  · cases h
end Go.Proofs.YtldjbgonlbmeaaaDoor.T
