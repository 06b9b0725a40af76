-- Machine-made walks, written for this claim by a program of this session (plug.py).
import Derived.Test.YtldjbgonlbmeaaaDoorPCx0
import Derived.Test.YtldjbgonlbmeaaaDoorPCx1
namespace Go.Proofs.YtldjbgonlbmeaaaDoor.PC
open Go.RowKit Go.Proofs.YtldjbgonlbmeaaaDoor.PA Go.Proofs.YtldjbgonlbmeaaaDoor.T Go.Proofs.YtldjbgonlbmeaaaDoor.Nm Go.Proofs.YtldjbgonlbmeaaaDoor.Dig Go.Proofs.YtldjbgonlbmeaaaDoor.PB Go.Proofs.YtldjbgonlbmeaaaDoor.PR Go.Proofs.YtldjbgonlbmeaaaDoorW.PrintWords Go.Proofs.YtldjbgonlbmeaaaDoorW.PrintLast Go.Proofs.YtldjbgonlbmeaaaDoorW.PrintMore
attribute [local go_sem] max2_int min2_int max_two min_two max_three min_three max_four min_four   -- for this text's walks alone
set_option linter.unusedVariables false
set_option linter.unusedSimpArgs false

def show_Lines.f (a0 : ByteArray) : Option (Int) := (strings_Count.f a0 (⟨#[10]⟩ : ByteArray)).bind fun t135 => (some (wrap64 (t135 + 1)))
set_option maxHeartbeats 8000000 in
set_option maxRecDepth 100000 in
theorem show_Lines.calls (a0 : ByteArray) (r : Int) (w : World) (h : show_Lines.f a0 = some r) :
  Calls Tryd.prog 14 #[.string a0] w fun e w' => e = .returned (.int .i64 r) ∧ Drawn0 w w' := by
 have H : ((strings_Count.f a0 (⟨#[10]⟩ : ByteArray)).bind fun t135 => (some (wrap64 (t135 + 1)))) = some r := h
 clear h
 replace H := Option.bind_eq_some_iff.mp H
 obtain ⟨t135, A20, H⟩ := H
 replace H : (some (wrap64 (t135 + 1))) = some r := H
 have A2 := Aside0.mk A20
 clear A20
 obtain rfl := Option.some.inj H
 go_enter Tryd.func14, Tryd.ntmps14
 go_wp2_with (first | ((with_reducible refine gate_callee (f := 29) rfl ?_); refine goesL_ (some 4) rfl rfl Tryd.func29 (by kernel_rfl) rfl #[.string a0, .string (⟨#[10]⟩ : ByteArray)] rfl (by (try simp only [List.map_toArray, List.map_cons, List.map_nil]); first | done | rfl | (simp only [List.length_drop, List.length_take]; rfl)) ?_; (with_reducible refine (strings_Count.calls a0 (⟨#[10]⟩ : ByteArray) t135 _ A2.out).mono ?_); rintro e w' ⟨rfl, ⟨nd, rfl⟩⟩; refine ⟨_, rfl, ?_⟩))
 go_ret
 exact ⟨by first | rfl | (simp; done) | (simp [*]; done), by repeat (first | exact Drawn0.refl _ | apply Drawn0.step)⟩

def reticulelaw08_live.f (k : Nat)  : Option (Bool) := (some (([(⟨1, (⟨#[]⟩ : ByteArray), 0, (([1, 2] : List Int)), 0⟩ : S61), (⟨3, (⟨#[97]⟩ : ByteArray), 0, ([] : List Int), 0⟩ : S61), (⟨1, (⟨#[]⟩ : ByteArray), 0, (([3] : List Int)), 0⟩ : S61), (⟨4, (⟨#[]⟩ : ByteArray), (-4), ([] : List Int), 0⟩ : S61)] : List (S61)) : List (S61))).bind fun y142 => ((show_Print.f k y142 (([0] : List Int))).bind fun bt148 => ((show_Pretty.f k y142 (([0] : List Int))).bind fun bt153 => ((show_One.f y142 2).bind fun bt155 => (if bt148.2 = 0 then (if bt148.1.toList = ([40, 97, 32, 40, 45, 52, 41, 41, 10] : List UInt8) then (if bt153.2 = 0 then (if bt153.1.toList = ([40, 97, 10, 32, 32, 40, 45, 52, 41, 41, 10] : List UInt8) then (if bt155.2 = 0 then (if bt155.1.toList = ([40, 45, 52, 41] : List UInt8) then ((show_Lines.f bt153.1).bind fun t157 => (some (t157 == 3))) else (some false)) else (some false)) else (some false)) else (some false)) else (some false)) else (some false)))))
theorem reticulelaw08_live.mono : ∀ k, LeO (reticulelaw08_live.f k ) (reticulelaw08_live.f (k + 1) ) := by
 intro  k
 unfold reticulelaw08_live.f
 repeat' first
   | (with_reducible exact show_Pretty.mono _ _ _)
   | (with_reducible exact show_Print.mono _ _ _)
   | (with_reducible exact LeO.refl _)
   | (with_reducible exact LeO.none _)
   | (with_reducible refine LeO.ite ?_ ?_)
   | (with_reducible refine LeO.bind ?_ (fun _ => ?_))
   | exact show_Pretty.mono _ _ _
   | exact show_Print.mono _ _ _
   | exact LeO.none _
   | refine LeO.ite ?_ ?_
   | refine LeO.bind ?_ (fun _ => ?_)

end Go.Proofs.YtldjbgonlbmeaaaDoor.PC
