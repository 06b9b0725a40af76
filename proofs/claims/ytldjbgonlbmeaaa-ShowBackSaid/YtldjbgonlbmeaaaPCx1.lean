-- Machine-made walks, written for this claim by a program of this session (plug.py).
import Derived.Test.YtldjbgonlbmeaaaPCx0
namespace Go.Proofs.Ytldjbgonlbmeaaa.PC
open Go.RowKit Go.Proofs.Ytldjbgonlbmeaaa.PA Go.Proofs.Ytldjbgonlbmeaaa.T Go.Proofs.Ytldjbgonlbmeaaa.Nm Go.Proofs.Ytldjbgonlbmeaaa.Dig Go.Proofs.Ytldjbgonlbmeaaa.PB Go.Proofs.YtldjbgonlbmeaaaW.PrintWords Go.Proofs.YtldjbgonlbmeaaaW.PrintLast Go.Proofs.YtldjbgonlbmeaaaW.PrintMore
attribute [local go_sem] max2_int min2_int max_two min_two max_three min_three max_four min_four   -- for this text's walks alone
set_option linter.unusedVariables false
set_option linter.unusedSimpArgs false

def show_Lines.f (a0 : ByteArray) : Option (Int) := (strings_Count.f a0 (⟨#[10]⟩ : ByteArray)).bind fun t106 => (some (wrap64 (t106 + 1)))
set_option maxHeartbeats 8000000 in
set_option maxRecDepth 100000 in
theorem show_Lines.calls (a0 : ByteArray) (r : Int) (w : World) (h : show_Lines.f a0 = some r) :
  Calls Try.prog 9 #[.string a0] w fun e w' => e = .returned (.int .i64 r) ∧ Drawn0 w w' := by
 have H : ((strings_Count.f a0 (⟨#[10]⟩ : ByteArray)).bind fun t106 => (some (wrap64 (t106 + 1)))) = some r := h
 clear h
 replace H := Option.bind_eq_some_iff.mp H
 obtain ⟨t106, A20, H⟩ := H
 replace H : (some (wrap64 (t106 + 1))) = some r := H
 have A2 := Aside0.mk A20
 clear A20
 obtain rfl := Option.some.inj H
 go_enter Try.func9, Try.ntmps9
 go_wp2_with (first | ((with_reducible refine gate_callee (f := 19) rfl ?_); refine goesL_ (some 4) rfl rfl Try.func19 (by kernel_rfl) rfl #[.string a0, .string (⟨#[10]⟩ : ByteArray)] rfl (by (try simp only [List.map_toArray, List.map_cons, List.map_nil]); first | done | rfl | (simp only [List.length_drop, List.length_take]; rfl)) ?_; (with_reducible refine (strings_Count.calls a0 (⟨#[10]⟩ : ByteArray) t106 _ A2.out).mono ?_); rintro e w' ⟨rfl, ⟨nd, rfl⟩⟩; refine ⟨_, rfl, ?_⟩))
 go_ret
 exact ⟨by first | rfl | (simp; done) | (simp [*]; done), by repeat (first | exact Drawn0.refl _ | apply Drawn0.step)⟩

def reticulelaw08_live.f (k : Nat)  : Option (Bool) := (some (([(⟨1, (⟨#[]⟩ : ByteArray), 0, (([1, 2] : List Int)), 0⟩ : S33), (⟨3, (⟨#[97]⟩ : ByteArray), 0, ([] : List Int), 0⟩ : S33), (⟨1, (⟨#[]⟩ : ByteArray), 0, (([3] : List Int)), 0⟩ : S33), (⟨4, (⟨#[]⟩ : ByteArray), (-4), ([] : List Int), 0⟩ : S33)] : List (S33)) : List (S33))).bind fun y113 => ((show_Print.f k y113 (([0] : List Int))).bind fun bt119 => ((show_Pretty.f k y113 (([0] : List Int))).bind fun bt124 => ((show_One.f y113 2).bind fun bt126 => (if bt119.2 = 0 then (if bt119.1.toList = ([40, 97, 32, 40, 45, 52, 41, 41, 10] : List UInt8) then (if bt124.2 = 0 then (if bt124.1.toList = ([40, 97, 10, 32, 32, 40, 45, 52, 41, 41, 10] : List UInt8) then (if bt126.2 = 0 then (if bt126.1.toList = ([40, 45, 52, 41] : List UInt8) then ((show_Lines.f bt124.1).bind fun t128 => (some (t128 == 3))) else (some false)) else (some false)) else (some false)) else (some false)) else (some false)) else (some false)))))
theorem reticulelaw08_live.mono : ∀ k, LeO (reticulelaw08_live.f k ) (reticulelaw08_live.f (k + 1) ) := by
 intro  k
 unfold reticulelaw08_live.f
 repeat' first
   | (with_reducible exact show_Pretty.mono _ _ _)
   | (with_reducible exact show_Print.mono _ _ _)
   | (with_reducible exact LeO.refl _)
   | (with_reducible exact LeO.none _)
   | (with_reducible refine LeO.ite ?_ ?_)
   | (with_reducible refine LeO.bind ?_ (fun _ => ?_))
   | exact show_Pretty.mono _ _ _
   | exact show_Print.mono _ _ _
   | exact LeO.none _
   | refine LeO.ite ?_ ?_
   | refine LeO.bind ?_ (fun _ => ?_)

end Go.Proofs.Ytldjbgonlbmeaaa.PC
