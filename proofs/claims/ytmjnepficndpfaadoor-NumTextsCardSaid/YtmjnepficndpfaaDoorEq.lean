/- Arrays of eight bytes that are the same: '=='. -/
import Derived.Test.YtmjnepficndpfaaDoorPs
import Derived.ChangeKeysEq
set_option linter.unusedSimpArgs false
set_option linter.unusedVariables false
namespace Go.Proofs.YtmjnepficndpfaaDoor.Dig
open Go.RowKit
theorem eq_u8 (d : Nat) (x y : Int) (w : World) : (Op.equalIn (d + 1) 5 (.int .u8 x) (.int .u8 y)).run Tryd.prog w = .ok (x == y) w := by
  simp [Op.equalIn, run_underlying Tryd.underlying5]
theorem it_step (d : Nat) (xs : Array Value) (is : List Nat) (j : Nat) (v : Int) (w : World) (hv : (part 5 xs (j * Tryd.prog.cellsOf 5)).run Tryd.prog w = .ok (.int .u8 v) w) (h : (Op.eqItems (d + 1) 5 (Tryd.prog.cellsOf 5) xs xs is).run Tryd.prog w = .ok true w) : (Op.eqItems (d + 1) 5 (Tryd.prog.cellsOf 5) xs xs (j :: is)).run Tryd.prog w = .ok true w := by
  simp only [Op.eqItems, Sem.run_bind, hv, Result.andThen_ok, eq_u8]
  simp [h]
theorem eq23 (a0 a1 a2 a3 a4 a5 a6 a7 : Int) : ∀ w : World, (binOp .eql 23 (.agg #[.int .u8 a0, .int .u8 a1, .int .u8 a2, .int .u8 a3, .int .u8 a4, .int .u8 a5, .int .u8 a6, .int .u8 a7]) (.agg #[.int .u8 a0, .int .u8 a1, .int .u8 a2, .int .u8 a3, .int .u8 a4, .int .u8 a5, .int .u8 a6, .int .u8 a7])).run Tryd.prog w = .ok (.bool true) w := fun w => by
  obtain ⟨i5, hi5⟩ : ∃ i, Tryd.prog.info? 5 = some i := Option.isSome_iff_exists.1 (by kernel_rfl)
  have h := run_equalIn_array (P := Tryd.prog) (w := w) 9999 (t := 23) (e := 5) (n := 8) (i := i5) #[.int .u8 a0, .int .u8 a1, .int .u8 a2, .int .u8 a3, .int .u8 a4, .int .u8 a5, .int .u8 a6, .int .u8 a7] #[.int .u8 a0, .int .u8 a1, .int .u8 a2, .int .u8 a3, .int .u8 a4, .int .u8 a5, .int .u8 a6, .int .u8 a7] (by exact Tryd.underlying23) hi5
  have h2 : (Op.eqItems 9999 5 (Tryd.prog.cellsOf 5) #[.int .u8 a0, .int .u8 a1, .int .u8 a2, .int .u8 a3, .int .u8 a4, .int .u8 a5, .int .u8 a6, .int .u8 a7] #[.int .u8 a0, .int .u8 a1, .int .u8 a2, .int .u8 a3, .int .u8 a4, .int .u8 a5, .int .u8 a6, .int .u8 a7] (List.range 8)).run Tryd.prog w = .ok true w := by
    show (Op.eqItems (9998 + 1) 5 _ _ _ [0, 1, 2, 3, 4, 5, 6, 7]).run Tryd.prog w = .ok true w
    refine it_step _ _ _ _ a0 _ (by kernel_rfl) ?_
    refine it_step _ _ _ _ a1 _ (by kernel_rfl) ?_
    refine it_step _ _ _ _ a2 _ (by kernel_rfl) ?_
    refine it_step _ _ _ _ a3 _ (by kernel_rfl) ?_
    refine it_step _ _ _ _ a4 _ (by kernel_rfl) ?_
    refine it_step _ _ _ _ a5 _ (by kernel_rfl) ?_
    refine it_step _ _ _ _ a6 _ (by kernel_rfl) ?_
    refine it_step _ _ _ _ a7 _ (by kernel_rfl) ?_
    simp [Op.eqItems]
  rw [h2] at h
  simp only [binOp]
  simp [Op.equal, Op.maxDepth, h]
theorem eg23 (a b : Array Value) (x y : Operand) : ∀ w : World, (eqGuard .eql 23 x y (.agg a) (.agg b)).run Tryd.prog w = .ok () w := fun w => by
  exact run_eqGuard_agg (P := Tryd.prog) w .eql 23 x y a b (by kernel_rfl)
end Go.Proofs.YtmjnepficndpfaaDoor.Dig
