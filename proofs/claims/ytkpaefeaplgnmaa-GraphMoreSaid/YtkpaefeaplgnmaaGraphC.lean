/- The walks of graph: the map's keys. -/
import Derived.Test.YtkpaefeaplgnmaaGraphB
import Derived.Test.YtkpaefeaplgnmaaMp

set_option linter.unusedSimpArgs false
set_option linter.unusedVariables false
namespace Go.Proofs.Ytkpaefeaplgnmaa.G
open Go.RowKit Go.Proofs.Ytkpaefeaplgnmaa.PA Go.Proofs.Ytkpaefeaplgnmaa.Mp Go.Proofs.YtkpaefeaplgnmaaW.PrintWords Go.Proofs.YtkpaefeaplgnmaaW.PrintLast Go.Proofs.YtkpaefeaplgnmaaW.PrintMore

theorem laid : laidOutB Try.prog = true := by kernel_rfl
theorem keyed : Maps.Keyed Try.prog 53 := Maps.Keyed.of_law (deep_law_gate laid (of_decide_eq_true (by kernel_rfl)) (of_decide_eq_true (by kernel_rfl)) (by kernel_rfl) (by kernel_rfl))
/-- An edge, as a key. -/
def ke (e : S53) : Value := .agg #[.int .i64 e.f0, .int .i64 e.f1]
theorem key_ok (e : S53) (wa : (Lit.int .i64 e.f0).wf = true) (wb : (Lit.int .i64 e.f1).wf = true) : ∃ l, keyOf Try.prog 53 (ke e) = some l := by
 have hkt : Try.prog.keyType 53 = true := by kernel_rfl
 have hf : (ke e).formed Try.prog 53 = true := by
  unfold ke Value.formed
  simp only [Try.underlying53]
  kernel_rfl
 have hl : Try.prog.keyLits (Try.prog.types.size + 1) 53 (ke e).cells.toList = some [.int .i64 e.f0, .int .i64 e.f1] := by
  obtain ⟨m, hm⟩ : ∃ m, Try.prog.types.size = m + 1 := ⟨Try.prog.types.size - 1, by decide +kernel⟩
  rw [hm]
  unfold Program.keyLits
  simp only [Try.underlying53, ke, Value.cells]
  have c3 : Try.prog.cellsOf 3 = 1 := by kernel_rfl
  have c53 : Try.prog.cellsOf 53 = 2 := by kernel_rfl
  rw [if_pos ⟨by rw [c53]; rfl, by decide +kernel⟩]
  simp [List.mapM_cons, List.mapM_nil, c3, Program.keyLits, Try.underlying3, wa, wb]
 unfold keyOf
 simp only [Try.underlying53]
 rw [if_pos (by rw [hkt, hf]; rfl), hl]
 exact ⟨_, rfl⟩
theorem ke_inj {e f : S53} (h : ke e = ke f) : e = f := by
 cases e; cases f
 simp [ke] at h
 simp [h]
theorem zero27 (w : World) : (zeroValue 27).run Try.prog w = .ok (.slice none 0 0) w := by kernel_rfl
end Go.Proofs.Ytkpaefeaplgnmaa.G
