/- Sum, difference, product, quotient and what is left over are those of the reference, whatever the two numbers are. -/
import Derived.Test.YtmjnepficndpfaaPNx6
import Derived.Test.YtmjnepficndpfaaNumLib
namespace Go.Proofs.Ytmjnepficndpfaa.Pure
open Go.RowKit Go.Proofs.Ytmjnepficndpfaa.PN Go.Proofs.YtmjnepficndpfaaW.PrintWords Go.Proofs.YtmjnepficndpfaaW.PrintLast

theorem ref_sub (a b : Int) : reticuleref01_Sub.f a b = some (wrap64 (a - b)) := by
  unfold reticuleref01_Sub.f; rw [u_mod, u_mod, u_mod]; congr 1; apply wrap_congr; omega
theorem ref_mul (a b : Int) : reticuleref01_Mul.f a b = some (wrap64 (a * b)) := by
  unfold reticuleref01_Mul.f; rw [u_mod, u_mod, u_mod]; congr 1; apply wrap_congr
  rw [Int.emod_emod_of_dvd _ (Int.dvd_refl _), ← Int.mul_emod]
theorem ref_div (a b : Int) : reticuleref01_Div.f a b = num_Div.f a b := by
  unfold reticuleref01_Div.f num_Div.f
  rw [ref_sub, Option.bind_some, Int.zero_sub]
theorem ref_mod {a : Int} (b : Int) (ha : -9223372036854775808 ≤ a ∧ a ≤ 9223372036854775807) : reticuleref01_Mod.f a b = num_Mod.f a b := by
  unfold reticuleref01_Mod.f
  rw [ref_div]
  unfold num_Mod.f num_Div.f
  by_cases h0 : b = 0
  · rw [if_pos h0, if_pos h0]
  · rw [if_neg h0, if_neg h0, if_neg h0]
    by_cases h1 : b = -1
    · rw [if_pos h1, if_pos h1]
      simp only [Option.bind_some, ref_mul, ref_sub]
      subst h1
      congr 1
      unfold wrap64
      omega
    · rw [if_neg h1, if_neg h1]
      simp only [Option.bind_some, ref_mul, ref_sub]
      have hd := tdiv_rng ha h1 h0
      have hm := tmod_rng (b := b) ha
      rw [wrap_id hd.1 hd.2]
      have e := Int.tmod_add_mul_tdiv a b
      congr 1
      have e2 : wrap64 (a - wrap64 (b * Int.tdiv a b)) = wrap64 (Int.tmod a b) := by
        apply wrap_congr
        rw [Int.sub_emod, wrap_mod, ← Int.sub_emod]
        congr 1
        omega
      rw [e2, wrap_id hm.1 hm.2]

theorem NumReckons : reticulelaw01_NumReckons.Pure := by
  intro a b ha hb
  refine ⟨30, ?_⟩
  unfold reticulelaw01_NumReckons.f num_Add.f num_Sub.f num_Mul.f
  simp only [live_yes, ref_add, ref_sub, ref_mul, ref_div, ref_mod b (rng ha), Option.bind_some, if_true]
  obtain ⟨d, hd⟩ : ∃ d, num_Div.f a b = some d := by unfold num_Div.f; (repeat' split) <;> exact ⟨_, rfl⟩
  obtain ⟨m, hm⟩ : ∃ d, num_Mod.f a b = some d := by unfold num_Mod.f; (repeat' split) <;> exact ⟨_, rfl⟩
  simp [hd, hm]

end Go.Proofs.Ytmjnepficndpfaa.Pure
