/- The walk of TopPosted. -/
import Derived.Test.YthmenclkgngkkaaPo
set_option linter.unusedSimpArgs false
set_option linter.unusedVariables false
set_option linter.unusedSimpArgs false
set_option linter.unusedVariables false
namespace Go.Proofs.Ythmenclkgngkkaa.M
open Go.RowKit Go.Proofs.Ythmenclkgngkkaa.PA Go.Proofs.YthmenclkgngkkaaW.PrintWords Go.Proofs.YthmenclkgngkkaaW.PrintMore Go.Proofs.YthmenclkgngkkaaW.PrintLast
theorem R_c {w : World} {b : Nat} {ok : Nat → Prop} {v : Value} {r : List S26} (h : Kd.R k26 26 w b ok v r) : ∃ V cv, v = .slice V r.length cv ∧ Kd.C k26 w V r.length r ∧ r.length ≤ cv := by
 obtain ⟨V, cv, rfl⟩ := Kd.R_slice h
 obtain ⟨h1, h2, h3⟩ := Kd.R_reads' h
 exact ⟨V, cv, rfl, h3, h2⟩
theorem turned_c (A : Option Addr) (c : Nat) (l : List S26) (k : Int) (w : World) (hC : Kd.C k26 w A l.length l) (hlc : l.length ≤ c) (hl : l.length ≤ 900) (h0 : 0 ≤ k) (hk : k ≤ 18446744073709551615) :
  Calls Try.prog 10 #[.slice A l.length c, .int .u64 k] w fun e w' => ∃ V cv, e = .returned (.slice V (turnl l k.toNat).length cv) ∧ Kd.C k26 w' V (turnl l k.toNat).length (turnl l k.toNat) ∧ (turnl l k.toNat).length ≤ cv ∧ Below w.heap.size w w' := by
 obtain ⟨n, rfl⟩ := Int.eq_ofNat_of_zero_le h0
 refine (turnedAll_ok A c l n w hC hlc hl hk).mono ?_
 rintro e w' ⟨v, rfl, hv, hb⟩
 obtain ⟨V, cv, rfl, h1, h2⟩ := R_c hv
 exact ⟨V, cv, rfl, h1, h2, hb⟩
end Go.Proofs.Ythmenclkgngkkaa.M
