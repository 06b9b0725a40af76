/- The walk of ClashTurns, as its row wants it. -/
import Derived.Test.YtgdpdigpbbjhpaaTn
set_option linter.unusedSimpArgs false
set_option linter.unusedVariables false
namespace Go.Proofs.Ytgdpdigpbbjhpaa.C
open Go.RowKit Go.Proofs.Ytgdpdigpbbjhpaa.PA Go.Proofs.Ytgdpdigpbbjhpaa.Open Go.Proofs.YtgdpdigpbbjhpaaW.PrintWords
theorem opn2 : Opn Try.prog (Kd.pair (Kd.int .u8) (Kd.int .u8)) (fun x => (Lit.int .u8 x.1).wf = true ∧ (Lit.int .u8 x.2).wf = true) 35 :=
  opn_array (e := 5) (m := 2) (by kernel_rfl) (by kernel_rfl) (opnF_cons (opn_int Try.underlying5 (by kernel_rfl)) (opnF_one (opn_int Try.underlying5 (by kernel_rfl))))
theorem wf8 {b : Int} (h : (Lit.int .u8 b).wf = true) : 0 ≤ b ∧ b ≤ 255 := by
  simp [Lit.wf, IntKind.min, IntKind.max, IntKind.signed, IntKind.bits] at h
  omega
theorem turns_row (w : World) (A : Option Addr) (c : Nat) (l : List S39) (hc : l.length ≤ c) (hr : Kd.C k39 w A l.length l) (hg : l.length ≤ maxLen ∧ ∀ x ∈ l, ga x) (_ : l.length * 48 ≤ 140737488351232)
    (x : Int × Int) (cs : List Value) (hk : (Kd.pair (Kd.int .u8) (Kd.int .u8)).K w x cs) (hx : (Lit.int .u8 x.1).wf = true ∧ (Lit.int .u8 x.2).wf = true) :
    Calls Try.prog 4 #[.slice A l.length c, .agg cs.toArray] w fun e w' => e = .returned (.bool true) ∧ Below w.heap.size w w' := by
  obtain ⟨x0, x1⟩ := x
  obtain ⟨c0, c1, rfl, e0, e1⟩ := hk
  have e0' : c0 = [Value.int .u8 x0] := e0
  have e1' : c1 = [Value.int .u8 x1] := e1
  subst e0' e1'
  obtain ⟨h0, h0'⟩ := wf8 hx.1
  obtain ⟨h1, h1'⟩ := wf8 hx.2
  exact turns_w w A c l hc hr (fun a ha => (hg.2 a ha).2.1) x0 x1 h0 h1 h0' h1'
end Go.Proofs.Ytgdpdigpbbjhpaa.C
