/- GraphBack, out of its printed walk. -/
import Derived.Test.YtkpaefeaplgnmaaBytLib
set_option linter.unusedSimpArgs false
set_option linter.unusedVariables false
namespace Go.Proofs.Ytkpaefeaplgnmaa.By
open Go.RowKit Go.Proofs.Ytkpaefeaplgnmaa.PA Go.Proofs.Ytkpaefeaplgnmaa.G Go.Proofs.YtkpaefeaplgnmaaW.PrintWords Go.Proofs.YtkpaefeaplgnmaaW.PrintLast Go.Proofs.YtkpaefeaplgnmaaW.PrintMore
theorem byt_wf {b : List Int} (h : ∀ x ∈ b, (Lit.int .u8 x).wf = true) : Byt b := fun x hx => by
  have := h x hx
  simp only [Lit.wf, Bool.and_eq_true, decide_eq_true_eq] at this
  rw [show IntKind.u8.min = 0 from by decide +kernel, show IntKind.u8.max = 255 from by decide +kernel] at this
  omega
theorem back_w (w : World) (n : Int) (wf : (Lit.int .i64 n).wf = true) (A : Option Addr) (c : Nat) (l : List S53) (hc : l.length ≤ c) (hr : Kd.C k53 w A l.length l) (hg : l.length ≤ maxLen ∧ ∀ x ∈ l, (Lit.int .i64 x.f0).wf = true ∧ (Lit.int .i64 x.f1).wf = true) (hs : l.length * 16 ≤ 140737488351232)
    (B : Option Addr) (cb : Nat) (b : List Int) (hcb : b.length ≤ cb) (hrb : Kd.C (Kd.int .u8) w B b.length b) (hgb : b.length ≤ maxLen ∧ ∀ x ∈ b, (Lit.int .u8 x).wf = true) (hsb : b.length * 1 ≤ 140737488351232) :
    Calls Try.prog 7 #[.int .i64 n, .slice A l.length c, .slice B b.length cb] w fun e w' => e = .returned (.bool true) ∧ Below w.heap.size w w' :=
  PB.reticulelaw03_GraphBack.calls 1101 n A c l B cb b true w hr hc hrb hcb (back_f n l b (byt_wf hgb.2))
end Go.Proofs.Ytkpaefeaplgnmaa.By
