/- The law NumTexts: whatever the input, the call answers true, and the input reads as it did; the table of powers of ten that it names is tied to the program's text. -/
import Derived.Test.YtmjnepficndpfaaDoorCards
import Derived.Test.YtmjnepficndpfaaDoorTie
import Derived.Test.YtmjnepficndpfaaDoorOpen
import Derived.Test.YtmjnepficndpfaaDoorTz
import Derived.WalkKit
import Derived.ProofKit
import Derived.OpenShut
import Derived.ShutString
import Derived.ChangeOld
import Derived.Below
import Derived.SizedLaws
import Derived.Deep.DeepHandedRow
import Derived.Lib.LaidTab
namespace Go.Proofs.YtmjnepficndpfaaDoor.numTexts
open Go.ChangeShapes Go.WideShapes Go.ChangeAt Go.RowKit Go.Proofs.YtmjnepficndpfaaDoor Go.Proofs.YtmjnepficndpfaaDoor.Open Go.Proofs.YtmjnepficndpfaaDoorW.PrintWords
open Go.ChangeMaps (open_string shut_string)
theorem own : ownKnob Tryd.prog.godebug = none := by kernel_rfl
theorem laidOut : laidOutB Tryd.prog = true := by kernel_rfl
theorem gTab : Tryd.prog.globalNamed "internal/strconv.uint64pow10" = some 0 := by kernel_rfl
theorem gTabType : (Tryd.prog.globals[0]?).map (·.type) = some 57 := by kernel_rfl
theorem cells57 : Tryd.prog.cellsOf 57 = 20 := by kernel_rfl
theorem cells32 : Tryd.prog.cellsOf 32 = 1 := by kernel_rfl
/-- What the row's list gives: the table's cells hold the powers of ten. -/
theorem table {W : World} (h : laidMetH Tryd.prog Rows.numTextsRow.laid W) : Lib.TabIs Tryd.prog W "internal/strconv.uint64pow10" .u64 Lib.pow10Tab := by
  have h' := laidMetH.filter (fun x => x.1 == "internal/strconv.uint64pow10") h
  have e : Rows.numTextsRow.laid.filter (fun x => x.1 == "internal/strconv.uint64pow10") = [("internal/strconv.uint64pow10", Lib.tabData .u64 Lib.pow10Tab)] := by rfl
  rw [e] at h'
  exact Lib.tabIs_of_head (rest := []) gTab gTabType Tryd.underlying57 Tryd.underlying32 cells32 cells57 h'
abbrev k1 : Kd Int := Kd.int .u8
abbrev g1 (n : Int) : Prop := (Lit.int .u8 n).wf = true
theorem o5 : Opn Tryd.prog k1 g1 5 := opn_int Tryd.underlying5 (by kernel_rfl)
theorem opn8 : Opn Tryd.prog (Kd.pair k1 (Kd.pair k1 (Kd.pair k1 (Kd.pair k1 (Kd.pair k1 (Kd.pair k1 (Kd.pair k1 k1))))))) (fun x => g1 x.1 ∧ g1 x.2.1 ∧ g1 x.2.2.1 ∧ g1 x.2.2.2.1 ∧ g1 x.2.2.2.2.1 ∧ g1 x.2.2.2.2.2.1 ∧ g1 x.2.2.2.2.2.2.1 ∧ g1 x.2.2.2.2.2.2.2) 23 :=
  opn_array (e := 5) (m := 8) (by kernel_rfl) (by kernel_rfl) (opnF_cons o5 (opnF_cons o5 (opnF_cons o5 (opnF_cons o5 (opnF_cons o5 (opnF_cons o5 (opnF_cons o5 (opnF_one o5))))))))
theorem wf8 {b : Int} (h : g1 b) : 0 ≤ b ∧ b < 256 := by
  have h : (Lit.int .u8 b).wf = true := h
  simp [Lit.wf, IntKind.min, IntKind.max, IntKind.signed, IntKind.bits] at h
  omega
theorem walk (W : World) (a : Int) (ha : (Lit.int .i64 a).wf = true) (s : ByteArray) (x : Int × Int × Int × Int × Int × Int × Int × Int) (cs : List Value) (hk : (Kd.pair k1 (Kd.pair k1 (Kd.pair k1 (Kd.pair k1 (Kd.pair k1 (Kd.pair k1 (Kd.pair k1 k1))))))).K W x cs)
    (hg : g1 x.1 ∧ g1 x.2.1 ∧ g1 x.2.2.1 ∧ g1 x.2.2.2.1 ∧ g1 x.2.2.2.2.1 ∧ g1 x.2.2.2.2.2.1 ∧ g1 x.2.2.2.2.2.2.1 ∧ g1 x.2.2.2.2.2.2.2) (htab : Lib.TabIs Tryd.prog W "internal/strconv.uint64pow10" .u64 Lib.pow10Tab) :
    Calls Tryd.prog 3 #[.int .i64 a, .string s, .agg cs.toArray] W fun e w' => e = .returned (.bool true) ∧ Below W.heap.size W w' := by
  obtain ⟨b0, b1, b2, b3, b4, b5, b6, b7⟩ := x
  obtain ⟨q0, q1, q2, q3, q4, q5, q6, q7⟩ := hg
  obtain ⟨c0, _, rfl, e0, d1, _, rfl, e1, d2, _, rfl, e2, d3, _, rfl, e3, d4, _, rfl, e4, d5, _, rfl, e5, d6, d7, rfl, e6, e7⟩ := hk
  have e0' : c0 = [Value.int .u8 b0] := e0
  have e1' : d1 = [Value.int .u8 b1] := e1
  have e2' : d2 = [Value.int .u8 b2] := e2
  have e3' : d3 = [Value.int .u8 b3] := e3
  have e4' : d4 = [Value.int .u8 b4] := e4
  have e5' : d5 = [Value.int .u8 b5] := e5
  have e6' : d6 = [Value.int .u8 b6] := e6
  have e7' : d7 = [Value.int .u8 b7] := e7
  subst e0' e1' e2' e3' e4' e5' e6' e7'
  refine Dig.texts_ok a s b0 b1 b2 b3 b4 b5 b6 b7 W (by simp [Lit.wf, IntKind.min, IntKind.max, IntKind.signed, IntKind.bits] at ha; unfold Dig.W64; omega) ?_ htab
  intro y hy
  simp only [List.mem_cons, List.not_mem_nil, or_false] at hy
  rcases hy with rfl | rfl | rfl | rfl | rfl | rfl | rfl | rfl
  · exact wf8 q0
  · exact wf8 q1
  · exact wf8 q2
  · exact wf8 q3
  · exact wf8 q4
  · exact wf8 q5
  · exact wf8 q6
  · exact wf8 q7

noncomputable def fill (zs : List Int) (k : IntKind) : Obj → Obj
  | .cells _ t frozen => .cells (zs.map fun z => Value.int k z).toArray t frozen
  | o => o
def tab32 : List Int := [0, 1, 28, 2, 29, 14, 24, 3, 30, 22, 20, 15, 25, 17, 4, 8, 31, 27, 13, 23, 21, 19, 16, 7, 26, 12, 18, 6, 11, 5, 10, 9]
def tab64 : List Int := [0, 1, 56, 2, 57, 49, 28, 3, 61, 58, 42, 50, 38, 29, 17, 4, 62, 47, 59, 36, 45, 43, 51, 22, 53, 39, 33, 30, 24, 18, 12, 5, 63, 55, 48, 27, 60, 41, 37, 16, 46, 35, 44, 21, 52, 32, 23, 11, 54, 26, 40, 15, 34, 20, 31, 10, 25, 14, 19, 9, 13, 8, 7, 6]
/-- A world for the witness. -/
noncomputable def laidWorld (os : Os) : World :=
  { World.holding Tryd.prog os ⟨#[], #[], []⟩ with heap := (((World.holding Tryd.prog os ⟨#[], #[], []⟩).heap.modify 0 (fill Lib.pow10Tab .u64)).modify 1 (fill tab32 .u8)).modify 2 (fill tab64 .u8) }
abbrev zargs : Array Value := #[.int .i64 0, .string ByteArray.empty, .agg #[.int .u8 0, .int .u8 0, .int .u8 0, .int .u8 0, .int .u8 0, .int .u8 0, .int .u8 0, .int .u8 0]]
theorem laid_met (os : Os) : laidMet Tryd.prog Rows.numTextsRow.laid ((laidWorld os).forCall (fun _ _ => 0) ⟨#[], zargs, []⟩).memory :=
  laidMet_of_run' 8 (by kernel_rfl) (by kernel_rfl)
theorem reads (os : Os) {H : Type} (enc : TypeId × Value → H) : ∃ ds places, DataW.whole enc Tryd.prog ((laidWorld os).forCall (fun _ _ => 0) ⟨#[], zargs, []⟩).memory Tryd.f3.params.toList Rows.numTextsSpec.vars false zargs.toList 8 = some (ds, [], places) :=
  ⟨[.lit (.int .i64 0), .lit (.string []), .agg [.lit (.int .u8 0), .lit (.int .u8 0), .lit (.int .u8 0), .lit (.int .u8 0), .lit (.int .u8 0), .lit (.int .u8 0), .lit (.int .u8 0), .lit (.int .u8 0)]], [], by kernel_rfl⟩
set_option maxRecDepth 100000 in
theorem lifted (os : Os) (started : os.Started) (H : Type) (enc : TypeId × Value → H) (F : Stop.Interp) :
    ReturnsInHanded {} Tryd.checked os 3 .any ((OpenSpec.ofChange Rows.numTextsSpec).preRow enc Tryd.prog Tryd.f3 Rows.numTextsRow.domain false Rows.numTextsRow.laid) (((OpenSpec.ofChange Rows.numTextsSpec).at F).post enc Tryd.prog Tryd.f3 false true false false) := by
  obtain ⟨ds0, places, hx⟩ := reads os enc
  refine returnsInHanded_of_row (C := Tryd.checked) (s := OpenSpec.ofChange Rows.numTextsSpec) own started (by kernel_rfl) Tryd.func3
    (witness_row_at (enc := enc) (C := Tryd.checked) false (laidWorld os) zargs rfl (by kernel_rfl) (by kernel_rfl) (by kernel_rfl)
      (OpenSpec.preRow_of_cond 8 hx (by kernel_rfl) (fun k hk => by cases hk) (by kernel_rfl) (laid_met os))) ?_
  intro W base args ds gs before hval0 hW _ _ _ hL _ _
  have hval : ∀ (j : Nat) t v, Tryd.f3.params[j]? = some t → args[j]? = some v → Value.okWide Tryd.prog W .any base t v := hval0
  have hW' := hW
  obtain ⟨p, q, hA0, hV, rfl, _, _⟩ := hW
  have hA : DataW.TrodAll enc Tryd.prog W 0 (fun _ => true) true Tryd.f3.params.toList args.toList ds p := hA0
  rw [Tryd.params3] at hA hval
  obtain ⟨v0, vs0, d0, ds0, p0, q0, hargs, rfl, rfl, h0, r0⟩ := trodAll_cons hA
  obtain ⟨v1, vs1, d1, ds1, p1, q1, rfl, rfl, rfl, h1, r1⟩ := trodAll_cons r0
  obtain ⟨v2, vs2, d2, ds2, p2, q2, rfl, rfl, rfl, h2, r2⟩ := trodAll_cons r1
  obtain ⟨rfl, rfl, rfl⟩ := trodAll_nil r2
  obtain rfl : args = #[v0, v1, v2] := by cases args; simp_all
  obtain ⟨rfl, rfl⟩ := trodVars_none hV
  obtain ⟨a0, rfl, rfl, rfl, w0⟩ := open_int Tryd.underlying22 (hval 0 22 v0 rfl rfl) h0
  obtain ⟨a1, rfl, rfl, rfl, y1⟩ := open_string Tryd.underlying9 (hval 1 9 v1 rfl rfl) h1
  have k2 := h2
  have lt2 : ∀ x ∈ p2, x.block < W.heap.size := by obtain ⟨m, hm⟩ := k2; exact DataW.trod_lt m _ _ _ hm
  obtain ⟨a2, cs2, rfl, hk2, hg2⟩ := open_agg opn8 (by kernel_rfl) (hval 2 23 v2 rfl rfl) h2
  refine (walk W a0 w0 a1 a2 cs2 hk2 hg2 (table hL)).mono fun e W' ⟨he, bel⟩ => ?_
  subst he
  exact ⟨_, rfl, _, _, _, [], _, [], hW', trodAll_mk1 (shut_bool Tryd.underlying4 _), (trodAll_cons_mk (shut_int Tryd.underlying22 w0) (trodAll_cons_mk (shut_string Tryd.underlying9 y1) (trodAll_cons_mk (Below.trod laidOut (by kernel_rfl) (of_decide_eq_true (by kernel_rfl)) k2 bel lt2) trodAll_mk0))), rfl, bel.frame _, fun h => by cases h⟩
theorem said : Rows.NumTextsSaid :=
  OpenClaim.holds_of_cond 3 Tryd.f3 rfl rfl rfl rfl rfl rfl rfl ⟨rfl, rfl, rfl, rfl, rfl⟩ rfl rfl rfl rfl rfl (by kernel_rfl) Tryd.func3 (by kernel_rfl)
    (of_decide_eq_true (by kernel_rfl)) (by unfold Func.isWrapper; first | (rw [if_pos (by decide +kernel)]; kernel_rfl) | (rw [if_neg (by decide +kernel)]; exact ⟨rfl, rfl⟩))
    (fun os started H enc _ F => by rw [OpenClaim.pre_eq_preRow]; exact lifted os started H enc F)
theorem plain (f : FuncId) (fn : Func) (hf : Tryd.pinned.checked.prog.funcNamed "reticule/reticulelaw01.NumTexts" = some f) (hfn : Tryd.pinned.checked.prog.funcs[f]? = some fn) :
    false = Tryd.pinned.checked.prog.looks [] ∧ ∀ (j : Nat) t, fn.params[j]? = some t → Tryd.pinned.checked.prog.wantsStandIn t = false := by
  obtain rfl : f = 3 := Option.some.inj ((show Tryd.prog.funcNamed "reticule/reticulelaw01.NumTexts" = some 3 by kernel_rfl).symm.trans hf) |>.symm
  obtain rfl : fn = Tryd.f3 := (Option.some.inj (Tryd.func3.symm.trans hfn)).symm
  refine ⟨by kernel_rfl, fun j t ht => ?_⟩
  rw [Tryd.params3] at ht
  have hm := Array.mem_of_getElem? ht
  simp at hm
  rcases hm with rfl | rfl | rfl
  · exact (show Tryd.prog.wantsStandIn 22 = false by kernel_rfl)
  · exact (show Tryd.prog.wantsStandIn 9 = false by kernel_rfl)
  · exact (show Tryd.prog.wantsStandIn 23 = false by kernel_rfl)
theorem card : Rows.NumTextsCardSaid :=
  Claim7.holds_tied_plain_at .later [] _ _ _ _ said (fun _ h => by cases h) (by kernel_rfl) (fun _ h => by cases h) numTexts_row_tie rfl ⟨rfl, rfl⟩ (by kernel_rfl) rfl plain (by kernel_rfl)
#print axioms card
end Go.Proofs.YtmjnepficndpfaaDoor.numTexts
namespace Go.Proofs.YtmjnepficndpfaaDoor
/-- The card, under a short name, for the claim. -/
theorem numTexts_holds : Rows.NumTextsCardSaid := numTexts.card
end Go.Proofs.YtmjnepficndpfaaDoor
