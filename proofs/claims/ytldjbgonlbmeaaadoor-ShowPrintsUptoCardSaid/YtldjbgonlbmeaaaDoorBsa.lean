/- Dec, Wkp, Sh, Shb, Bld, Dig, Wkr, Wk1, One, Frp, Lay, Frm, Fro, TxtLib, Fi -/
import Derived.Below
import Derived.Test.YtldjbgonlbmeaaaDoorDpp
import Derived.Shelf.Strings.Builder1
import Derived.Shelf.Strings.Builder2
import Derived.Shelf.Strings.BuilderF
import Derived.Shelf.Strings.BuilderK
import Derived.Shelf.Strconv.Itoa0
import Derived.Shelf.Strconv.Itoa1
import Derived.Shelf.LaysM
import Derived.Shelf.Strconv.Itoa2
import Derived.Shelf.Strconv.Itoa3
import Derived.Shelf.Strconv.Itoa4
import Derived.Shelf.Strings.Search1
import Derived.Shelf.Strings.Search2
import Derived.Shelf.Strings.Search3
import Derived.Shelf.Strings.Count
import Derived.Shelf.Strings.Shaped
import Derived.Shelf.Strings.Prefix
import Derived.Shelf.Bits.Mul64
import Derived.Shelf.Strings.Repeat
import Derived.Test.YtldjbgonlbmeaaaDoorProg
import Derived.Ground.NamesProg
import Derived.Test.YtldjbgonlbmeaaaDoorKid
import Derived.WalkKit
import Derived.LoopTactic
import Derived.Outline
import Derived.OwnWalk
import Derived.Laws.Rows
import Derived.Laws.IdiomStrings
import Derived.Lib.Hide
import Derived.Lib.Repeat
import Derived.Lib.ItoaNum
import Derived.Lib.AppendIntMem
import Derived.Test.YtldjbgonlbmeaaaDoorWWords
set_option linter.unusedSimpArgs false
set_option linter.unusedVariables false
section
/- Decimal digits as bytes: plain lists, no program in sight. -/
namespace Go.Proofs.YtldjbgonlbmeaaaDoor.Dig

def dec (n : Nat) : List UInt8 := if n < 10 then [UInt8.ofNat (48 + n)] else dec (n / 10) ++ [UInt8.ofNat (48 + n % 10)]
termination_by n

theorem dec_small {n : Nat} (h : n < 10) : dec n = [UInt8.ofNat (48 + n)] := by rw [dec, if_pos h]
theorem dec_big {n : Nat} (h : ¬ n < 10) : dec n = dec (n / 10) ++ [UInt8.ofNat (48 + n % 10)] := by rw [dec, if_neg h]

theorem dec_pos (n : Nat) : 1 ≤ (dec n).length := by
 rw [dec]; split <;> simp

theorem dec_len : ∀ (k n : Nat), n < 10 ^ (k + 1) → (dec n).length ≤ k + 1
 | 0, n, h => by rw [dec_small (by simpa using h)]; simp
 | k + 1, n, h => by
  by_cases h10 : n < 10
  ·rw [dec_small h10]; simp
  ·rw [dec_big h10]
   have := dec_len k (n / 10) (by rw [Nat.pow_succ] at h; omega)
   simp; omega

def text (a : Int) : List UInt8 := if a < 0 then 45 :: dec a.natAbs else dec a.natAbs

theorem text_neg {a : Int} (h : a < 0) : text a = 45 :: dec a.natAbs := by rw [text, if_pos h]
theorem text_nat {a : Int} (h : ¬ a < 0) : text a = dec a.natAbs := by rw [text, if_neg h]

end Go.Proofs.YtldjbgonlbmeaaaDoor.Dig
end
section
/- How a form, and all below it, is told: plain lists, no program in sight. -/
namespace Go.Proofs.YtldjbgonlbmeaaaDoor.T
open Go.Proofs.YtldjbgonlbmeaaaDoor.Dig (text dec dec_len dec_small dec_big text_neg text_nat)
abbrev Tol := Bool × Nat × List UInt8
def wkids (rec : Int → Nat → List UInt8 → Tol) (n at_ : Int) : List Int → Bool → Nat → List UInt8 → Tol
 | [], _, left, out => (true, left, out ++ [41])
 | k :: ks, first, left, out =>
  if k ≤ at_ ∨ n ≤ k then (false, left, if first then out else out ++ [32]) else
  if (rec k left (if first then out else out ++ [32])).1 then wkids rec n at_ ks false (rec k left (if first then out else out ++ [32])).2.1 (rec k left (if first then out else out ++ [32])).2.2
  else rec k left (if first then out else out ++ [32])
def wone (l : List Fm) : Nat → Int → Nat → List UInt8 → Tol
 | 0, _, _, out => (false, 0, out)
 | d + 1, at_, left, out =>
  if left = 0 then (false, 0, out) else
  if (l.getD at_.toNat zFm).f0 = 4 then (true, left - 1, out ++ text (l.getD at_.toNat zFm).f2) else
  if (l.getD at_.toNat zFm).f0 = 3 then (true, left - 1, out ++ (l.getD at_.toNat zFm).f1.data.toList) else
  if (l.getD at_.toNat zFm).f0 = 1 then wkids (wone l d) l.length at_ (l.getD at_.toNat zFm).f3 true (left - 1) (out ++ [40]) else
  (false, left - 1, out)
theorem text_len {a : Int} (h0 : -9223372036854775808 ≤ a) (h1 : a ≤ 9223372036854775807) : (text a).length ≤ 20 := by
 have h := dec_len 18 a.natAbs (by omega)
 by_cases hn : a < 0
 ·rw [text_neg hn]; simp; omega
 ·rw [text_nat hn]; omega
def Mx (M : Nat) (l : List Fm) : Prop := ∀ f ∈ l, f.f1.size ≤ M ∧ -9223372036854775808 ≤ f.f2 ∧ f.f2 ≤ 9223372036854775807
theorem Mx.at {M : Nat} {l : List Fm} (h : Mx M l) (i : Nat) : (l.getD i zFm).f1.size ≤ M ∧ -9223372036854775808 ≤ (l.getD i zFm).f2 ∧ (l.getD i zFm).f2 ≤ 9223372036854775807 := by
 rw [List.getD_eq_getElem?_getD]
 by_cases hi : i < l.length
 ·rw [List.getElem?_eq_getElem hi]; exact h _ (List.getElem_mem hi)
 ·rw [List.getElem?_eq_none (by omega)]
  exact ⟨Nat.zero_le _, by decide, by decide⟩
def Pot (C : Nat) (left : Nat) (out : List UInt8) (r : Tol) : Prop := (left = 0 → r.1 = false ∧ r.2.1 = 0 ∧ r.2.2.length = out.length) ∧ (0 < left → r.2.2.length + r.2.1 * C + 1 ≤ out.length + left * C ∧ r.2.1 < left)
theorem wkids_pot {C : Nat} {rec : Int → Nat → List UInt8 → Tol} (hr : ∀ k left out, Pot C left out (rec k left out)) (n at_ : Int) : ∀ (ks : List Int) (first : Bool) (left : Nat) (out : List UInt8),
  (wkids rec n at_ ks first left out).2.2.length + (wkids rec n at_ ks first left out).2.1 * C ≤ out.length + left * C + 1 ∧ (wkids rec n at_ ks first left out).2.1 ≤ left
 | [], first, left, out => by
  unfold wkids
  simp only [List.length_append, List.length_cons, List.length_nil]
  omega
 | k :: ks, first, left, out => by
  unfold wkids
  have ho : (if first then out else out ++ [32]).length ≤ out.length + 1 := by cases first <;> simp
  generalize (if first then out else out ++ [32]) = o at ho
  split
  ·simp only; omega
  ·obtain ⟨h1, h2⟩ := hr k left o
   generalize rec k left o = r at h1 h2
   by_cases h0 : left = 0
   ·obtain ⟨e1, e2, e3⟩ := h1 h0
    rw [if_neg (by rw [e1]; decide), e2, h0]
    omega
   ·obtain ⟨e1, e2⟩ := h2 (by omega)
    split
    ·have ih := wkids_pot hr n at_ ks false r.2.1 r.2.2
     omega
    ·omega
theorem wone_pot {M : Nat} {l : List Fm} (h : Mx M l) : ∀ (d : Nat) (at_ : Int) (left : Nat) (out : List UInt8), Pot (M + 24) left out (wone l d at_ left out)
 | 0, at_, left, out => ⟨fun _ => ⟨rfl, rfl, rfl⟩, fun h0 => by
  obtain ⟨q, rfl⟩ : ∃ q, left = q + 1 := ⟨left - 1, by omega⟩
  unfold wone
  rw [Nat.succ_mul]
  simp
  omega⟩
 | d + 1, at_, left, out => by
  obtain ⟨m1, m2, m3⟩ := h.at at_.toNat
  refine ⟨fun h0 => ?_, fun h0 => ?_⟩
  ·subst h0
   simp [wone]
  ·have hc : left * (M + 24) = (left - 1) * (M + 24) + (M + 24) := by
    obtain ⟨q, rfl⟩ : ∃ q, left = q + 1 := ⟨left - 1, by omega⟩
    rw [Nat.add_sub_cancel, Nat.succ_mul]
   unfold wone
   rw [if_neg (by omega)]
   split
   ·have := text_len m2 m3
    simp only [List.length_append]
    omega
   ·split
    ·have e : (l.getD at_.toNat zFm).f1.data.toList.length = (l.getD at_.toNat zFm).f1.size := by rw [Array.length_toList]; rfl
     simp only [List.length_append, e]
     omega
    ·split
     ·have := wkids_pot (wone_pot h d) l.length at_ (l.getD at_.toNat zFm).f3 true (left - 1) (out ++ [40])
      simp only [List.length_append, List.length_cons, List.length_nil] at this
      omega
     ·simp only
      omega
end Go.Proofs.YtldjbgonlbmeaaaDoor.T
end
section
/- The shelf's contracts, laid over this program. -/
namespace Go.Proofs
open Go.Shelf
def Tryd.lays169_ren : Go.Shelf.Ren := ⟨fun | 169 => 21 | n => n, fun | 70 => 36 | 9 => 9 | 0 => 0 | 72 => 39 | 37 => 37 | 127 => 67 | 3 => 3 | 5 => 5 | n => n, fun | n => n⟩
theorem Tryd.lays169 : Go.Proofs.Lays.n169 Tryd.prog Tryd.lays169_ren := {
 mixed := by kernel_rfl
 f169 := Tryd.func21.trans (congrArg some (by kernel_rfl))
 t0 := Tryd.underlying0
 a0 := Tryd.isAgg0
 z0 := Tryd.sizeOf0
 v0 := Tryd.zeroValue0
 t3 := Tryd.underlying3
 a3 := Tryd.isAgg3
 z3 := Tryd.sizeOf3
 v3 := Tryd.zeroValue3
 t9 := Tryd.underlying9
 a9 := Tryd.isAgg9
 z9 := Tryd.sizeOf9
 v9 := Tryd.zeroValue9
 t37 := Tryd.underlying37
 a37 := Tryd.isAgg37
 z37 := Tryd.sizeOf37
 v37 := Tryd.zeroValue37
 t70 := Tryd.underlying36
 a70 := Tryd.isAgg36
 z70 := Tryd.sizeOf36
 v70 := Tryd.zeroValue36
 t72 := Tryd.underlying39
 a72 := Tryd.isAgg39
 z72 := Tryd.sizeOf39
 v72 := Tryd.zeroValue39
 t127 := Tryd.underlying67
 a127 := Tryd.isAgg67
 z127 := Tryd.sizeOf67
 v127 := Tryd.zeroValue67 }
theorem Tryd.Builder_Extra_169 : Builder.Extra Tryd.prog Tryd.lays169_ren := {
 sizeBuilder := by kernel_rfl
 liesBuilder := by kernel_rfl
 t5 := Tryd.underlying5
 a5 := Tryd.isAgg5
 z5 := Tryd.sizeOf5
 v5 := Tryd.zeroValue5
 infoByte := by kernel_rfl
 cellsByte := by kernel_rfl
 sizeByte := by kernel_rfl
 neB5 := by decide }
open Go.RowKit in
theorem Tryd.Builder_String_any_k (B b : Nat) (l : List UInt8) (w : World) (h : Lib.IsBuilderF 39 5 B b (Lib.byteCells l) w) (hBw : B ≤ w.heap.size) :
  Calls Tryd.prog 21 #[.pointer (some ⟨b, 0, none⟩)] w fun e w' => e = .returned (.string ⟨l.toArray⟩) ∧ (Lib.IsBuilderF 39 5 B b (Lib.byteCells l) w' ∧ Below B w w' ∧ Lib.OthersKept 5 (some b) w w') := Any.Builder_String_any_k Tryd.lays169 Tryd.Builder_Extra_169 B b l w h hBw
def Tryd.laysM173_ren : Go.Shelf.Ren := ⟨fun | 173 => 50 | 246 => 58 | 283 => 67 | 284 => 68 | 285 => 69 | 286 => 70 | 129 => 78 | 317 => 77 | 318 => 79 | 319 => 80 | 320 => 81 | 337 => 83 | 338 => 84 | n => n, fun | 2 => 2 | 3 => 3 | 9 => 9 | 4 => 4 | 171 => 94 | 0 => 0 | 53 => 81 | 37 => 37 | 5 => 5 | 173 => 97 | 212 => 106 | 51 => 99 | 20 => 20 | 213 => 107 | 46 => 87 | 232 => 111 | 233 => 112 | n => n, fun | 17 => 1 | 18 => 2 | 19 => 3 | n => n⟩
theorem Tryd.laysM173 : Go.Proofs.LaysM.n173 Tryd.prog Tryd.laysM173_ren := {
 mixed := by kernel_rfl
 f129 := Tryd.func78.trans (congrArg some (by kernel_rfl))
 f173 := Tryd.func50.trans (congrArg some (by kernel_rfl))
 f246 := Tryd.func58.trans (congrArg some (by kernel_rfl))
 f283 := Tryd.func67.trans (congrArg some (by kernel_rfl))
 f284 := Tryd.func68.trans (congrArg some (by kernel_rfl))
 f285 := Tryd.func69.trans (congrArg some (by kernel_rfl))
 f286 := Tryd.func70.trans (congrArg some (by kernel_rfl))
 f317 := Tryd.func77.trans (congrArg some (by kernel_rfl))
 f318 := Tryd.func79.trans (congrArg some (by kernel_rfl))
 f319 := Tryd.func80.trans (congrArg some (by kernel_rfl))
 f320 := Tryd.func81.trans (congrArg some (by kernel_rfl))
 f337 := Tryd.func83.trans (congrArg some (by kernel_rfl))
 f338 := Tryd.func84.trans (congrArg some (by kernel_rfl))
 t0 := Tryd.underlying0
 a0 := Tryd.isAgg0
 z0 := Tryd.sizeOf0
 v0 := Tryd.zeroValue0
 t2 := Tryd.underlying2
 a2 := Tryd.isAgg2
 z2 := Tryd.sizeOf2
 v2 := Tryd.zeroValue2
 t3 := Tryd.underlying3
 a3 := Tryd.isAgg3
 z3 := Tryd.sizeOf3
 v3 := Tryd.zeroValue3
 t4 := Tryd.underlying4
 a4 := Tryd.isAgg4
 z4 := Tryd.sizeOf4
 v4 := Tryd.zeroValue4
 t5 := Tryd.underlying5
 a5 := Tryd.isAgg5
 z5 := Tryd.sizeOf5
 v5 := Tryd.zeroValue5
 t9 := Tryd.underlying9
 a9 := Tryd.isAgg9
 z9 := Tryd.sizeOf9
 v9 := Tryd.zeroValue9
 t20 := Tryd.underlying20
 a20 := Tryd.isAgg20
 z20 := Tryd.sizeOf20
 v20 := Tryd.zeroValue20
 t37 := Tryd.underlying37
 a37 := Tryd.isAgg37
 z37 := Tryd.sizeOf37
 v37 := Tryd.zeroValue37
 t46 := Tryd.underlying87
 a46 := Tryd.isAgg87
 z46 := Tryd.sizeOf87
 v46 := Tryd.zeroValue87
 t51 := Tryd.underlying99
 a51 := Tryd.isAgg99
 z51 := Tryd.sizeOf99
 v51 := Tryd.zeroValue99
 t53 := Tryd.underlying81
 a53 := Tryd.isAgg81
 z53 := Tryd.sizeOf81
 v53 := Tryd.zeroValue81
 t171 := Tryd.underlying94
 a171 := Tryd.isAgg94
 z171 := Tryd.sizeOf94
 v171 := Tryd.zeroValue94
 t173 := Tryd.underlying97
 a173 := Tryd.isAgg97
 z173 := Tryd.sizeOf97
 v173 := Tryd.zeroValue97
 t212 := Tryd.underlying106
 a212 := Tryd.isAgg106
 z212 := Tryd.sizeOf106
 v212 := Tryd.zeroValue106
 t213 := Tryd.underlying107
 a213 := Tryd.isAgg107
 z213 := Tryd.sizeOf107
 t232 := Tryd.underlying111
 a232 := Tryd.isAgg111
 z232 := Tryd.sizeOf111
 v232 := Tryd.zeroValue111
 t233 := Tryd.underlying112
 a233 := Tryd.isAgg112
 z233 := Tryd.sizeOf112
 v233 := Tryd.zeroValue112
 g17 := by kernel_rfl
 g18 := by kernel_rfl
 g19 := by kernel_rfl
 i0 := by kernel_rfl
 i2 := by kernel_rfl
 i3 := by kernel_rfl
 i4 := by kernel_rfl
 i5 := by kernel_rfl
 i9 := by kernel_rfl
 i20 := by kernel_rfl
 i37 := by kernel_rfl
 i46 := by kernel_rfl
 i51 := by kernel_rfl
 i53 := by kernel_rfl
 i171 := by kernel_rfl
 i173 := by kernel_rfl
 i212 := by kernel_rfl
 i232 := by kernel_rfl
 i233 := by kernel_rfl
 m17 := by kernel_rfl
 m18 := by kernel_rfl
 m19 := by kernel_rfl }
open Go.RowKit Go.Sort Go.Lib in
theorem Tryd.strconv_FormatInt_10 (n : Int) (h0 : -9223372036854775808 ≤ n) (h1 : n ≤ 9223372036854775807) (w : World) (htab : Lib.TabIs Tryd.prog w "internal/strconv.uint64pow10" .u64 Lib.pow10Tab) :
  Calls Tryd.prog 50 #[.int .i64 n, .int .i64 10] w fun e w' => e = .returned (.string ⟨(Lib.itoa n).toArray⟩) ∧ ∃ k os, w' = grow (w.drewN k) os := Any.strconv_FormatInt_10 Tryd.laysM173 n h0 h1 w htab
def Tryd.lays138_ren : Go.Shelf.Ren := ⟨fun | 138 => 29 | 195 => 43 | 218 => 44 | 143 => 45 | 219 => 52 | 217 => 63 | 225 => 64 | 224 => 65 | 267 => 66 | 266 => 75 | 314 => 76 | n => n, fun | 9 => 9 | 3 => 3 | 4 => 4 | 5 => 5 | 0 => 0 | 46 => 87 | 146 => 100 | 51 => 99 | n => n, fun | 1 => 0 | n => n⟩
theorem Tryd.lays138 : Go.Proofs.Lays.n138 Tryd.prog Tryd.lays138_ren := {
 mixed := by kernel_rfl
 f138 := Tryd.func29.trans (congrArg some (by kernel_rfl))
 f143 := Tryd.func45.trans (congrArg some (by kernel_rfl))
 f195 := Tryd.func43.trans (congrArg some (by kernel_rfl))
 f217 := Tryd.func63.trans (congrArg some (by kernel_rfl))
 f218 := Tryd.func44.trans (congrArg some (by kernel_rfl))
 f219 := Tryd.func52.trans (congrArg some (by kernel_rfl))
 f224 := Tryd.func65.trans (congrArg some (by kernel_rfl))
 f225 := Tryd.func64.trans (congrArg some (by kernel_rfl))
 f266 := Tryd.func75.trans (congrArg some (by kernel_rfl))
 f267 := Tryd.func66.trans (congrArg some (by kernel_rfl))
 f314 := Tryd.func76.trans (congrArg some (by kernel_rfl))
 t0 := Tryd.underlying0
 a0 := Tryd.isAgg0
 z0 := Tryd.sizeOf0
 v0 := Tryd.zeroValue0
 t3 := Tryd.underlying3
 a3 := Tryd.isAgg3
 z3 := Tryd.sizeOf3
 v3 := Tryd.zeroValue3
 t4 := Tryd.underlying4
 a4 := Tryd.isAgg4
 z4 := Tryd.sizeOf4
 v4 := Tryd.zeroValue4
 t5 := Tryd.underlying5
 a5 := Tryd.isAgg5
 z5 := Tryd.sizeOf5
 v5 := Tryd.zeroValue5
 t9 := Tryd.underlying9
 a9 := Tryd.isAgg9
 z9 := Tryd.sizeOf9
 v9 := Tryd.zeroValue9
 t46 := Tryd.underlying87
 a46 := Tryd.isAgg87
 z46 := Tryd.sizeOf87
 v46 := Tryd.zeroValue87
 t51 := Tryd.underlying99
 a51 := Tryd.isAgg99
 z51 := Tryd.sizeOf99
 v51 := Tryd.zeroValue99
 t146 := Tryd.underlying100
 a146 := Tryd.isAgg100
 z146 := Tryd.sizeOf100
 v146 := Tryd.zeroValue100
 g1 := by kernel_rfl }
open Go.RowKit Go.Lib in
theorem Tryd.strings_Count_one (s : ByteArray) (c : UInt8) (w : World) :
  Calls Tryd.prog 29 #[.string s, .string ⟨#[c]⟩] w fun e w' => e = .returned (.int .i64 (Lib.countByte s.data.toList c)) ∧ w' = w := Any.strings_Count_one Tryd.lays138 s c w
def Tryd.lays105_ren : Go.Shelf.Ren := ⟨fun | 105 => 51 | 212 => 59 | 99 => 60 | 165 => 61 | 166 => 19 | 170 => 62 | 169 => 21 | 263 => 71 | 264 => 72 | 206 => 73 | 240 => 33 | 241 => 74 | 276 => 48 | 277 => 82 | n => n, fun | 9 => 9 | 3 => 3 | 4 => 4 | 20 => 20 | 0 => 0 | 46 => 87 | 109 => 88 | 5 => 5 | 72 => 39 | 76 => 42 | 51 => 99 | 146 => 100 | 53 => 81 | 148 => 102 | 70 => 36 | 37 => 37 | 75 => 41 | 127 => 67 | 164 => 77 | 80 => 45 | n => n, fun | n => n⟩
theorem Tryd.lays105 : Go.Proofs.Lays.n105 Tryd.prog Tryd.lays105_ren := {
 mixed := by kernel_rfl
 f99 := Tryd.func60.trans (congrArg some (by kernel_rfl))
 f105 := Tryd.func51.trans (congrArg some (by kernel_rfl))
 f165 := Tryd.func61.trans (congrArg some (by kernel_rfl))
 f166 := Tryd.func19.trans (congrArg some (by kernel_rfl))
 f169 := Tryd.func21.trans (congrArg some (by kernel_rfl))
 f170 := Tryd.func62.trans (congrArg some (by kernel_rfl))
 f206 := Tryd.func73.trans (congrArg some (by kernel_rfl))
 f212 := Tryd.func59.trans (congrArg some (by kernel_rfl))
 f240 := Tryd.func33.trans (congrArg some (by kernel_rfl))
 f241 := Tryd.func74.trans (congrArg some (by kernel_rfl))
 f263 := Tryd.func71.trans (congrArg some (by kernel_rfl))
 f264 := Tryd.func72.trans (congrArg some (by kernel_rfl))
 f276 := Tryd.func48.trans (congrArg some (by kernel_rfl))
 f277 := Tryd.func82.trans (congrArg some (by kernel_rfl))
 t0 := Tryd.underlying0
 a0 := Tryd.isAgg0
 z0 := Tryd.sizeOf0
 v0 := Tryd.zeroValue0
 t3 := Tryd.underlying3
 a3 := Tryd.isAgg3
 z3 := Tryd.sizeOf3
 v3 := Tryd.zeroValue3
 t4 := Tryd.underlying4
 a4 := Tryd.isAgg4
 z4 := Tryd.sizeOf4
 v4 := Tryd.zeroValue4
 t5 := Tryd.underlying5
 a5 := Tryd.isAgg5
 z5 := Tryd.sizeOf5
 v5 := Tryd.zeroValue5
 t9 := Tryd.underlying9
 a9 := Tryd.isAgg9
 z9 := Tryd.sizeOf9
 v9 := Tryd.zeroValue9
 t20 := Tryd.underlying20
 a20 := Tryd.isAgg20
 z20 := Tryd.sizeOf20
 v20 := Tryd.zeroValue20
 t37 := Tryd.underlying37
 a37 := Tryd.isAgg37
 z37 := Tryd.sizeOf37
 v37 := Tryd.zeroValue37
 t46 := Tryd.underlying87
 a46 := Tryd.isAgg87
 z46 := Tryd.sizeOf87
 v46 := Tryd.zeroValue87
 t51 := Tryd.underlying99
 a51 := Tryd.isAgg99
 z51 := Tryd.sizeOf99
 v51 := Tryd.zeroValue99
 t53 := Tryd.underlying81
 a53 := Tryd.isAgg81
 z53 := Tryd.sizeOf81
 v53 := Tryd.zeroValue81
 t70 := Tryd.underlying36
 a70 := Tryd.isAgg36
 z70 := Tryd.sizeOf36
 v70 := Tryd.zeroValue36
 t72 := Tryd.underlying39
 a72 := Tryd.isAgg39
 z72 := Tryd.sizeOf39
 v72 := Tryd.zeroValue39
 t75 := Tryd.underlying41
 a75 := Tryd.isAgg41
 z75 := Tryd.sizeOf41
 v75 := Tryd.zeroValue41
 t76 := Tryd.underlying42
 a76 := Tryd.isAgg42
 z76 := Tryd.sizeOf42
 v76 := Tryd.zeroValue42
 t109 := Tryd.underlying88
 a109 := Tryd.isAgg88
 z109 := Tryd.sizeOf88
 v109 := Tryd.zeroValue88
 t127 := Tryd.underlying67
 a127 := Tryd.isAgg67
 z127 := Tryd.sizeOf67
 v127 := Tryd.zeroValue67
 t146 := Tryd.underlying100
 a146 := Tryd.isAgg100
 z146 := Tryd.sizeOf100
 v146 := Tryd.zeroValue100
 t148 := Tryd.underlying102
 a148 := Tryd.isAgg102
 z148 := Tryd.sizeOf102
 v148 := Tryd.zeroValue102
 t164 := Tryd.underlying77
 a164 := Tryd.isAgg77
 z164 := Tryd.sizeOf77
 v164 := Tryd.zeroValue77 }
theorem Tryd.Builder_Extra_105 : Builder.Extra Tryd.prog Tryd.lays105_ren := {
 sizeBuilder := by kernel_rfl
 liesBuilder := by kernel_rfl
 t5 := Tryd.underlying5
 a5 := Tryd.isAgg5
 z5 := Tryd.sizeOf5
 v5 := Tryd.zeroValue5
 infoByte := by kernel_rfl
 cellsByte := by kernel_rfl
 sizeByte := by kernel_rfl
 neB5 := by decide }
open Go.RowKit Go.Lib in
theorem Tryd.strings_Repeat (s : ByteArray) (c : Nat) (w : World) (hc : c ≤ 9223372036854775807) (hlen : s.size * c ≤ 140737488355328) :
  Calls Tryd.prog 51 #[.string s, .int .i64 c] w fun e w' => e = .returned (.string ⟨(Lib.repeatL s.data.toList c).toArray⟩) ∧ Below w.heap.size w w' := Any.strings_Repeat Tryd.lays105 Tryd.Builder_Extra_105 s c w hc hlen
end Go.Proofs
end
section
/- The shelf's facts for strings.Builder's writers, over this program. -/
namespace Go.Proofs
open Go.Shelf
def Tryd.lays166_ren : Go.Shelf.Ren := ⟨fun | 166 => 19 | 240 => 33 | 276 => 48 | n => n, fun | 0 => 0 | 3 => 3 | 4 => 4 | 5 => 5 | 9 => 9 | 20 => 20 | 37 => 37 | 70 => 36 | 72 => 39 | 75 => 41 | 80 => 45 | 164 => 77 | n => n, fun | n => n⟩
theorem Tryd.lays166 : Go.Proofs.Lays.n166 Tryd.prog Tryd.lays166_ren := {
 mixed := by kernel_rfl
 f166 := Tryd.func19.trans (congrArg some (by kernel_rfl))
 f240 := Tryd.func33.trans (congrArg some (by kernel_rfl))
 f276 := Tryd.func48.trans (congrArg some (by kernel_rfl))
 t0 := Tryd.underlying0
 a0 := Tryd.isAgg0
 z0 := Tryd.sizeOf0
 v0 := Tryd.zeroValue0
 t3 := Tryd.underlying3
 a3 := Tryd.isAgg3
 z3 := Tryd.sizeOf3
 v3 := Tryd.zeroValue3
 t4 := Tryd.underlying4
 a4 := Tryd.isAgg4
 z4 := Tryd.sizeOf4
 v4 := Tryd.zeroValue4
 t9 := Tryd.underlying9
 a9 := Tryd.isAgg9
 z9 := Tryd.sizeOf9
 v9 := Tryd.zeroValue9
 t20 := Tryd.underlying20
 a20 := Tryd.isAgg20
 z20 := Tryd.sizeOf20
 v20 := Tryd.zeroValue20
 t37 := Tryd.underlying37
 a37 := Tryd.isAgg37
 z37 := Tryd.sizeOf37
 v37 := Tryd.zeroValue37
 t70 := Tryd.underlying36
 a70 := Tryd.isAgg36
 z70 := Tryd.sizeOf36
 v70 := Tryd.zeroValue36
 t72 := Tryd.underlying39
 a72 := Tryd.isAgg39
 z72 := Tryd.sizeOf39
 v72 := Tryd.zeroValue39
 t75 := Tryd.underlying41
 a75 := Tryd.isAgg41
 z75 := Tryd.sizeOf41
 v75 := Tryd.zeroValue41
 t164 := Tryd.underlying77
 a164 := Tryd.isAgg77
 z164 := Tryd.sizeOf77
 v164 := Tryd.zeroValue77 }
theorem Tryd.Builder_Extra_166 : Builder.Extra Tryd.prog Tryd.lays166_ren := {
 sizeBuilder := by kernel_rfl
 liesBuilder := by kernel_rfl
 t5 := Tryd.underlying5
 a5 := Tryd.isAgg5
 z5 := Tryd.sizeOf5
 v5 := Tryd.zeroValue5
 infoByte := by kernel_rfl
 cellsByte := by kernel_rfl
 sizeByte := by kernel_rfl
 neB5 := by decide }
def Tryd.lays167_ren : Go.Shelf.Ren := ⟨fun | 167 => 20 | 240 => 33 | 276 => 48 | n => n, fun | 0 => 0 | 4 => 4 | 5 => 5 | 9 => 9 | 20 => 20 | 37 => 37 | 70 => 36 | 72 => 39 | 75 => 41 | 80 => 45 | 164 => 77 | n => n, fun | n => n⟩
theorem Tryd.lays167 : Go.Proofs.Lays.n167 Tryd.prog Tryd.lays167_ren := {
 mixed := by kernel_rfl
 f167 := Tryd.func20.trans (congrArg some (by kernel_rfl))
 f240 := Tryd.func33.trans (congrArg some (by kernel_rfl))
 f276 := Tryd.func48.trans (congrArg some (by kernel_rfl))
 t0 := Tryd.underlying0
 a0 := Tryd.isAgg0
 z0 := Tryd.sizeOf0
 v0 := Tryd.zeroValue0
 t4 := Tryd.underlying4
 a4 := Tryd.isAgg4
 z4 := Tryd.sizeOf4
 v4 := Tryd.zeroValue4
 t5 := Tryd.underlying5
 a5 := Tryd.isAgg5
 z5 := Tryd.sizeOf5
 v5 := Tryd.zeroValue5
 t9 := Tryd.underlying9
 a9 := Tryd.isAgg9
 z9 := Tryd.sizeOf9
 v9 := Tryd.zeroValue9
 t20 := Tryd.underlying20
 a20 := Tryd.isAgg20
 z20 := Tryd.sizeOf20
 v20 := Tryd.zeroValue20
 t37 := Tryd.underlying37
 a37 := Tryd.isAgg37
 z37 := Tryd.sizeOf37
 v37 := Tryd.zeroValue37
 t70 := Tryd.underlying36
 a70 := Tryd.isAgg36
 z70 := Tryd.sizeOf36
 v70 := Tryd.zeroValue36
 t72 := Tryd.underlying39
 a72 := Tryd.isAgg39
 z72 := Tryd.sizeOf39
 v72 := Tryd.zeroValue39
 t75 := Tryd.underlying41
 a75 := Tryd.isAgg41
 z75 := Tryd.sizeOf41
 v75 := Tryd.zeroValue41
 t164 := Tryd.underlying77
 a164 := Tryd.isAgg77
 z164 := Tryd.sizeOf77
 v164 := Tryd.zeroValue77 }
theorem Tryd.Builder_Extra_167 : Builder.Extra Tryd.prog Tryd.lays167_ren := {
 sizeBuilder := by kernel_rfl
 liesBuilder := by kernel_rfl
 t5 := Tryd.underlying5
 a5 := Tryd.isAgg5
 z5 := Tryd.sizeOf5
 v5 := Tryd.zeroValue5
 infoByte := by kernel_rfl
 cellsByte := by kernel_rfl
 sizeByte := by kernel_rfl
 neB5 := by decide }
end Go.Proofs
end
section
/- strings.Builder: what a builder holds, and its writers. -/
set_option linter.unusedSimpArgs false
set_option linter.unusedVariables false
namespace Go.Proofs.YtldjbgonlbmeaaaDoor.T
open Go.RowKit Go.Proofs.YtldjbgonlbmeaaaDoor.PA Go.Proofs.YtldjbgonlbmeaaaDoorW.PrintWords Go.Proofs.YtldjbgonlbmeaaaDoorW.PrintLast Go.Proofs.YtldjbgonlbmeaaaDoorW.PrintMore
theorem goesV_ {P : Program} {ops : Array Oper} {Q : Exit → Act → World → Prop} {oi : Oper} {N : Option Tmp} {a : Act} {w : World} {K : Act → World → Prop} {f : FuncId} {fn : Func} {zs : Array Operand} {ts : Array TypeId} {t : Operand} {cap : Array Value} (hf : P.funcs[f]? = some fn) (hname : (fn.name == "runtime.NumGoroutine") = false) (hb : fn.body.isSome = true) (args : Array Value)
  (hw : Region.wanted oi (yielded ops a.tmps) = true) (hN : oi.dst = N) (hop : oi.op = .call { callee := .value t, args := zs, argTypes := ts }) (ht : a.eval t = .func (.func f) #[] cap) (hargs : zs.map a.eval ++ cap = args)
  (h : Calls P f args w fun e w' => ∃ v, e = .returned v ∧ K (a.put N v) w') : if Region.wanted oi (yielded ops a.tmps) = true then Oper.wp P oi a w K Q else K (a.put N undef) w := by
 refine call_ f args hw hN ?_ h
 have he := enters_ hf hname hb args w
 unfold execOp
 simp [hop, resolve, Deferred.ofValue, invoke, ht, hargs, he]
def Bl (W : World) (B b : Nat) (out : List UInt8) : Prop := Lib.IsBuilderF 39 5 B b (Lib.byteCells out) W
section
variable {w W W' : World} {B b : Nat} {out : List UInt8}
theorem Bl.new (hB : B ≤ W.heap.size) : Bl (W.alloc (.cells #[.pointer none, .slice none 0 0] 39)) B W.heap.size [] :=
 .inl ⟨hB, .slice none 0 0, World.alloc_heap_new _ _, World.ownsRowF_nil _ _ _ _, by simp [Value.ownBlock]⟩
theorem Bl.lt (h : Bl W B b out) : b < W.heap.size := Or.elim h (fun x => x.lt) (fun x => x.lt)
theorem Bl.typed (h : Bl W B b out) : ∃ cs, W.heap[b]? = some (Obj.cells cs 39 (0, 0)) := Or.elim h (fun ⟨_, _, hb, _⟩ => ⟨_, hb⟩) (fun ⟨_, _, hb, _⟩ => ⟨_, hb⟩)
theorem Bl.keep (h : Bl W B b out) (hk : W'.heap[b]? = W.heap[b]?) (hr : ∀ (k : Nat) (c : Array Value) (fz : Nat × Nat), W.heap[k]? = some (Obj.cells c 5 fz) → W'.heap[k]? = some (Obj.cells c 5 fz)) : Bl W' B b out := by
 have one : ∀ p, Lib.BuilderAtF 39 5 B b p (Lib.byteCells out) W → Lib.BuilderAtF 39 5 B b p (Lib.byteCells out) W' := by
  rintro p ⟨hB, v, hb, ⟨h1, h2⟩, hn⟩
  refine ⟨hB, v, hk.trans hb, ⟨h1, ?_⟩, hn⟩
  rcases h2 with h2 | ⟨g, cap, cur, fz, rfl, hg, hh, r⟩
  ·exact .inl h2
  ·exact .inr ⟨g, cap, cur, fz, rfl, hg, hr _ _ _ hh, r⟩
 exact Or.elim h (fun x => .inl (one _ x)) (fun x => .inr (one _ x))
theorem Bl.set (h : Bl W B b out) {p : Addr} {t : TypeId} {cs : Array Value} (hp : W.heap[p.block]? = some (.cells cs t (0, 0))) (ht : t ≠ 5) (hb : b ≠ p.block) (v : Value) : Bl (W.setCell p v) B b out :=
 h.keep (Below.heap_setCell _ _ _ _ hb) (fun k c fz hk => (Below.heap_setCell _ _ _ _ (fun e => by
  subst e
  rw [hp] at hk
  injection hk with hk
  injection hk with _ hk
  exact ht hk)).trans hk)
theorem Bl.below (h : Bl W B b out) (hb : Below W.heap.size W W') : Bl W' B b out :=
 h.keep (hb.block b h.lt) (fun k c fz hk => (hb.block k (Array.getElem?_eq_some_iff.1 hk).1).trans hk)
theorem kept_by {e b k : Nat} {W W' : World} (h : Lib.OthersKept e (some b) W W') {cs : Array Value} {t : TypeId} {fz : Nat × Nat} (hk : W.heap[k]? = some (.cells cs t fz)) (ht : t ≠ e) (hb : k ≠ b) : W'.heap[k]? = some (.cells cs t fz) :=
 h k _ hk (fun e1 => hb (Option.some.inj e1)) (fun c fz' e1 => by injection e1 with _ e1; exact ht e1)
end
theorem byte_ok (B b : Nat) (out : List UInt8) (c : UInt8) (w : World) (h : Bl w B b out) (hlen : out.length + 1 ≤ 140737488355328) (hB : B ≤ w.heap.size) :
  Calls Tryd.prog 20 #[.pointer (some ⟨b, 0, none⟩), .int .u8 c.toNat] w fun e w' => e = .returned .nilIface ∧ Bl w' B b (out ++ [c]) ∧ Below B w w' ∧ Lib.OthersKept 5 (some b) w w' := by
 refine (Any.Builder_WriteByte_k Tryd.lays167 Tryd.Builder_Extra_167 B b _ c.toNat w h (by rw [show (Lib.byteCells out).length = out.length from by simp [Lib.byteCells]]; exact hlen) hB).mono ?_
 rintro e w' ⟨h1, h2, h3, h4⟩
 refine ⟨h1, .inr ?_, h3, h4⟩
 rw [Lib.byteCells_append]
 exact h2
theorem str_ok (B b : Nat) (out : List UInt8) (s : ByteArray) (w : World) (h : Bl w B b out) (hlen : out.length + s.size ≤ 140737488355328) (hB : B ≤ w.heap.size) :
  Calls Tryd.prog 19 #[.pointer (some ⟨b, 0, none⟩), .string s] w fun e w' => (∃ v, e = .returned (.tuple #[v, .nilIface])) ∧ Bl w' B b (out ++ s.data.toList) ∧ Below B w w' ∧ Lib.OthersKept 5 (some b) w w' := by
 refine (Any.Builder_WriteString_k Tryd.lays166 Tryd.Builder_Extra_166 B b _ s w h (by rw [show (Lib.byteCells out).length = out.length from by simp [Lib.byteCells]]; exact hlen) hB).mono ?_
 rintro e w' ⟨h1, h2, h3, h4⟩
 refine ⟨⟨_, h1⟩, .inr ?_, h3, h4⟩
 rw [Lib.byteCells_append]
 exact h2
theorem string_ok (B b : Nat) (out : List UInt8) (w : World) (h : Bl w B b out) (hB : B ≤ w.heap.size) :
  Calls Tryd.prog 21 #[.pointer (some ⟨b, 0, none⟩)] w fun e w' => e = .returned (.string ⟨out.toArray⟩) ∧ Bl w' B b out ∧ Below B w w' ∧ Lib.OthersKept 5 (some b) w w' :=
 Tryd.Builder_String_any_k B b out w h hB
end Go.Proofs.YtldjbgonlbmeaaaDoor.T
end
section
/- The digits of a number, as num.Digits tells them. -/
namespace Go.Proofs.YtldjbgonlbmeaaaDoor.Dig
open Go.RowKit

def Arr (w : World) (B : Nat) (T : Nat) (cs : List Value) : Prop := w.heap[B]? = some (.cells cs.toArray T (0, 0))

theorem Arr.cell {w : World} {B T : Nat} {cs : List Value} (h : Arr w B T cs) (i : Nat) (hi : i < cs.length) : w.cell? ⟨B, i, none⟩ = some cs[i] := by
 unfold Arr at h
 simp [World.cell?, h, hi]
theorem Arr.free {w : World} {B T : Nat} {cs : List Value} (h : Arr w B T cs) (i : Nat) : w.frozen? ⟨B, i, none⟩ = false := by
 unfold Arr at h
 simp [World.frozen?, h]
theorem Arr.set {w : World} {B T : Nat} {cs : List Value} (h : Arr w B T cs) (i : Nat) (v : Value) : Arr (w.setCell ⟨B, i, none⟩ v) B T (cs.set i v) := by
 unfold Arr at h ⊢
 simp [World.setCell, Array.getElem?_modify, h]
theorem Arr.new (w : World) (T : Nat) (cs : List Value) : Arr (w.alloc (.cells cs.toArray T (0, 0))) w.heap.size T cs := by
 unfold Arr
 show (w.heap.push _)[w.heap.size]? = _
 simp

theorem slice20 (W : World) (a : Addr) (n : Int) (l : Nat) (hn : n = l) (hl : l < 20) : (Instr.sliceAt 80 (.pointer (some a)) (some (.int .i64 n)) none none).run Tryd.prog W = .ok (.slice (some (a.add l)) (20 - l) (20 - l)) W := by
 subst hn
 have h1 : Tryd.prog.arrayLen 80 = 20 := by kernel_rfl
 have h2 : Tryd.prog.elem 80 = 5 := by kernel_rfl
 have hu : Tryd.prog.underlying 80 = some (.array 20 5) := by kernel_rfl
 have h3 : ∀ w, (sizeOf 5).run Tryd.prog w = .ok 1 w := fun w => by kernel_rfl
 rw [run_sliceAt_array_l W 80 a (by rw [h1, h2]; exact hu) .i64 l (by omega) (by rw [h1]; omega), h1, h2, h3]
 simp [Result.andThen, slicedAt]
 omega

def bv (c : UInt8) : Value := .int .u8 c.toNat

theorem conv_arr {W : World} {B T : Nat} {cs : List Value} (h : Arr W B T cs) (t : Nat) (l : List UInt8) (hl : cs.drop t = l.map bv) (n c : Nat) (hn : n = l.length) : (convert 37 9 (.slice (some ⟨B, t, none⟩) n c)).run Tryd.prog W = .ok (.string ⟨l.toArray⟩) W := by
 subst hn
 refine run_convert_bytes_back W 37 9 5 ⟨B, t, none⟩ c l (by kernel_rfl) (by kernel_rfl) (by kernel_rfl) fun j hj => ?_
 have e : cs[t + j]? = some (bv l[j]) := by
  rw [← List.getElem?_drop, hl, List.getElem?_map, List.getElem?_eq_getElem hj]; rfl
 obtain ⟨hlt, he⟩ := List.getElem?_eq_some_iff.1 e
 have := h.cell (t + j) hlt
 rw [he] at this
 rw [Addr.add_lit]
 exact this

theorem drop_set1 (cs : List Value) (t : Nat) (x : Value) (h : t < cs.length) : (cs.set t x).drop t = x :: cs.drop (t + 1) := by
 rw [List.drop_eq_getElem_cons (by simpa using h)]
 congr 1
 ·simp
 ·rw [List.drop_set]; simp
theorem drop_set2 (cs : List Value) (t : Nat) (x y : Value) (h : t + 1 < cs.length) : ((cs.set (t + 1) x).set t y).drop t = y :: x :: cs.drop (t + 2) := by
 rw [drop_set1 _ _ _ (by simp; omega), drop_set1 _ _ _ h]

theorem digit_bv (m : Nat) : (Value.int .u8 (48 + (m : Int) % 10)) = bv (UInt8.ofNat (48 + m % 10)) := by
 unfold bv
 congr 1
 simp
 omega

def Rel (N : Nat) (w wr : World) (v4 v5 : Value) : Prop := ∃ (t m : Nat) (cs : List Value) (suf : List UInt8), v4 = .int .i64 t ∧ v5 = .int .u64 m ∧ Arr wr w.heap.size 80 cs ∧ cs.length = 20 ∧ cs.drop t = suf.map bv ∧ t + suf.length = 20 ∧ (dec m).length + suf.length ≤ 19 ∧ dec N = dec m ++ suf ∧ (m : Int) ≤ 9223372036854775808 ∧ Below w.heap.size w wr

set_option maxRecDepth 100000 in
set_option maxHeartbeats 1000000 in
theorem digits_neg (a : Int) (w : World) (h0 : -9223372036854775808 ≤ a) (hn : a < 0) :
  Calls Tryd.prog 38 #[.int .i64 a] w fun e w' => e = .returned (.string ⟨(text a).toArray⟩) ∧ Below w.heap.size w w' := by
 obtain ⟨N, hN⟩ : ∃ N : Nat, N = a.natAbs := ⟨_, rfl⟩
 have hw : IntKind.u64.wrap (-IntKind.u64.wrap a) = (N : Int) := by
  rw [IntKind.wrap_u64, IntKind.wrap_u64]; omega
 have hNle : (N : Int) ≤ 9223372036854775808 := by omega
 have hlen := dec_len 18 N (by omega)
 have HN := Lib.hid hN; clear hN
 go_enter Tryd.func38, Tryd.ntmps38
 go_wp2
 have Hw := Lib.hid hw; clear hw
 go_loopw [4, 5] (fun v4 v5 wr => Rel N w wr v4 v5) (fun _ v5 _ => (intOf v5).toNat)
 case atStart => exact ⟨20, N, List.replicate 20 (.int .u8 0), [], rfl, rfl, Arr.new _ _ _, rfl, by simp, rfl, by simpa using hlen, by simp, hNle, (Below.refl _ _).alloc (Nat.le_refl _) _⟩
 case round =>
  obtain ⟨t, m, cs, suf, rfl, rfl, ha, hcs, hd, ht, hl, hdec, hm, hb⟩ := hrel
  have hp := dec_pos m
  obtain ⟨t, rfl⟩ : ∃ q, t = q + 2 := ⟨t - 2, by omega⟩
  have hc := ha.cell (t + 1) (by omega)
  have hf := ha.free (t + 1)
  have hc1 := ha.cell t (by omega)
  have hf1 := ha.free t
  generalize cs[t + 1] = v0 at hc
  generalize cs[t] = v1 at hc1
  have g1 : IntKind.u8.wrap (48 + (m : Int) % 10) = 48 + (m : Int) % 10 := IntWalk.u8_in _ (by omega)
  have ht20 : t + 1 < 20 := by omega
  have Hcs := Lib.hid hcs; clear hcs
  have Hd := Lib.hid hd; clear hd
  have Hdec := Lib.hid hdec; clear hdec
  have Ht := Lib.hid ht; clear ht
  have Ha := Lib.hid ha; clear ha
  by_cases h10 : m < 10
  ·have e0 : ((m : Int) / 10 == 0) = true := by rw [beq_iff_eq]; omega
   have hs : ∀ W, (Instr.sliceAt 80 (.pointer (some ⟨w.heap.size, 0, none⟩)) (some (.int .i64 ((t : Int) + 2 - 1 - 1))) none none).run Tryd.prog W = _ := fun W => slice20 W _ _ t (by omega) (by omega)
   have hcv : (convert 37 9 (.slice (some ⟨w.heap.size, t, none⟩) (20 - t) (20 - t))).run Tryd.prog ((wr.setCell ⟨w.heap.size, t + 1, none⟩ (.int .u8 (48 + (m : Int) % 10))).setCell ⟨w.heap.size, t, none⟩ (.int .u8 45)) = .ok (.string ⟨(text a).toArray⟩) ((wr.setCell ⟨w.heap.size, t + 1, none⟩ (.int .u8 (48 + (m : Int) % 10))).setCell ⟨w.heap.size, t, none⟩ (.int .u8 45)) := by
    have hcl := Hcs.out
    refine conv_arr ((Ha.out.set _ _).set _ _) t (text a) ?_ _ _ ?_
    ·rw [drop_set2 _ _ _ _ (by omega), Hd.out, digit_bv, text_neg hn, ← HN.out, Hdec.out, dec_small h10, Nat.mod_eq_of_lt h10]; rfl
    ·rw [text_neg hn, ← HN.out, Hdec.out, dec_small h10]
     have := Ht.out
     simp; omega
   go_wp2
   go_ret
   exact ⟨rfl, (hb.setCell (Nat.le_refl _) _).setCell (Nat.le_refl _) _⟩
  ·have e0 : ((m : Int) / 10 == 0) = false := by rw [beq_eq_false_iff_ne]; omega
   go_wp2
   go_roundw
   case rel =>
    have h1 := Ht.out
    have h2 := Hcs.out
    have h3 : dec N = dec (m / 10) ++ (UInt8.ofNat (48 + m % 10) :: suf) := by rw [Hdec.out, dec_big h10]; simp
    have h4 : (dec N).length = (dec m).length + suf.length := by rw [Hdec.out]; simp
    have h5 : (dec N).length = (dec (m / 10)).length + (suf.length + 1) := by rw [h3]; simp
    exact ⟨t + 1, m / 10, cs.set (t + 1) (.int .u8 (48 + (m : Int) % 10)), UInt8.ofNat (48 + m % 10) :: suf, by go_num, by go_num, Ha.out.set _ _, by simpa using h2, by rw [drop_set1 _ _ _ (by omega), Hd.out, digit_bv]; rfl, by simp; omega, by simp; omega, h3, by omega, hb.setCell (Nat.le_refl _) _⟩
   case measure => simp [intOf]; omega

set_option maxRecDepth 100000 in
set_option maxHeartbeats 1000000 in
theorem digits_nat (a : Int) (w : World) (h0 : 0 ≤ a) (h1 : a ≤ 9223372036854775807) :
  Calls Tryd.prog 38 #[.int .i64 a] w fun e w' => e = .returned (.string ⟨(text a).toArray⟩) ∧ Below w.heap.size w w' := by
 obtain ⟨N, rfl⟩ : ∃ N : Nat, a = N := ⟨a.toNat, by omega⟩
 have hn : ¬ (N : Int) < 0 := by omega
 have hw : IntKind.u64.wrap (N : Int) = (N : Int) := by
  rw [IntKind.wrap_u64]; omega
 have hNle : (N : Int) ≤ 9223372036854775808 := by omega
 have hlen := dec_len 18 N (by omega)
 go_enter Tryd.func38, Tryd.ntmps38
 go_wp2
 have Hw := Lib.hid hw; clear hw
 go_loopw [4, 5] (fun v4 v5 wr => Rel N w wr v4 v5) (fun _ v5 _ => (intOf v5).toNat)
 case atStart => exact ⟨20, N, List.replicate 20 (.int .u8 0), [], rfl, rfl, Arr.new _ _ _, rfl, by simp, rfl, by simpa using hlen, by simp, hNle, (Below.refl _ _).alloc (Nat.le_refl _) _⟩
 case round =>
  obtain ⟨t, m, cs, suf, rfl, rfl, ha, hcs, hd, ht, hl, hdec, hm, hb⟩ := hrel
  have hp := dec_pos m
  obtain ⟨t, rfl⟩ : ∃ q, t = q + 1 := ⟨t - 1, by omega⟩
  have hc := ha.cell t (by omega)
  have hf := ha.free t
  generalize cs[t] = v0 at hc
  have g1 : IntKind.u8.wrap (48 + (m : Int) % 10) = 48 + (m : Int) % 10 := IntWalk.u8_in _ (by omega)
  have ht20 : t < 20 := by omega
  have Hcs := Lib.hid hcs; clear hcs
  have Hd := Lib.hid hd; clear hd
  have Hdec := Lib.hid hdec; clear hdec
  have Ht := Lib.hid ht; clear ht
  have Ha := Lib.hid ha; clear ha
  by_cases h10 : m < 10
  ·have e0 : ((m : Int) / 10 == 0) = true := by rw [beq_iff_eq]; omega
   have hs : ∀ W, (Instr.sliceAt 80 (.pointer (some ⟨w.heap.size, 0, none⟩)) (some (.int .i64 (t : Int))) none none).run Tryd.prog W = _ := fun W => slice20 W _ _ t (by omega) (by omega)
   have hcv : (convert 37 9 (.slice (some ⟨w.heap.size, t, none⟩) (20 - t) (20 - t))).run Tryd.prog (wr.setCell ⟨w.heap.size, t, none⟩ (.int .u8 (48 + (m : Int) % 10))) = .ok (.string ⟨(text N).toArray⟩) (wr.setCell ⟨w.heap.size, t, none⟩ (.int .u8 (48 + (m : Int) % 10))) := by
    have hcl := Hcs.out
    refine conv_arr (Ha.out.set _ _) t (text N) ?_ _ _ ?_
    ·rw [drop_set1 _ _ _ (by omega), Hd.out, digit_bv, text_nat (by omega), Int.natAbs_natCast, Hdec.out, dec_small h10, Nat.mod_eq_of_lt h10]; rfl
    ·rw [text_nat (by omega), Int.natAbs_natCast, Hdec.out, dec_small h10]
     have := Ht.out
     simp; omega
   go_wp2
   go_ret
   exact ⟨rfl, hb.setCell (Nat.le_refl _) _⟩
  ·have e0 : ((m : Int) / 10 == 0) = false := by rw [beq_eq_false_iff_ne]; omega
   go_wp2
   go_roundw
   case rel =>
    have h1 := Ht.out
    have h2 := Hcs.out
    have h3 : dec N = dec (m / 10) ++ (UInt8.ofNat (48 + m % 10) :: suf) := by rw [Hdec.out, dec_big h10]; simp
    have h4 : (dec N).length = (dec m).length + suf.length := by rw [Hdec.out]; simp
    have h5 : (dec N).length = (dec (m / 10)).length + (suf.length + 1) := by rw [h3]; simp
    exact ⟨t, m / 10, cs.set t (.int .u8 (48 + (m : Int) % 10)), UInt8.ofNat (48 + m % 10) :: suf, by go_num, by go_num, Ha.out.set _ _, by simpa using h2, by rw [drop_set1 _ _ _ (by omega), Hd.out, digit_bv]; rfl, by simp; omega, by simp; omega, h3, by omega, hb.setCell (Nat.le_refl _) _⟩
   case measure => simp [intOf]; omega

def num_Digits.f (a0 : Int) : Option ByteArray := if -9223372036854775808 ≤ a0 ∧ a0 ≤ 9223372036854775807 then some ⟨(text a0).toArray⟩ else none

theorem num_Digits.calls (a0 : Int) (r : ByteArray) (w : World) (h : num_Digits.f a0 = some r) :
  Calls Tryd.prog 38 #[.int .i64 a0] w fun e w' => e = .returned (.string r) ∧ Below w.heap.size w w' := by
 unfold num_Digits.f at h
 split at h
 ·rename_i hr
  cases h
  by_cases hn : a0 < 0
  ·exact digits_neg a0 w hr.1 hn
  ·exact digits_nat a0 w (by omega) hr.2
 ·cases h
end Go.Proofs.YtldjbgonlbmeaaaDoor.Dig
end
section
/- show.walker: the walks of one, of bracket, of One. -/
set_option linter.unusedSimpArgs false
set_option linter.unusedVariables false
namespace Go.Proofs.YtldjbgonlbmeaaaDoor.T
open Go.RowKit Go.Proofs.YtldjbgonlbmeaaaDoor.PA Go.Proofs.YtldjbgonlbmeaaaDoorW.PrintWords Go.Proofs.YtldjbgonlbmeaaaDoorW.PrintLast Go.Proofs.YtldjbgonlbmeaaaDoorW.PrintMore
open Go.Proofs.YtldjbgonlbmeaaaDoor.Dig (text digits_neg digits_nat)
theorem digits_any (a : Int) (w : World) (h0 : -9223372036854775808 ≤ a) (h1 : a ≤ 9223372036854775807) :
  Calls Tryd.prog 38 #[.int .i64 a] w fun e w' => e = .returned (.string ⟨(text a).toArray⟩) ∧ Below w.heap.size w w' := by
 by_cases hn : a < 0
 ·exact digits_neg a w h0 hn
 ·exact digits_nat a w (by omega) h1
structure Wk (w W : World) (Bw Bb : Nat) (A : Option Addr) (c n : Nat) (left : Nat) (out : List UInt8) : Prop where
 wb : W.heap[Bw]? = some (.cells #[.slice A n c, .int .i64 (left : Int), .func (.func 24) #[] #[.pointer (some ⟨Bb, 0, none⟩)]] 50 (0, 0))
 bb : Bl W w.heap.size Bb out
 bl : Below w.heap.size w W
 ne : Bb ≠ Bw
 aw : w.heap.size ≤ Bw
section
variable {w W W' : World} {Bw Bb : Nat} {A : Option Addr} {c n left : Nat} {out : List UInt8}
theorem Wk.lt (h : Wk w W Bw Bb A c n left out) : Bw < W.heap.size := (Array.getElem?_eq_some_iff.1 h.wb).1
theorem Wk.c0 (h : Wk w W Bw Bb A c n left out) : W.cell? ⟨Bw, 0, none⟩ = some (.slice A n c) := by rw [cell_of h.wb]; rfl
theorem Wk.c1 (h : Wk w W Bw Bb A c n left out) : W.cell? ⟨Bw, 1, none⟩ = some (.int .i64 (left : Int)) := by rw [cell_of h.wb]; rfl
theorem Wk.c2 (h : Wk w W Bw Bb A c n left out) : W.cell? ⟨Bw, 2, none⟩ = some (.func (.func 24) #[] #[.pointer (some ⟨Bb, 0, none⟩)]) := by rw [cell_of h.wb]; rfl
theorem Wk.f (h : Wk w W Bw Bb A c n left out) (i : Nat) : W.frozen? ⟨Bw, i, none⟩ = false := by simp [World.frozen?, h.wb]
theorem Wk.below (h : Wk w W Bw Bb A c n left out) (hb : Below W.heap.size W W') : Wk w W' Bw Bb A c n left out :=
 ⟨(hb.block Bw h.lt).trans h.wb, h.bb.below hb, below_then h.bl h.bl.size hb, h.ne, h.aw⟩
theorem Wk.dec (h : Wk w W Bw Bb A c n left out) (m : Nat) : Wk w (W.setCell ⟨Bw, 1, none⟩ (.int .i64 (m : Int))) Bw Bb A c n m out := by
 refine ⟨?_, h.bb.set (p := ⟨Bw, 1, none⟩) h.wb (by decide) h.ne _, h.bl.setCell (p := ⟨Bw, 1, none⟩) h.aw _, h.ne, h.aw⟩
 rw [heap_setCell_same W Bw 1 _ 50 _ h.wb]
 rfl
end
set_option maxHeartbeats 1000000 in
theorem tell_ok {w W : World} {Bw Bb : Nat} {A : Option Addr} {c n left : Nat} {out : List UInt8} (s : ByteArray) (h : Wk w W Bw Bb A c n left out) (hlen : out.length + s.size ≤ 140737488355328) :
  Calls Tryd.prog 24 #[.string s, .pointer (some ⟨Bb, 0, none⟩)] W fun e W' => e = .returned (.tuple #[]) ∧ Wk w W' Bw Bb A c n left (out ++ s.data.toList) := by
 go_enter Tryd.func24, Tryd.ntmps24
 go_wp2_with (go_at_call 19; refine (str_ok w.heap.size Bb out s W h.bb hlen h.bl.size).mono ?_)
 rintro e W1 ⟨⟨v, rfl⟩, h1, h2, h3⟩
 go_wp2
 go_end0
 exact ⟨rfl, kept_by h3 h.wb (by decide) h.ne.symm, h1, h.bl.trans h2, h.ne, h.aw⟩
def OneOk (w : World) (Bw Bb : Nat) (A : Option Addr) (c : Nat) (l : List Fm) (M d : Nat) : Prop := ∀ (at_ : Nat) (left : Nat) (out : List UInt8) (W : World), Wk w W Bw Bb A c l.length left out → at_ < l.length → l.length ≤ at_ + d → left ≤ 400 → out.length + left * (M + 24) ≤ 70368744177665 →
  Calls Tryd.prog 25 #[.pointer (some ⟨Bw, 0, none⟩), .int .i64 (at_ : Int)] W fun e W' => e = .returned (.bool (wone l d at_ left out).1) ∧ Wk w W' Bw Bb A c l.length (wone l d at_ left out).2.1 (wone l d at_ left out).2.2
set_option maxRecDepth 100000 in
set_option maxHeartbeats 4000000 in
theorem bracket_ok {w : World} {Bw Bb : Nat} {A : Option Addr} {c : Nat} {l : List Fm} {M d : Nat} (hM : Mx M l) (hl : l.length ≤ 9223372036854775807) (ih : OneOk w Bw Bb A c l M d) (at_ : Nat) (ks : List Int) (A3 : Option Addr) (c3 : Nat) (left : Nat) (out : List UInt8) (W : World) (h : Wk w W Bw Bb A c l.length left out) (hK : Kd.C (Kd.int .i64) w A3 ks.length ks) (hat : at_ < l.length) (hd : l.length ≤ at_ + 1 + d) (hleft : left ≤ 400) (hb : out.length + 1 + left * (M + 24) ≤ 70368744177664) :
  Calls Tryd.prog 39 #[.pointer (some ⟨Bw, 0, none⟩), .int .i64 (at_ : Int), .slice A3 ks.length c3] W fun e W' => e = .returned (.bool (wkids (wone l d) l.length at_ ks true left (out ++ [40])).1) ∧ Wk w W' Bw Bb A c l.length (wkids (wone l d) l.length at_ ks true left (out ++ [40])).2.1 (wkids (wone l d) l.length at_ ks true left (out ++ [40])).2.2 := by
 obtain ⟨R, hR⟩ : ∃ R, wkids (wone l d) l.length at_ ks true left (out ++ [40]) = R := ⟨_, rfl⟩
 rw [hR]
 have hkl : ks.length ≤ 9223372036854775807 := hK.2.1
 have c2 := h.c2
 have HH := Lib.hid h
 have HK := Lib.hid hK
 have HR := Lib.hid hR
 have HIH := Lib.hid ih
 clear h hK hR ih
 go_enter Tryd.func39, Tryd.ntmps39
 go_wp2_with (go_at_call 24; refine (tell_ok (⟨#[40]⟩ : ByteArray) HH.out (by simp [ByteArray.size]; omega)).mono ?_; rintro e W1 ⟨rfl, h1⟩; have H1 := Lib.hid h1; clear h1 c2)
 go_loopw [16] (fun v16 wr => ∃ (i lf : Nat) (o : List UInt8), i ≤ ks.length ∧ v16 = .int .i64 i ∧ Wk w wr Bw Bb A c l.length lf o ∧ wkids (wone l d) l.length at_ (ks.drop i) (i == 0) lf o = R ∧ lf ≤ 400 ∧ o.length + lf * (M + 24) ≤ 70368744177664) (fun v16 _ => ks.length - (intOf v16).toNat)
 case atStart => exact ⟨0, left, out ++ [40], Nat.zero_le _, rfl, H1.out, HR.out, hleft, by simp; omega⟩
 case round =>
  obtain ⟨i, lf, o, hi, rfl, hw, hE, hlf, hob⟩ := hrel
  have HW := Lib.hid hw
  have HE0 := Lib.hid hE
  clear hw hE
  by_cases hlt : i < ks.length
  ·obtain ⟨ad3, rfl, g0⟩ := int_at HK.out hlt
   have g1 := (HW.out.bl.cell (World.block_lt_of_cell? w _ g0)).trans g0
   have hdr : ks.drop i = ks[i] :: ks.drop (i + 1) := List.drop_eq_getElem_cons hlt
   obtain ⟨k, hk⟩ : ∃ k, k = ks[i] := ⟨_, rfl⟩
   rw [← hk] at g1 hdr
   have HDR := Lib.hid hdr
   have d1 : decide (i < ks.length) = true := decide_eq_true hlt
   have d1' : decide ((i : Int) < (ks.length : Int)) = true := decide_eq_true (by omega)
   clear hk hdr g0
   have c2 := HW.out.c2
   obtain ⟨o1, ho1⟩ : ∃ o1, o1 = (if (i == 0) then o else o ++ [32]) := ⟨_, rfl⟩
   have hol : o1.length ≤ o.length + 1 := by rw [ho1]; split <;> simp
   have hE1 := HE0.out
   rw [HDR.out, wkids, ← ho1] at hE1
   have HE1 := Lib.hid hE1
   clear hE1 HE0
   by_cases h0 : i = 0
   ·have ho : o1 = o := by rw [ho1, h0]; rfl
    clear ho1
    subst o1
    subst h0
    clear hol
    have g3 : wr.cell? ad3 = some (.int .i64 k) := by rwa [show ad3.add 0 = ad3 from by unfold Addr.add; split <;> simp_all] at g1
    clear g1
    by_cases hA : k ≤ (at_ : Int)
    ·have d4 : decide (k ≤ (at_ : Int)) = true := decide_eq_true hA
     have hE := HE1.out
     rw [if_pos (.inl hA)] at hE
     have HE := Lib.hid hE
     clear hE hA
     go_wp2_with (fail)
     go_ret
     rw [← HE.out]
     exact ⟨rfl, HW.out⟩
    ·by_cases hB : (l.length : Int) ≤ k
     ·have d4 : decide (k ≤ (at_ : Int)) = false := decide_eq_false hA
      have d5 : decide (k ≥ (l.length : Int)) = true := decide_eq_true hB
      have c0 := HW.out.c0
      have hE := HE1.out
      rw [if_pos (.inr hB)] at hE
      have HE := Lib.hid hE
      clear hE hA hB
      go_wp2_with (fail)
      go_ret
      rw [← HE.out]
      exact ⟨rfl, HW.out⟩
     ·have d4 : decide (k ≤ (at_ : Int)) = false := decide_eq_false hA
      have d5 : decide (k ≥ (l.length : Int)) = false := decide_eq_false hB
      have c0 := HW.out.c0
      obtain ⟨q, rfl⟩ : ∃ q : Nat, k = q := ⟨k.toNat, by omega⟩
      have hE := HE1.out
      rw [if_neg (by omega)] at hE
      obtain ⟨r, hr⟩ : ∃ r, r = wone l d (q : Int) lf o := ⟨_, rfl⟩
      have hp := wone_pot hM d (q : Int) lf o
      rw [← hr] at hE hp
      have HRR := Lib.hid hr
      have HP := Lib.hid hp
      have hq1 : q < l.length := by omega
      have hq2 : l.length ≤ q + d := by omega
      have d6 : decide (q ≤ at_) = false := decide_eq_false (by omega)
      have d7 : decide (l.length ≤ q) = false := decide_eq_false (by omega)
      clear hr hp
      by_cases hr1 : r.1 = true
      ·rw [if_pos hr1] at hE
       have HE := Lib.hid hE
       have HR1 := Lib.hid hr1
       have hlf0 : 0 < lf := by
        rcases Nat.eq_zero_or_pos lf with h0 | h0
        ·have := (HP.out.1 h0).1
         rw [this] at hr1; cases hr1
        ·exact h0
       have hpot := HP.out.2 hlf0
       clear hE hr1 hA hB
       go_wp2_with (first | fail | (go_at_call 25; refine (HIH.out q lf _ _ HW.out hq1 hq2 hlf (by omega)).mono ?_; rw [← HRR.out, HR1.out]; rintro e W3 ⟨rfl, h3⟩; have H3 := Lib.hid h3; clear h3))
       go_roundw
       case rel => exact ⟨1, r.2.1, r.2.2, by omega, rfl, H3.out, by simpa using HE.out, by omega, by omega⟩
       case measure => simp [intOf]; omega
      ·have hr2 : r.1 = false := by simpa using hr1
       rw [if_neg hr1] at hE
       have HE := Lib.hid hE
       have HR1 := Lib.hid hr2
       clear hE hr1 hr2 hA hB
       go_wp2_with (first | fail | (go_at_call 25; refine (HIH.out q lf _ _ HW.out hq1 hq2 hlf (by omega)).mono ?_; rw [← HRR.out, HR1.out]; rintro e W3 ⟨rfl, h3⟩; have H3 := Lib.hid h3; clear h3))
       go_ret
       rw [← HE.out, HR1.out]
       exact ⟨rfl, H3.out⟩
   ·have ho : o1 = o ++ [32] := by rw [ho1, if_neg (by simpa using h0)]
    subst ho
    have d2 : decide ((i : Int) > 0) = true := decide_eq_true (by omega)
    have d3 : decide (0 < i) = true := decide_eq_true (by omega)
    clear h0
    by_cases hA : k ≤ (at_ : Int)
    ·have d4 : decide (k ≤ (at_ : Int)) = true := decide_eq_true hA
     have hE := HE1.out
     rw [if_pos (.inl hA)] at hE
     have HE := Lib.hid hE
     clear hE hA
     go_wp2_with ((go_at_call 24; refine (tell_ok (⟨#[32]⟩ : ByteArray) HW.out (by simp [ByteArray.size]; omega)).mono ?_; rintro e W2 ⟨rfl, h2⟩; have H2 := Lib.hid h2; have c0 := h2.c0; clear h2 c2))
     go_ret
     rw [← HE.out]
     exact ⟨rfl, H2.out⟩
    ·by_cases hB : (l.length : Int) ≤ k
     ·have d4 : decide (k ≤ (at_ : Int)) = false := decide_eq_false hA
      have d5 : decide (k ≥ (l.length : Int)) = true := decide_eq_true hB
      have hE := HE1.out
      rw [if_pos (.inr hB)] at hE
      have HE := Lib.hid hE
      clear hE hA hB
      go_wp2_with ((go_at_call 24; refine (tell_ok (⟨#[32]⟩ : ByteArray) HW.out (by simp [ByteArray.size]; omega)).mono ?_; rintro e W2 ⟨rfl, h2⟩; have H2 := Lib.hid h2; have c0 := h2.c0; clear h2 c2))
      go_ret
      rw [← HE.out]
      exact ⟨rfl, H2.out⟩
     ·have d4 : decide (k ≤ (at_ : Int)) = false := decide_eq_false hA
      have d5 : decide (k ≥ (l.length : Int)) = false := decide_eq_false hB
      obtain ⟨q, rfl⟩ : ∃ q : Nat, k = q := ⟨k.toNat, by omega⟩
      have hE := HE1.out
      rw [if_neg (by omega)] at hE
      obtain ⟨r, hr⟩ : ∃ r, r = wone l d (q : Int) lf (o ++ [32]) := ⟨_, rfl⟩
      have hp := wone_pot hM d (q : Int) lf (o ++ [32])
      rw [← hr] at hE hp
      have HRR := Lib.hid hr
      have HP := Lib.hid hp
      have hq1 : q < l.length := by omega
      have hq2 : l.length ≤ q + d := by omega
      have d6 : decide (q ≤ at_) = false := decide_eq_false (by omega)
      have d7 : decide (l.length ≤ q) = false := decide_eq_false (by omega)
      clear hr hp
      by_cases hr1 : r.1 = true
      ·rw [if_pos hr1] at hE
       have HE := Lib.hid hE
       have HR1 := Lib.hid hr1
       have hlf0 : 0 < lf := by
        rcases Nat.eq_zero_or_pos lf with h0 | h0
        ·have := (HP.out.1 h0).1
         rw [this] at hr1; cases hr1
        ·exact h0
       have hpot := HP.out.2 hlf0
       clear hE hr1 hA hB
       go_wp2_with (first | (go_at_call 24; refine (tell_ok (⟨#[32]⟩ : ByteArray) HW.out (by simp [ByteArray.size]; omega)).mono ?_; rintro e W2 ⟨rfl, h2⟩; have H2 := Lib.hid h2; have c0 := h2.c0; clear h2 c2) | (go_at_call 25; refine (HIH.out q lf _ _ H2.out hq1 hq2 hlf (by simp only [List.length_append, List.length_cons, List.length_nil]; omega)).mono ?_; rw [← HRR.out, HR1.out]; rintro e W3 ⟨rfl, h3⟩; have H3 := Lib.hid h3; clear h3))
       go_roundw
       case rel => exact ⟨i + 1, r.2.1, r.2.2, by omega, by go_num, H3.out, by simpa using HE.out, by omega, by simp only [List.length_append, List.length_cons, List.length_nil] at hpot; omega⟩
       case measure => simp [intOf]; omega
      ·have hr2 : r.1 = false := by simpa using hr1
       rw [if_neg hr1] at hE
       have HE := Lib.hid hE
       have HR1 := Lib.hid hr2
       clear hE hr1 hr2 hA hB
       go_wp2_with (first | (go_at_call 24; refine (tell_ok (⟨#[32]⟩ : ByteArray) HW.out (by simp [ByteArray.size]; omega)).mono ?_; rintro e W2 ⟨rfl, h2⟩; have H2 := Lib.hid h2; have c0 := h2.c0; clear h2 c2) | (go_at_call 25; refine (HIH.out q lf _ _ H2.out hq1 hq2 hlf (by simp only [List.length_append, List.length_cons, List.length_nil]; omega)).mono ?_; rw [← HRR.out, HR1.out]; rintro e W3 ⟨rfl, h3⟩; have H3 := Lib.hid h3; clear h3))
       go_ret
       rw [← HE.out, HR1.out]
       exact ⟨rfl, H3.out⟩
  ·have hkl : i = ks.length := by omega
   have d1 : decide (i < ks.length) = false := decide_eq_false hlt
   have d1' : decide ((i : Int) < (ks.length : Int)) = false := decide_eq_false (by omega)
   have hE := HE0.out
   rw [hkl, List.drop_length, wkids] at hE
   have HE := Lib.hid hE
   have c2 := HW.out.c2
   clear hE hkl
   go_wp2_with (go_at_call 24; refine (tell_ok (⟨#[41]⟩ : ByteArray) HW.out (by simp [ByteArray.size]; omega)).mono ?_; rintro e W2 ⟨rfl, h2⟩; have H2 := Lib.hid h2; clear h2 c2)
   go_ret
   rw [← HE.out]
   exact ⟨rfl, H2.out⟩
end Go.Proofs.YtldjbgonlbmeaaaDoor.T
end
section
/- show.walker: the walk of one, and of One. -/
set_option linter.unusedSimpArgs false
set_option linter.unusedVariables false
namespace Go.Proofs.YtldjbgonlbmeaaaDoor.T
open Go.RowKit Go.Proofs.YtldjbgonlbmeaaaDoor.PA Go.Proofs.YtldjbgonlbmeaaaDoorW.PrintWords Go.Proofs.YtldjbgonlbmeaaaDoorW.PrintLast Go.Proofs.YtldjbgonlbmeaaaDoorW.PrintMore
open Go.Proofs.YtldjbgonlbmeaaaDoor.Dig (text digits_neg digits_nat)
theorem blocks_ne {w : World} {k g : Nat} {c c' : Array Value} {t t' : TypeId} {f f' : Nat × Nat} (h : w.heap[k]? = some (.cells c t f)) (h' : w.heap[g]? = some (.cells c' t' f')) (ht : t ≠ t') : k ≠ g := by
 rintro rfl
 rw [h] at h'
 injection h' with h'
 injection h' with _ h'
 exact ht h'
section
variable {w W W1 W2 : World} {Bw Bb : Nat} {A : Option Addr} {c n left : Nat} {out : List UInt8}
theorem Wk.drew (h : Wk w W Bw Bb A c n left out) : Wk w W.drew Bw Bb A c n left out := h.below (below_drew (Below.refl _ _))
theorem Wk.box (h : Wk w W1 Bw Bb A c n left out) {o : Obj} (hb : Below (W1.alloc o).heap.size (W1.alloc o) W2) : Wk w W2 Bw Bb A c n left out ∧ W2.heap[W1.heap.size]? = some o := by
 have h1 : Wk w (W1.alloc o) Bw Bb A c n left out := h.below ((Below.refl _ W1).alloc (Nat.le_refl _) _)
 exact ⟨h1.below hb, (hb.block _ (by simp)).trans (World.alloc_heap_new _ _)⟩
theorem Wk.set (h : Wk w W1 Bw Bb A c n left out) {k : Nat} {cs : Array Value} (hk : W1.heap[k]? = some (.cells cs 61 (0, 0))) (hle : w.heap.size ≤ k) (i : Nat) (v : Value) : Wk w (W1.setCell ⟨k, i, none⟩ v) Bw Bb A c n left out := by
 obtain ⟨cb, hcb⟩ := h.bb.typed
 exact ⟨set_far h.wb (blocks_ne h.wb hk (by decide)), h.bb.set (p := ⟨k, i, none⟩) hk (by decide) (blocks_ne hcb hk (by decide)) _, h.bl.setCell (p := ⟨k, i, none⟩) hle _, h.ne, h.aw⟩
end
set_option maxRecDepth 100000 in
set_option maxHeartbeats 4000000 in
theorem one_step {w : World} {Bw Bb : Nat} {A : Option Addr} {c : Nat} {l : List Fm} {M d : Nat} (hM : Mx M l) (hC : Kd.C kFm w A l.length l) (ih : OneOk w Bw Bb A c l M d) : OneOk w Bw Bb A c l M (d + 1) := by
 intro at_ left out W h hat hd hleft hb
 have hl : l.length ≤ 9223372036854775807 := hC.2.1
 obtain ⟨ad, A3, c3, rfl, e0, e1, e2, e3, e4, h3, hK⟩ := form_at hC hat
 have hgk : l.getD ((at_ : Nat) : Int).toNat zFm = l[at_] := by rw [Int.toNat_natCast, List.getD_eq_getElem?_getD, List.getElem?_eq_getElem hat]; rfl
 obtain ⟨x, hx⟩ : ∃ x, x = l[at_] := ⟨_, rfl⟩
 rw [← hx] at e0 e1 e2 e3 e4 h3 hK hgk
 have hmx := hM.at ((at_ : Nat) : Int).toNat
 rw [hgk] at hmx
 obtain ⟨m1, m2, m3⟩ := hmx
 obtain ⟨R, hR⟩ : ∃ R, wone l (d + 1) at_ left out = R := ⟨_, rfl⟩
 rw [hR]
 rw [wone, hgk] at hR
 have HR := Lib.hid hR
 have b0 := h.bl
 have GG := Lib.hid (And.intro e0 (And.intro e1 (And.intro e2 (And.intro e3 e4))))
 have n0 := World.block_lt_of_cell? w _ e0
 have HH := Lib.hid h
 have HK := Lib.hid hK
 have HIH := Lib.hid ih
 have c0 := h.c0
 have c1 := h.c1
 have f1 := h.f 1
 have aw := h.aw
 clear e0 e1 e2 e3 e4 hx hgk hR b0 h hK ih
 by_cases h0 : left = 0
 ·subst h0
  have hR := HR.out
  rw [if_pos rfl] at hR
  have HR := Lib.hid hR
  clear hR
  go_enter Tryd.func25, Tryd.ntmps25
  go_wp2
  go_ret
  rw [← HR.out]
  exact ⟨rfl, HH.out⟩
 ·obtain ⟨left, rfl⟩ : ∃ q, left = q + 1 := ⟨left - 1, by omega⟩
  have hR := HR.out
  rw [if_neg (by omega), Nat.add_sub_cancel] at hR
  have HR := Lib.hid hR
  have hd1 : (((left : Int) + 1) == 0) = false := by rw [beq_eq_false_iff_ne]; omega
  have hbn : ∀ (o : Nat), (⟨(ad.add (at_ * 5)).block, o, none⟩ : Addr).block ≠ Bw := fun o => by
   show (ad.add (at_ * 5)).block ≠ Bw
   omega
  have dsl : decide ((at_ : Int) < (l.length : Int)) = true := decide_eq_true (by omega)
  have dsl2 : decide (at_ < l.length) = true := decide_eq_true hat
  have hne : ¬ (ad.add (at_ * 5)).block = Bw := hbn 0
  have hW1 := HH.out.dec left
  have b1 := hW1.bl
  clear b1
  obtain ⟨p0, p1, p2, p3, p4⟩ := GG.out
  have k0 := (hW1.bl.cell (World.block_lt_of_cell? w _ p0)).trans p0
  have k1 := (hW1.bl.cell (World.block_lt_of_cell? w _ p1)).trans p1
  have k2 := (hW1.bl.cell (World.block_lt_of_cell? w _ p2)).trans p2
  have k3 := (hW1.bl.cell (World.block_lt_of_cell? w _ p3)).trans p3
  have k4 := (hW1.bl.cell (World.block_lt_of_cell? w _ p4)).trans p4
  have HW1 := Lib.hid hW1
  clear hR h0 hbn p0 p1 p2 p3 p4 hW1
  have hws : (W.setCell ⟨Bw, 1, none⟩ (.int .i64 (left : Int))).heap.size = W.heap.size := by simp
  have hsz := HH.out.lt
  by_cases j4 : x.f0 = 4
  ·have q1 : (x.f0 == 4) = true := by simpa using j4
   have hR := HR.out
   rw [if_pos j4] at hR
   have HR := Lib.hid hR
   clear j4 hR
   go_enter Tryd.func25, Tryd.ntmps25
   have hlen : out.length + (⟨(text x.f2).toArray⟩ : ByteArray).size ≤ 140737488355328 := by
    have := text_len m2 m3
    simp [ByteArray.size]
    omega
   have hle := HH.out.bl.size
   go_wp2_with (go_at_call 38; refine (digits_any x.f2 _ m2 m3).mono ?_; rintro e W2 ⟨rfl, hb2⟩; have hq := HW1.out.box hb2; rw [hws] at hq; obtain ⟨hw2, hbx⟩ := hq; have HW2 := Lib.hid hw2; have HBX := Lib.hid hbx; have ct0 : W2.cell? ⟨W.heap.size, 1, none⟩ = some (.string x.f1) := (by rw [cell_of hbx]; rfl); have ft0 : W2.frozen? ⟨W.heap.size, 1, none⟩ = false := (by simp [World.frozen?, hbx]); clear hb2 hw2 hbx)
   have hw3 := HW2.out.set HBX.out hle 1 (.string ⟨(text x.f2).toArray⟩)
   have ct : (W2.setCell ⟨W.heap.size, 1, none⟩ (.string ⟨(text x.f2).toArray⟩)).cell? ⟨W.heap.size, 1, none⟩ = some (.string ⟨(text x.f2).toArray⟩) := World.cell?_setCell_same' _ _ _ (by rw [ct0]; rfl)
   generalize W2.setCell ⟨W.heap.size, 1, none⟩ (.string ⟨(text x.f2).toArray⟩) = W3 at hw3 ct ⊢
   have HW3 := Lib.hid hw3
   have c2 := hw3.c2
   clear hw3 ct0 ft0 c0 c1 f1 k0 k1 k2 k3 k4
   refine start_ (n := 7) (S := fun w' => w'.cell? ⟨Bw, 2, none⟩ = some (.func (.func 24) #[] #[.pointer (some ⟨Bb, 0, none⟩)]) ∧ w'.cell? ⟨W.heap.size, 1, none⟩ = some (.string (⟨(text x.f2).toArray⟩))) (ds := [6]) #[false,false,false,false,false,false,false] (by kernel_rfl) rfl rfl ⟨c2, ct⟩ (fun hHeld => ?_)
   refine pure_ (i := 0) (N := some 37) (v := ?_) (a' := ?_) #[true,false,false,false,false,false,false] rfl rfl (by kernel_rfl) (fun _ _ _ h => h) (Or.inl ⟨by rfl, ?_⟩) ?_ ?_
   rotate_left
   ·intro w'
    go_simp
    with_reducible rfl
   rotate_left
   ·simp only [Act.put, List.setIfInBounds_toArray, List.set_cons_zero, List.set_cons_succ, i64_w, i32_w]
    rfl
   refine pure_ (i := 1) (N := some 38) (v := ?_) (a' := ?_) #[true,true,false,false,false,false,false] rfl rfl (by kernel_rfl) (fun _ _ _ h => h) (Or.inl ⟨by rfl, ?_⟩) ?_ ?_
   rotate_left
   ·intro w'
    go_simp
    with_reducible rfl
   rotate_left
   ·simp only [Act.put, List.setIfInBounds_toArray, List.set_cons_zero, List.set_cons_succ, i64_w, i32_w]
    rfl
   refine pure_ (i := 2) (N := some 39) (v := ?_) (a' := ?_) #[true,true,true,false,false,false,false] rfl rfl (by kernel_rfl) (fun _ _ _ h => h) (Or.inl ⟨by rfl, ?_⟩) ?_ ?_
   rotate_left
   ·intro w'
    go_simp
    with_reducible rfl
   rotate_left
   ·simp only [Act.put, List.setIfInBounds_toArray, List.set_cons_zero, List.set_cons_succ, i64_w, i32_w]
    rfl
   refine pure_ (i := 4) (N := some 41) (v := ?_) (a' := ?_) #[true,true,true,false,true,false,false] rfl rfl (by kernel_rfl) (fun _ _ _ h => h) (Or.inl ⟨by rfl, ?_⟩) ?_ ?_
   rotate_left
   ·intro w'
    go_simp
    with_reducible rfl
   rotate_left
   ·simp only [Act.put, List.setIfInBounds_toArray, List.set_cons_zero, List.set_cons_succ, i64_w, i32_w]
    rfl
   refine take_ (i := 3) (N := some 40) (v := ?_) (a' := ?_) #[true,true,true,true,true,false,false] rfl rfl (by kernel_rfl) (fun _ _ _ h => h) (Or.inl ⟨by rfl, ?_⟩) hHeld ?_ ?_
   rotate_left
   ·rintro w' ⟨s0, s1⟩
    go_simp
    with_reducible rfl
   rotate_left
   ·simp only [Act.put, List.setIfInBounds_toArray, List.set_cons_zero, List.set_cons_succ, i64_w, i32_w]
    rfl
   refine take_ (i := 5) (N := some 42) (v := ?_) (a' := ?_) #[true,true,true,true,true,true,false] rfl rfl (by kernel_rfl) (fun _ _ _ h => h) (Or.inl ⟨by rfl, ?_⟩) hHeld ?_ ?_
   rotate_left
   ·rintro w' ⟨s0, s1⟩
    go_simp
    with_reducible rfl
   rotate_left
   ·simp only [Act.put, List.setIfInBounds_toArray, List.set_cons_zero, List.set_cons_succ, i64_w, i32_w]
    rfl
   refine last_ (i := 6) (N := some 43) #[true,true,true,true,true,true,true] rfl rfl (by kernel_rfl) (by decide) (fun K hK => ?_)
   refine goesV_ Tryd.func24 (by kernel_rfl) rfl #[.string (⟨(text x.f2).toArray⟩), .pointer (some ⟨Bb, 0, none⟩)] (by rfl) rfl rfl (by rfl) (by simp only [List.map_toArray, List.map_cons, List.map_nil]; rfl) ?_
   with_reducible refine (tell_ok (⟨(text x.f2).toArray⟩) HW3.out.drew hlen).mono ?_
   rintro e W4 ⟨rfl, h4⟩
   refine ⟨_, rfl, ?_⟩
   refine hK.out _ _ ?_
   clear hK K
   refine norm_ (a' := ?_) ?_ ?_
   rotate_left
   ·show Act.put _ (some 43) _ = _
    simp only [Act.put, List.setIfInBounds_toArray, List.set_cons_zero, List.set_cons_succ, i64_w, i32_w]
    rfl
   refine done_ (by kernel_rfl) ?_
   have H4 := Lib.hid h4
   clear h4
   go_wp2
   go_ret
   rw [← HR.out]
   exact ⟨rfl, H4.out⟩
  ·have q1 : (x.f0 == 4) = false := by simpa using j4
   have hR := HR.out
   rw [if_neg j4] at hR
   have HR := Lib.hid hR
   have hle := HH.out.bl.size
   have HWA : ∀ (v : Obj), Wk w ((W.setCell ⟨Bw, 1, none⟩ (.int .i64 (left : Int))).alloc v) Bw Bb (some ad) c l.length left out := fun v => HW1.out.below ((Below.refl _ _).alloc (Nat.le_refl _) _)
   have HWA := Lib.hid HWA
   clear j4 hR
   by_cases j3 : x.f0 = 3
   ·have q2 : (x.f0 == 3) = true := by simpa using j3
    have hR := HR.out
    rw [if_pos j3] at hR
    have HR := Lib.hid hR
    clear j3 hR
    have hlen : out.length + x.f1.size ≤ 140737488355328 := by
     have e : (left + 1) * (M + 24) = left * (M + 24) + (M + 24) := by rw [Nat.succ_mul]
     omega
    go_enter Tryd.func25, Tryd.ntmps25
    go_wp2
    have hw3 := HWA.out (.cells #[.int .u8 x.f0, .string x.f1, .int .i64 x.f2, .slice A3 x.f3.length c3, .int .i64 x.f4] 61)
    have hbx := World.alloc_heap_new (W.setCell ⟨Bw, 1, none⟩ (.int .i64 (left : Int))) (.cells #[.int .u8 x.f0, .string x.f1, .int .i64 x.f2, .slice A3 x.f3.length c3, .int .i64 x.f4] 61)
    rw [hws] at hbx
    generalize (W.setCell ⟨Bw, 1, none⟩ (.int .i64 (left : Int))).alloc (.cells #[.int .u8 x.f0, .string x.f1, .int .i64 x.f2, .slice A3 x.f3.length c3, .int .i64 x.f4] 61) = W3 at hw3 hbx ⊢
    have ct : W3.cell? ⟨W.heap.size, 1, none⟩ = some (.string x.f1) := by rw [cell_of hbx]; rfl
    have HW3 := Lib.hid hw3
    have c2 := hw3.c2
    clear hw3 hbx c0 c1 f1 k0 k1 k2 k3 k4
    refine start_ (n := 7) (S := fun w' => w'.cell? ⟨Bw, 2, none⟩ = some (.func (.func 24) #[] #[.pointer (some ⟨Bb, 0, none⟩)]) ∧ w'.cell? ⟨W.heap.size, 1, none⟩ = some (.string x.f1)) (ds := [6]) #[false,false,false,false,false,false,false] (by kernel_rfl) rfl rfl ⟨c2, ct⟩ (fun hHeld => ?_)
    refine pure_ (i := 0) (N := some 37) (v := ?_) (a' := ?_) #[true,false,false,false,false,false,false] rfl rfl (by kernel_rfl) (fun _ _ _ h => h) (Or.inl ⟨by rfl, ?_⟩) ?_ ?_
    rotate_left
    ·intro w'
     go_simp
     with_reducible rfl
    rotate_left
    ·simp only [Act.put, List.setIfInBounds_toArray, List.set_cons_zero, List.set_cons_succ, i64_w, i32_w]
     rfl
    refine pure_ (i := 1) (N := some 38) (v := ?_) (a' := ?_) #[true,true,false,false,false,false,false] rfl rfl (by kernel_rfl) (fun _ _ _ h => h) (Or.inl ⟨by rfl, ?_⟩) ?_ ?_
    rotate_left
    ·intro w'
     go_simp
     with_reducible rfl
    rotate_left
    ·simp only [Act.put, List.setIfInBounds_toArray, List.set_cons_zero, List.set_cons_succ, i64_w, i32_w]
     rfl
    refine pure_ (i := 2) (N := some 39) (v := ?_) (a' := ?_) #[true,true,true,false,false,false,false] rfl rfl (by kernel_rfl) (fun _ _ _ h => h) (Or.inl ⟨by rfl, ?_⟩) ?_ ?_
    rotate_left
    ·intro w'
     go_simp
     with_reducible rfl
    rotate_left
    ·simp only [Act.put, List.setIfInBounds_toArray, List.set_cons_zero, List.set_cons_succ, i64_w, i32_w]
     rfl
    refine pure_ (i := 4) (N := some 41) (v := ?_) (a' := ?_) #[true,true,true,false,true,false,false] rfl rfl (by kernel_rfl) (fun _ _ _ h => h) (Or.inl ⟨by rfl, ?_⟩) ?_ ?_
    rotate_left
    ·intro w'
     go_simp
     with_reducible rfl
    rotate_left
    ·simp only [Act.put, List.setIfInBounds_toArray, List.set_cons_zero, List.set_cons_succ, i64_w, i32_w]
     rfl
    refine take_ (i := 3) (N := some 40) (v := ?_) (a' := ?_) #[true,true,true,true,true,false,false] rfl rfl (by kernel_rfl) (fun _ _ _ h => h) (Or.inl ⟨by rfl, ?_⟩) hHeld ?_ ?_
    rotate_left
    ·rintro w' ⟨s0, s1⟩
     go_simp
     with_reducible rfl
    rotate_left
    ·simp only [Act.put, List.setIfInBounds_toArray, List.set_cons_zero, List.set_cons_succ, i64_w, i32_w]
     rfl
    refine take_ (i := 5) (N := some 42) (v := ?_) (a' := ?_) #[true,true,true,true,true,true,false] rfl rfl (by kernel_rfl) (fun _ _ _ h => h) (Or.inl ⟨by rfl, ?_⟩) hHeld ?_ ?_
    rotate_left
    ·rintro w' ⟨s0, s1⟩
     go_simp
     with_reducible rfl
    rotate_left
    ·simp only [Act.put, List.setIfInBounds_toArray, List.set_cons_zero, List.set_cons_succ, i64_w, i32_w]
     rfl
    refine last_ (i := 6) (N := some 43) #[true,true,true,true,true,true,true] rfl rfl (by kernel_rfl) (by decide) (fun K hK => ?_)
    refine goesV_ Tryd.func24 (by kernel_rfl) rfl #[.string x.f1, .pointer (some ⟨Bb, 0, none⟩)] (by rfl) rfl rfl (by rfl) (by simp only [List.map_toArray, List.map_cons, List.map_nil]; rfl) ?_
    with_reducible refine (tell_ok x.f1 HW3.out.drew hlen).mono ?_
    rintro e W4 ⟨rfl, h4⟩
    refine ⟨_, rfl, ?_⟩
    refine hK.out _ _ ?_
    clear hK K
    refine norm_ (a' := ?_) ?_ ?_
    rotate_left
    ·show Act.put _ (some 43) _ = _
     simp only [Act.put, List.setIfInBounds_toArray, List.set_cons_zero, List.set_cons_succ, i64_w, i32_w]
     rfl
    refine done_ (by kernel_rfl) ?_
    have H4 := Lib.hid h4
    clear h4
    go_wp2
    go_ret
    rw [← HR.out]
    exact ⟨rfl, H4.out⟩
   ·have q2 : (x.f0 == 3) = false := by simpa using j3
    have hR := HR.out
    rw [if_neg j3] at hR
    have HR := Lib.hid hR
    clear j3 hR
    by_cases j1 : x.f0 = 1
    ·have q3 : (x.f0 == 1) = true := by simpa using j1
     have hR := HR.out
     rw [if_pos j1] at hR
     have HR := Lib.hid hR
     have hbb : out.length + 1 + left * (M + 24) ≤ 70368744177664 := by
      have e : (left + 1) * (M + 24) = left * (M + 24) + (M + 24) := by rw [Nat.succ_mul]
      omega
     have hdd : l.length ≤ at_ + 1 + d := by omega
     have hll : left ≤ 400 := by omega
     clear j1 hR
     go_enter Tryd.func25, Tryd.ntmps25
     go_wp2_with (go_at_call 39; refine (bracket_ok hM hl HIH.out at_ x.f3 A3 c3 left out _ (HWA.out _) HK.out hat hdd hll hbb).mono ?_; rw [HR.out]; rintro e W4 ⟨rfl, h4⟩; have H4 := Lib.hid h4; clear h4)
     go_ret
     exact ⟨rfl, H4.out⟩
    ·have q3 : (x.f0 == 1) = false := by simpa using j1
     have hR := HR.out
     rw [if_neg j1] at hR
     have HR := Lib.hid hR
     clear j1 hR
     go_enter Tryd.func25, Tryd.ntmps25
     go_wp2
     go_ret
     rw [← HR.out]
     exact ⟨rfl, HWA.out _⟩
theorem one_ok {w : World} {Bw Bb : Nat} {A : Option Addr} {c : Nat} {l : List Fm} {M : Nat} (hM : Mx M l) (hC : Kd.C kFm w A l.length l) : ∀ d, OneOk w Bw Bb A c l M d
 | 0 => fun at_ left out W h hat hd => absurd hd (by omega)
 | d + 1 => one_step hM hC (one_ok hM hC d)
end Go.Proofs.YtldjbgonlbmeaaaDoor.T
end
section
/- show.One: the walk. -/
set_option linter.unusedSimpArgs false
set_option linter.unusedVariables false
namespace Go.Proofs.YtldjbgonlbmeaaaDoor.T
open Go.RowKit Go.Proofs.YtldjbgonlbmeaaaDoor.PA Go.Proofs.YtldjbgonlbmeaaaDoorW.PrintWords Go.Proofs.YtldjbgonlbmeaaaDoorW.PrintLast Go.Proofs.YtldjbgonlbmeaaaDoorW.PrintMore
def oneS (l : List Fm) (at_ : Int) : ByteArray × Int :=
 if at_ < 0 ∨ (l.length : Int) ≤ at_ then (⟨#[]⟩, 2) else
 if (wone l l.length at_ 400 []).1 = true then (⟨(wone l l.length at_ 400 []).2.2.toArray⟩, 0) else (⟨#[]⟩, 3)
set_option maxRecDepth 100000 in
set_option maxHeartbeats 4000000 in
theorem One_ok (l : List Fm) (A : Option Addr) (c : Nat) (at_ : Int) (M : Nat) (w : World) (hC : Kd.C kFm w A l.length l) (hM : Mx M l) (hb : 400 * (M + 24) ≤ 70368744177664) :
  Calls Tryd.prog 9 #[.slice A l.length c, .int .i64 at_] w fun e w' => e = .returned (.tuple #[.string (oneS l at_).1, .int .i64 (oneS l at_).2]) ∧ Below w.heap.size w w' := by
 have hmf : ∀ (fn : Fn) (first cap : Array Value) (w : World), (Instr.makeFunc fn first cap).run Tryd.prog w = .ok (.func fn first cap) w := fun _ _ _ _ => rfl
 have hl : l.length ≤ 9223372036854775807 := hC.2.1
 have HC := Lib.hid hC
 clear hC
 obtain ⟨R, hR⟩ : ∃ R, oneS l at_ = R := ⟨_, rfl⟩
 rw [hR]
 unfold oneS at hR
 by_cases h0 : at_ < 0
 ·rw [if_pos (.inl h0)] at hR
  have HR := Lib.hid hR
  have d1 : decide (at_ < 0) = true := decide_eq_true h0
  clear hR h0
  go_enter Tryd.func9, Tryd.ntmps9
  go_wp2
  go_ret2
  rw [← HR.out]
  exact ⟨rfl, Below.refl _ _⟩
 ·have d1 : decide (at_ < 0) = false := decide_eq_false h0
  by_cases h1 : (l.length : Int) ≤ at_
  ·rw [if_pos (.inr h1)] at hR
   have HR := Lib.hid hR
   have d2 : decide (at_ ≥ (l.length : Int)) = true := decide_eq_true h1
   clear hR h0 h1
   go_enter Tryd.func9, Tryd.ntmps9
   go_wp2
   go_ret2
   rw [← HR.out]
   exact ⟨rfl, Below.refl _ _⟩
  ·rw [if_neg (by omega)] at hR
   have HR := Lib.hid hR
   obtain ⟨q, rfl⟩ := Int.eq_ofNat_of_zero_le (show 0 ≤ at_ by omega)
   have d2 : decide ((q : Int) ≥ (l.length : Int)) = false := decide_eq_false h1
   have d3 : decide (l.length ≤ q) = false := decide_eq_false (by omega)
   have hq : q < l.length := by omega
   obtain ⟨W1, hW1⟩ : ∃ W1, W1 = w.alloc (.cells #[.pointer none, .slice none 0 0] 39) := ⟨_, rfl⟩
   have s1 : W1.heap.size = w.heap.size + 1 := by rw [hW1]; simp
   have hstart : Wk w (W1.alloc (.cells #[.slice A l.length c, .int .i64 400, .func (.func 24) #[] #[.pointer (some ⟨w.heap.size, 0, none⟩)]] 50)) (w.heap.size + 1) w.heap.size A c l.length 400 [] := by
    rw [← s1]
    refine ⟨World.alloc_heap_new _ _, ?_, ?_, by omega, by omega⟩
    ·have : Bl W1 w.heap.size w.heap.size [] := by rw [hW1]; exact Bl.new (Nat.le_refl _)
     exact this.below ((Below.refl _ _).alloc (Nat.le_refl _) _)
    ·rw [hW1]; exact ((Below.refl _ _).alloc (Nat.le_refl _) _).alloc (by simp) _
   rw [hW1] at hstart
   have hone := one_ok hM HC.out l.length q 400 [] _ hstart hq (by omega) (by omega) (by simpa using Nat.le_succ_of_le hb)
   have hpot := (wone_pot hM l.length (q : Int) 400 []).2 (by omega)
   obtain ⟨r, hr⟩ : ∃ r, r = wone l l.length (q : Int) 400 [] := ⟨_, rfl⟩
   have hR := HR.out
   have e4 : ((400 : Nat) : Int) = 400 := rfl
   rw [← hr] at hone hpot hR
   have HO := Lib.hid hone
   clear hW1 s1 hstart h0 h1 HR hone hr
   by_cases hr1 : r.1 = true
   ·rw [if_pos hr1] at hR
    have HR := Lib.hid hR
    have HR1 := Lib.hid hr1
    clear hR hr1
    go_enter Tryd.func9, Tryd.ntmps9
    go_wp2_with (first | (go_at_call 25; refine HO.out.mono ?_; rw [HR1.out]; rintro e W4 ⟨rfl, h4⟩; have H4 := Lib.hid h4; clear h4) | (go_at_call 21; refine (string_ok w.heap.size w.heap.size _ _ H4.out.bb H4.out.bl.size).mono ?_; rintro e W5 ⟨rfl, _, hb5, _⟩; have H5 := Lib.hid hb5; clear hb5))
    go_ret2
    rw [← HR.out]
    exact ⟨rfl, H4.out.bl.trans H5.out⟩
   ·have hr2 : r.1 = false := by simpa using hr1
    rw [if_neg hr1] at hR
    have HR := Lib.hid hR
    have HR1 := Lib.hid hr2
    clear hR hr1 hr2
    go_enter Tryd.func9, Tryd.ntmps9
    go_wp2_with (go_at_call 25; refine HO.out.mono ?_; rw [HR1.out]; rintro e W4 ⟨rfl, h4⟩; have H4 := Lib.hid h4; clear h4)
    go_ret2
    rw [← HR.out]
    exact ⟨rfl, H4.out.bl⟩
def Okl (l : List Fm) : Bool := l.all fun f => decide (f.f1.size ≤ 16777216) && decide (-9223372036854775808 ≤ f.f2) && decide (f.f2 ≤ 9223372036854775807)
theorem Okl.mx {l : List Fm} (h : Okl l = true) : Mx 16777216 l := fun f hf => by
 have := List.all_eq_true.1 h f hf
 simp at this
 omega
def show_One.f (l : List Fm) (at_ : Int) : Option (ByteArray × Int) := if Okl l = true then some (oneS l at_) else none
theorem show_One.calls (A0 : Option Addr) (c0 : Nat) (l0 : List Fm) (a1 : Int) (r1 : ByteArray) (r2 : Int) (w : World) (hr0 : Kd.C kFm w A0 l0.length l0) (_ : l0.length ≤ c0) (h : show_One.f l0 a1 = some (r1, r2)) :
  Calls Tryd.prog 9 #[.slice A0 l0.length c0, .int .i64 a1] w fun e w' => e = .returned (.tuple #[.string r1, .int .i64 r2]) ∧ Below w.heap.size w w' := by
 unfold show_One.f at h
 split at h
 ·injection h with h
  have := One_ok l0 A0 c0 a1 16777216 w hr0 (Okl.mx (by assumption)) (by decide)
  rw [h] at this
  exact this
 ·cases h
end Go.Proofs.YtldjbgonlbmeaaaDoor.T
end
section
/- How a form is laid out in lines: plain lists, no program in sight. -/
namespace Go.Proofs.YtldjbgonlbmeaaaDoor.T
def flatL (l : List Fm) (k : Int) : List UInt8 := (oneS l k).1.data.toList
def lineL (deep : Nat) : List UInt8 := 10 :: Lib.repeatL [32, 32] deep
def nst (l : List Fm) (k : Int) : Bool := (l.getD k.toNat zFm).f0 == 1
def fstk (l : List Fm) : List Int → Nat
 | [] => 0
 | k :: ks => if nst l k = true then 0 else fstk l ks + 1
def frk (rec : Int → List UInt8) (l : List Fm) (deep first : Nat) : Nat → List Int → List UInt8
 | _, [] => []
 | i, k :: ks => (if i < first then (if 0 < i then [32] else []) ++ flatL l k else lineL deep ++ rec k) ++ frk rec l deep first (i + 1) ks
def fr (l : List Fm) : Nat → Int → Nat → List UInt8
 | 0, _, _ => []
 | d + 1, at_, deep => if fstk l (l.getD at_.toNat zFm).f3 = (l.getD at_.toNat zFm).f3.length then flatL l at_ else
  [40] ++ frk (fun k => fr l d k (deep + 1)) l deep (fstk l (l.getD at_.toNat zFm).f3) 0 (l.getD at_.toNat zFm).f3 ++ [41]
theorem fstk_le (l : List Fm) : ∀ ks, fstk l ks ≤ ks.length
 | [] => Nat.le_refl _
 | k :: ks => by
  unfold fstk
  split
  ·omega
  ·have := fstk_le l ks
   simp; omega
theorem fstk_lt (l : List Fm) : ∀ (ks : List Int) (i : Nat) (h : i < ks.length), i < fstk l ks → nst l ks[i] = false
 | [], i, h, _ => by simp at h
 | k :: ks, i, h, hi => by
  unfold fstk at hi
  split at hi
  ·omega
  ·rename_i hn
   cases i with
   | zero => simpa using hn
   | succ i =>
    have := fstk_lt l ks i (by simpa using h) (by omega)
    simpa using this
theorem fstk_at (l : List Fm) : ∀ (ks : List Int) (h : fstk l ks < ks.length), nst l (ks[fstk l ks]'h) = true
 | [], h => by simp at h
 | k :: ks, h => by
  by_cases hk : nst l k = true
  ·have e : fstk l (k :: ks) = 0 := by unfold fstk; rw [if_pos hk]
   simp only [e]
   exact hk
  ·have e : fstk l (k :: ks) = fstk l ks + 1 := by
    rw [fstk, if_neg hk]
   have h' : fstk l ks < ks.length := by rw [e] at h; simpa using h
   have := fstk_at l ks h'
   simp only [e, List.getElem_cons_succ]
   exact this
def Kin (l : List Fm) : Prop := ∀ i, i < l.length → ∀ k ∈ (l.getD i zFm).f3, (i : Int) < k ∧ k < (l.length : Int)
instance (l : List Fm) : Decidable (Kin l) := inferInstanceAs (Decidable (∀ i, i < l.length → ∀ k ∈ (l.getD i zFm).f3, (i : Int) < k ∧ k < (l.length : Int)))
theorem lineL_len (deep : Nat) : (lineL deep).length = 1 + 2 * deep := by
 unfold lineL
 have : ∀ n, (Lib.repeatL [32, 32] n).length = 2 * n := fun n => by
  induction n with
  | zero => rfl
  | succ n ih => rw [Lib.repeatL, List.length_append, ih]; simp; omega
 rw [List.length_cons, this]
 omega
end Go.Proofs.YtldjbgonlbmeaaaDoor.T
end
section
/- show.layout's builder lies in a field: its writers. -/
set_option linter.unusedSimpArgs false
set_option linter.unusedVariables false
namespace Go.Proofs.YtldjbgonlbmeaaaDoor.T
open Go.RowKit Go.Proofs.YtldjbgonlbmeaaaDoor.PA Go.Proofs.YtldjbgonlbmeaaaDoorW.PrintWords Go.Proofs.YtldjbgonlbmeaaaDoorW.PrintLast Go.Proofs.YtldjbgonlbmeaaaDoorW.PrintMore
structure Ly (w W : World) (Bp : Nat) (A : Option Addr) (c n : Nat) (out : List UInt8) : Prop where
 pb : ∃ p v, (p = .pointer none ∨ p = .pointer (some ⟨Bp, 1, none⟩)) ∧ W.heap[Bp]? = some (.cells #[.slice A n c, p, v] 55 (0, 0)) ∧ W.ownsRow w.heap.size 5 1 v out.length (Lib.byteCells out) ∧ (v = .slice none 0 0 ↔ out = [])
 bl : Below w.heap.size w W
 ap : w.heap.size ≤ Bp
section
variable {w W W' : World} {Bp : Nat} {A : Option Addr} {c n : Nat} {out : List UInt8}
theorem Ly.lt (h : Ly w W Bp A c n out) : Bp < W.heap.size := by
 obtain ⟨p, v, _, hb, _⟩ := h.pb
 exact (Array.getElem?_eq_some_iff.1 hb).1
theorem Ly.c0 (h : Ly w W Bp A c n out) : W.cell? ⟨Bp, 0, none⟩ = some (.slice A n c) := by
 obtain ⟨p, v, _, hb, _⟩ := h.pb
 rw [cell_of hb]; rfl
theorem Ly.below (h : Ly w W Bp A c n out) (hb : Below W.heap.size W W') : Ly w W' Bp A c n out := by
 obtain ⟨p, v, h1, h2, h3, h4⟩ := h.pb
 exact ⟨⟨p, v, h1, (hb.block Bp h.lt).trans h2, pw_own_below h3 hb, h4⟩, below_then h.bl h.bl.size hb, h.ap⟩
end
theorem info5' : (Tryd.prog.info? 5).map (fun i => (i.zero, i.size, i.bytes)) = some (some (.int .u8 0), 1, 1) := by kernel_rfl
theorem infoB : (Tryd.prog.info? 39).map (·.size) = some 2 := by kernel_rfl
theorem liesB : liesAt Tryd.prog Tryd.prog.depth 55 (3 / Tryd.prog.cellsOf 55) 1 39 1 = true := by kernel_rfl
structure Lu (w W : World) (Bp : Nat) (A : Option Addr) (c n : Nat) (out : List UInt8) : Prop where
 pb : ∃ v, W.heap[Bp]? = some (.cells #[.slice A n c, .pointer (some ⟨Bp, 1, none⟩), v] 55 (0, 0)) ∧ W.ownsRow w.heap.size 5 1 v out.length (Lib.byteCells out) ∧ (v = .slice none 0 0 ↔ out = [])
 bl : Below w.heap.size w W
 ap : w.heap.size ≤ Bp
set_option maxHeartbeats 1000000 in
set_option maxRecDepth 100000 in
theorem check_ok {w W : World} {Bp : Nat} {A : Option Addr} {c n : Nat} {out : List UInt8} (h : Ly w W Bp A c n out) :
  Calls Tryd.prog 33 #[.pointer (some ⟨Bp, 1, none⟩)] W fun e W' => e = .returned (.tuple #[]) ∧ Lu w W' Bp A c n out := by
 obtain ⟨j, hj, hjs⟩ := Option.map_eq_some_iff.1 infoB
 obtain ⟨p, v, hp, hb, ho, hv⟩ := h.pb
 rcases hp with rfl | rfl
 ·have h0 : W.cell? ⟨Bp, 1, none⟩ = some (.pointer none) := by rw [cell_of hb]; rfl
  have hfz : W.frozen? ⟨Bp, 1, none⟩ = false := by simp [World.frozen?, hb]
  have hsh : W.shape? Bp = some (55, 3) := by simp [World.shape?, hb]
  have hne : some Bp ≠ v.ownBlock := fun e => by
   obtain ⟨cs, hc⟩ := own_typed ho Bp e.symm
   rw [hb] at hc
   injection hc with hc
   injection hc with _ hc
   exact absurd hc (by decide)
  go_enter Tryd.func33, Tryd.ntmps33
  go_wp2
  rw [Lib.run_to_unsafe W ⟨Bp, 1, none⟩ Tryd.underlying36 Tryd.underlying77 hj (by rw [hjs]; decide) hsh (show 1 < 3 from by decide)]
  simp only [Result.andThen]
  rw [Oper.upon_value]
  go_wp2
  rw [run_callFunc_extern Tryd.func48 (by kernel_rfl) (by kernel_rfl) (by kernel_rfl) (e := Extern.AbiNoEscape.same) (by kernel_rfl)]
  rw [Lib.run_noEscape]
  simp only [Result.andThen]
  rw [Oper.upon_value]
  go_wp2
  rw [Lib.run_from_unsafe W ⟨Bp, 1, none⟩ Tryd.underlying77 Tryd.underlying36 hj hsh liesB]
  simp only [Result.andThen]
  rw [Oper.upon_value]
  go_wp2
  go_end0
  refine ⟨rfl, ⟨v, ?_, own_setCell ho (p := ⟨Bp, 1, none⟩) hne _, hv⟩, h.bl.setCell (p := ⟨Bp, 1, none⟩) h.ap _, h.ap⟩
  rw [heap_setCell_same W Bp 1 _ 55 _ hb]
  rfl
 ·have h0 : W.cell? ⟨Bp, 1, none⟩ = some (.pointer (some ⟨Bp, 1, none⟩)) := by rw [cell_of hb]; rfl
  have hL : Lu w W Bp A c n out := ⟨⟨v, hb, ho, hv⟩, h.bl, h.ap⟩
  have HL := Lib.hid hL
  clear hb ho hv hL
  go_enter Tryd.func33, Tryd.ntmps33
  go_wp2
  rw [Lib.run_neq_ptr_same W _ Tryd.underlying36 hj]
  go_wp2
  go_end0
  exact ⟨rfl, HL.out⟩
set_option maxHeartbeats 1000000 in
set_option maxRecDepth 100000 in
theorem byteL_ok {w W : World} {Bp : Nat} {A : Option Addr} {c n : Nat} {out : List UInt8} (x : UInt8) (h : Ly w W Bp A c n out) (hlen : out.length + 1 ≤ 140737488355328) :
  Calls Tryd.prog 20 #[.pointer (some ⟨Bp, 1, none⟩), .int .u8 x.toNat] W fun e W' => e = .returned .nilIface ∧ Ly w W' Bp A c n (out ++ [x]) := by
 obtain ⟨i0, hi, hz0, hz1, hz2⟩ := info_parts info5'
 go_enter Tryd.func20, Tryd.ntmps20
 go_wp2_with (go_at_call 33; refine (check_ok h).mono ?_)
 rintro e W1 ⟨rfl, h1⟩
 obtain ⟨v, hbk, hown, hnil⟩ := h1.pb
 have hb1 := h1.bl
 have hap := h1.ap
 have hne : some Bp ≠ v.ownBlock := fun e => by
  obtain ⟨cs, hc⟩ := own_typed hown Bp e.symm
  rw [hbk] at hc
  injection hc with hc
  injection hc with _ hc
  exact absurd hc (by decide)
 have c0 : W1.cell? ⟨Bp, 1, none⟩ = some (.pointer (some ⟨Bp, 1, none⟩)) := by rw [cell_of hbk]; rfl
 have c1 : W1.cell? ⟨Bp, 2, none⟩ = some v := by rw [cell_of hbk]; rfl
 have hbl : (Lib.byteCells out).length = out.length := by simp [Lib.byteCells]
 go_wp2_with (at_builtin; refine wpList_append_own _ rfl _ _ 37 rfl w.heap.size 5 i0 (.int .u8 0) 1 1 Tryd.underlying37 hi hz0 hz1 hz2 rfl (by decide) _ _ _ rfl (hown.alloc _) ⟨W1.heap.size, 0, none⟩ 1 1 [.int .u8 x.toNat] rfl rfl ?c1 ?c2 ?c3 ?c4 ?c5 ?_)
 case c1 =>
  intro j u hj
  match j, hj with
  | 0, hj => simp at hj; subst hj; simp [Addr.add]
 case c2 => intro u hu; simp at hu; subst hu; rfl
 case c3 => unfold maxLen; omega
 case c4 => omega
 case c5 => have := hb1.size; simp; omega
 intro v' W2 hown' hgrow hn'
 have hlt : Bp < W1.heap.size := (Array.getElem?_eq_some_iff.1 hbk).1
 have hb2 : W2.heap[Bp]? = some (.cells #[.slice A n c, .pointer (some ⟨Bp, 1, none⟩), v] 55 (0, 0)) := by
  rw [hgrow.block Bp (by simp; omega) hne, Below.heap_alloc _ _ _ hlt]
  exact hbk
 have d0 : W2.cell? ⟨Bp, 1, none⟩ = some (.pointer (some ⟨Bp, 1, none⟩)) := by rw [cell_of hb2]; rfl
 have d1 : W2.cell? ⟨Bp, 2, none⟩ = some v := by rw [cell_of hb2]; rfl
 have f1 : W2.frozen? ⟨Bp, 2, none⟩ = false := by simp [World.frozen?, hb2]
 have hbel : Below w.heap.size w W2 := (hb1.alloc (by have := hb1.size; omega) _).grown hgrow (by have := hb1.size; simp; omega) (fun k hk => own_base hown k hk)
 have hne' : some Bp ≠ v'.ownBlock := fun e => by
  obtain ⟨cs, hc⟩ := own_typed hown' Bp e.symm
  rw [hb2] at hc
  injection hc with hc
  injection hc with _ hc
  exact absurd hc (by decide)
 obtain ⟨g, cap, rfl⟩ : ∃ g cap, v' = .slice (some ⟨g, 0, none⟩) (out.length + 1) cap := by
  rcases hown'.2 with ⟨_, h0⟩ | ⟨g, cap, cur, hv, _⟩
  ·omega
  ·exact ⟨g, cap, hv⟩
 have HO := Lib.hid hown'
 have HB := Lib.hid hb2
 clear hown' hb2 hn' hnil
 go_wp2
 go_ret
 refine ⟨rfl, ⟨_, .slice (some ⟨g, 0, none⟩) (out.length + 1) cap, .inr rfl, ?_, ?_, ⟨(fun e => by cases e), (fun e => by simp at e)⟩⟩, hbel.setCell (p := ⟨Bp, 2, none⟩) hap _, hap⟩
 ·rw [heap_setCell_same W2 Bp 2 _ 55 _ HB.out]; rfl
 ·rw [Lib.byteCells_append, List.length_append]
  exact own_setCell HO.out (p := ⟨Bp, 2, none⟩) hne' _
set_option maxHeartbeats 1000000 in
set_option maxRecDepth 100000 in
theorem strL_ok {w W : World} {Bp : Nat} {A : Option Addr} {c n : Nat} {out : List UInt8} (s : ByteArray) (h : Ly w W Bp A c n out) (hlen : out.length + s.size ≤ 140737488355328) :
  Calls Tryd.prog 19 #[.pointer (some ⟨Bp, 1, none⟩), .string s] W fun e W' => (∃ v, e = .returned (.tuple #[v, .nilIface])) ∧ Ly w W' Bp A c n (out ++ s.data.toList) := by
 obtain ⟨i0, hi, hz0, hz1, hz2⟩ := info_parts info5'
 go_enter Tryd.func19, Tryd.ntmps19
 go_wp2_with (go_at_call 33; refine (check_ok h).mono ?_)
 rintro e W1 ⟨rfl, h1⟩
 obtain ⟨v, hbk, hown, hnil⟩ := h1.pb
 have hb1 := h1.bl
 have hap := h1.ap
 have hne : some Bp ≠ v.ownBlock := fun e => by
  obtain ⟨cs, hc⟩ := own_typed hown Bp e.symm
  rw [hbk] at hc
  injection hc with hc
  injection hc with _ hc
  exact absurd hc (by decide)
 have c0 : W1.cell? ⟨Bp, 1, none⟩ = some (.pointer (some ⟨Bp, 1, none⟩)) := by rw [cell_of hbk]; rfl
 have c1 : W1.cell? ⟨Bp, 2, none⟩ = some v := by rw [cell_of hbk]; rfl
 go_wp2_with (at_builtin; refine Lib.wpList_append_own_string _ rfl _ _ 37 9 rfl w.heap.size 5 i0 Tryd.underlying37 Tryd.underlying9 hi hz0 hz1 hz2 _ _ _ rfl hown s rfl ?c3 ?c4 ?c5 ?_)
 case c3 => unfold maxLen; omega
 case c4 => omega
 case c5 => exact hb1.size
 intro v' W2 hown' hgrow hn'
 have hlt : Bp < W1.heap.size := (Array.getElem?_eq_some_iff.1 hbk).1
 have hb2 : W2.heap[Bp]? = some (.cells #[.slice A n c, .pointer (some ⟨Bp, 1, none⟩), v] 55 (0, 0)) := by
  rw [hgrow.block Bp hlt hne]
  exact hbk
 have d0 : W2.cell? ⟨Bp, 1, none⟩ = some (.pointer (some ⟨Bp, 1, none⟩)) := by rw [cell_of hb2]; rfl
 have d1 : W2.cell? ⟨Bp, 2, none⟩ = some v := by rw [cell_of hb2]; rfl
 have f1 : W2.frozen? ⟨Bp, 2, none⟩ = false := by simp [World.frozen?, hb2]
 have hbel : Below w.heap.size w W2 := hb1.grown hgrow hb1.size (fun k hk => own_base hown k hk)
 have hne' : some Bp ≠ v'.ownBlock := fun e => by
  obtain ⟨cs, hc⟩ := own_typed hown' Bp e.symm
  rw [hb2] at hc
  injection hc with hc
  injection hc with _ hc
  exact absurd hc (by decide)
 obtain ⟨A', m', cap, rfl⟩ : ∃ A' m' cap, v' = .slice A' m' cap := by
  rcases hown'.2 with ⟨h0, _⟩ | ⟨g, cap, cur, hv, _⟩
  ·exact ⟨_, _, _, h0⟩
  ·exact ⟨_, _, _, hv⟩
 have hsz : s.data.toList.length = s.size := by rw [Array.length_toList]; rfl
 have hfin : (Value.slice A' m' cap = .slice none 0 0 ↔ out ++ s.data.toList = []) := by
  have hn2 := hn'
  rw [List.append_eq_nil_iff]
  constructor
  ·intro e
   have h2 := hn2.1 e
   refine ⟨h2.1, ?_⟩
   have h3 := h2.2
   first
    | (rw [h3]; rfl)
    | exact List.eq_nil_of_length_eq_zero (by omega)
  ·rintro ⟨a, b⟩
   refine hn2.2 ⟨a, ?_⟩
   have hd : s = ByteArray.empty := by
    obtain ⟨d⟩ := s
    have : d = #[] := Array.ext' b
    rw [this]; rfl
   first
    | exact hd
    | (rw [hd]; rfl)
 have HO := Lib.hid hown'
 have HB := Lib.hid hb2
 have HF := Lib.hid hfin
 clear hown' hb2 hn' hnil hfin
 go_wp2
 go_ret2
 refine ⟨⟨_, rfl⟩, ⟨_, _, .inr rfl, ?_, ?_, HF.out⟩, hbel.setCell (p := ⟨Bp, 2, none⟩) hap _, hap⟩
 ·rw [heap_setCell_same W2 Bp 2 _ 55 _ HB.out]; rfl
 ·rw [Lib.byteCells_append, List.length_append, hsz]
  exact own_setCell HO.out (p := ⟨Bp, 2, none⟩) hne' _
theorem own_cells {w : World} {base : Nat} {e : TypeId} {v : Value} {n : Nat} {xs : List Value} (h : w.ownsRow base e 1 v n xs) {g : Nat} (hg : v.ownBlock = some g) : ∀ j u, xs[j]? = some u → w.cell? ((⟨g, 0, none⟩ : Addr).add j) = some u :=
 (World.ownsRowF_of h).cells hg
theorem infoU : Tryd.prog.cellsOf 5 = 1 := by kernel_rfl
set_option maxHeartbeats 4000000 in
set_option maxRecDepth 100000 in
theorem stringL_ok {w W : World} {Bp : Nat} {A : Option Addr} {c n : Nat} {out : List UInt8} (h : Ly w W Bp A c n out) :
  Calls Tryd.prog 21 #[.pointer (some ⟨Bp, 1, none⟩)] W fun e W' => e = .returned (.string ⟨out.toArray⟩) ∧ Below w.heap.size w W' := by
 obtain ⟨p, v, _, hbk, hown, hnil⟩ := h.pb
 have hb1 := h.bl
 have mixed : Tryd.prog.follows .mixedOrders = true := by kernel_rfl
 by_cases h0 : out = []
 ·obtain rfl := hnil.2 h0
  subst h0
  have c1 : W.drew.cell? ⟨Bp, 2, none⟩ = some (.slice none 0 0) := by
   have : W.drew.heap[Bp]? = some (.cells #[.slice A n c, p, .slice none 0 0] 55 (0, 0)) := hbk
   rw [cell_of this]; rfl
  have hSD : (Builtin.unsafeSliceData_ #[37] 67 #[.slice none 0 0]).run Tryd.prog W.drew = .ok (.pointer none) W.drew := rfl
  have hUS : ∀ (W : World) (q : Option Addr), (Builtin.unsafeString_ #[67, 3] 9 #[.pointer q, .int .i64 0]).run Tryd.prog W = .ok (.string .empty) W := fun W q => Lib.run_unsafeString_none W _ _ _ q
  have HB := Lib.hid hb1
  clear hbk hown hnil h hb1
  go_enter Tryd.func21, Tryd.ntmps21
  go_wp2
  go_region_o
  all_goals (go_wp2; go_ret; exact ⟨rfl, below_drew HB.out⟩)
 ·have hl0 : out.length ≠ 0 := by simpa using h0
  obtain ⟨g, cap, cur, rfl, hbg, hg, hnc, hcm, hcs, htake⟩ : ∃ g cap cur, v = .slice (some ⟨g, 0, none⟩) out.length cap ∧ w.heap.size ≤ g ∧ W.heap[g]? = some (.cells cur 5 (0, 0)) ∧ out.length ≤ cap ∧ cap ≤ maxLen ∧ cur.size = cap * 1 ∧ cur.toList.take (out.length * 1) = Lib.byteCells out := by
   rcases hown.2 with ⟨_, hz⟩ | ⟨g, cap, cur, hv, r⟩
   ·exact absurd hz hl0
   ·exact ⟨g, cap, cur, hv, r⟩
  have c1 : W.drew.cell? ⟨Bp, 2, none⟩ = some (.slice (some ⟨g, 0, none⟩) out.length cap) := by
   have : W.drew.heap[Bp]? = some (.cells #[.slice A n c, p, .slice (some ⟨g, 0, none⟩) out.length cap] 55 (0, 0)) := hbk
   rw [cell_of this]; rfl
  have hSD : (Builtin.unsafeSliceData_ #[37] 67 #[.slice (some ⟨g, 0, none⟩) out.length cap]).run Tryd.prog W.drew = .ok (.pointer (some ⟨g, 0, none⟩)) W.drew :=
   Lib.run_unsafeSliceData_row _ _ _ _ _ _ (by omega)
  have hUS : (Builtin.unsafeString_ #[67, 3] 9 #[.pointer (some ⟨g, 0, none⟩), .int .i64 out.length]).run Tryd.prog W.drew = .ok (.string ⟨out.toArray⟩) (W.drew.freeze ⟨g, 0, none⟩ out.length) := by
   refine Lib.run_unsafeString_row W.drew 67 3 9 5 Tryd.underlying67 infoU g cur.size (by have hg' : W.drew.heap[g]? = some (.cells cur 5 (0, 0)) := hg; simp [World.shape?, hg']) out h0 (by omega) (by unfold maxLen at hcm; omega) ?_
   intro j x hx
   have := own_cells hown (g := g) rfl j (.int .u8 x.toNat) (by simp [Lib.byteCells, hx])
   exact this
  have HB := Lib.hid hb1
  clear hbk hown hnil h hb1 h0 hl0 hcm hcs htake hg hnc
  go_enter Tryd.func21, Tryd.ntmps21
  go_wp2
  go_region_o
  all_goals (go_wp2; go_ret; exact ⟨rfl, Lib.below_freeze (below_drew HB.out) (p := ⟨g, 0, none⟩) hbg _⟩)
end Go.Proofs.YtldjbgonlbmeaaaDoor.T
end
section
/- show.layout: nested, flat, line, form: the walks. -/
set_option linter.unusedSimpArgs false
set_option linter.unusedVariables false
namespace Go.Proofs.YtldjbgonlbmeaaaDoor.T
open Go.RowKit Go.Proofs.YtldjbgonlbmeaaaDoor.PA Go.Proofs.YtldjbgonlbmeaaaDoorW.PrintWords Go.Proofs.YtldjbgonlbmeaaaDoorW.PrintLast Go.Proofs.YtldjbgonlbmeaaaDoorW.PrintMore
set_option maxHeartbeats 1000000 in
theorem nested_ok {w W : World} {Bp : Nat} {A : Option Addr} {c : Nat} {l : List Fm} {out : List UInt8} (h : Ly w W Bp A c l.length out) (hC : Kd.C kFm w A l.length l) (k : Nat) (hk : k < l.length) :
  Calls Tryd.prog 40 #[.pointer (some ⟨Bp, 0, none⟩), .int .i64 (k : Int)] W fun e W' => e = .returned (.bool (nst l k)) ∧ W' = W := by
 obtain ⟨ad, A3, c3, rfl, e0, _⟩ := form_at hC hk
 have c0 := h.c0
 have g0 := (h.bl.cell (World.block_lt_of_cell? w _ e0)).trans e0
 have hn : nst l k = (l[k].f0 == 1) := by unfold nst; rw [Int.toNat_natCast, List.getD_eq_getElem?_getD, List.getElem?_eq_getElem hk]; rfl
 obtain ⟨x, hx⟩ : ∃ x, x = l[k].f0 := ⟨_, rfl⟩
 have hl : l.length ≤ 9223372036854775807 := hC.2.1
 rw [← hx] at g0 hn
 have HN := Lib.hid hn
 have d1 : decide ((k : Int) < (l.length : Int)) = true := decide_eq_true (by omega)
 have d2 : decide (k < l.length) = true := decide_eq_true hk
 clear hx hn e0 h hC
 go_enter Tryd.func40, Tryd.ntmps40
 go_wp2
 go_ret
 rw [HN.out]
 exact ⟨rfl, rfl⟩
set_option maxHeartbeats 1000000 in
theorem flat_ok {w W : World} {Bp : Nat} {A : Option Addr} {c : Nat} {l : List Fm} {out : List UInt8} {M : Nat} (h : Ly w W Bp A c l.length out) (hC : Kd.C kFm w A l.length l) (hM : Mx M l) (hb : 400 * (M + 24) ≤ 70368744177664) (k : Int) (hlen : out.length + (flatL l k).length ≤ 140737488355328) :
  Calls Tryd.prog 41 #[.pointer (some ⟨Bp, 0, none⟩), .int .i64 k] W fun e W' => e = .returned (.tuple #[]) ∧ Ly w W' Bp A c l.length (out ++ flatL l k) := by
 have c0 := h.c0
 have hsz : (oneS l k).1.size = (flatL l k).length := by unfold flatL; rw [Array.length_toList]; rfl
 have hone := One_ok l A c k M W (Kd.C_below hC h.bl) hM hb
 have HH := Lib.hid h
 have HO := Lib.hid hone
 have HS := Lib.hid hsz
 clear h hC hone hsz
 go_enter Tryd.func41, Tryd.ntmps41
 go_wp2_with (first | (go_at_call 9; refine HO.out.mono ?_; rintro e W1 ⟨rfl, hb1⟩; have h1 := HH.out.below hb1; have H1 := Lib.hid h1; have c1 := h1.c0; clear h1 hb1 c0) | (go_at_call 19; refine (strL_ok (oneS l k).1 H1.out (by rw [HS.out]; exact hlen)).mono ?_; rintro e W2 ⟨⟨v, rfl⟩, h2⟩; have H2 := Lib.hid h2; clear h2))
 go_end0
 exact ⟨rfl, H2.out⟩
set_option maxHeartbeats 1000000 in
theorem line_ok {w W : World} {Bp : Nat} {A : Option Addr} {c n : Nat} {out : List UInt8} (h : Ly w W Bp A c n out) (deep : Nat) (hd : deep ≤ 100000) (hlen : out.length + (lineL deep).length ≤ 140737488355328) :
  Calls Tryd.prog 42 #[.pointer (some ⟨Bp, 0, none⟩), .int .i64 (deep : Int)] W fun e W' => e = .returned (.tuple #[]) ∧ Ly w W' Bp A c n (out ++ lineL deep) := by
 have hl := lineL_len deep
 have HH := Lib.hid h
 clear h
 go_enter Tryd.func42, Tryd.ntmps42
 go_wp2_with (go_at_call 20; refine (byteL_ok 10 HH.out (by omega)).mono ?_; rintro e W1 ⟨rfl, h1⟩; have H1 := Lib.hid h1; clear h1)
 have hrl : (Lib.repeatL [32, 32] deep).length = 2 * deep := by rw [Lib.repeatL_length]; simp; omega
 have HRL := Lib.hid hrl
 clear hrl
 refine start_ (n := 6) (S := fun w' => True) (ds := [4, 5]) #[false,false,false,false,false,false] (by kernel_rfl) rfl rfl trivial (fun hHeld => ?_)
 refine pure_ (i := 0) (N := some 8) (v := ?_) (a' := ?_) #[true,false,false,false,false,false] rfl rfl (by kernel_rfl) (fun _ _ _ h => h) (Or.inl ⟨by rfl, ?_⟩) ?_ ?_
 rotate_left
 ·intro w'
  go_simp
  with_reducible rfl
 rotate_left
 ·simp only [Act.put, List.setIfInBounds_toArray, List.set_cons_zero, List.set_cons_succ, i64_w, i32_w]
  rfl
 refine pure_ (i := 1) (N := some 9) (v := ?_) (a' := ?_) #[true,true,false,false,false,false] rfl rfl (by kernel_rfl) (fun _ _ _ h => h) (Or.inl ⟨by rfl, ?_⟩) ?_ ?_
 rotate_left
 ·intro w'
  go_simp
  with_reducible rfl
 rotate_left
 ·simp only [Act.put, List.setIfInBounds_toArray, List.set_cons_zero, List.set_cons_succ, i64_w, i32_w]
  rfl
 refine pure_ (i := 2) (N := some 10) (v := ?_) (a' := ?_) #[true,true,true,false,false,false] rfl rfl (by kernel_rfl) (fun _ _ _ h => h) (Or.inl ⟨by rfl, ?_⟩) ?_ ?_
 rotate_left
 ·intro w'
  go_simp
  with_reducible rfl
 rotate_left
 ·simp only [Act.put, List.setIfInBounds_toArray, List.set_cons_zero, List.set_cons_succ, i64_w, i32_w]
  rfl
 refine pure_ (i := 3) (N := some 11) (v := ?_) (a' := ?_) #[true,true,true,true,false,false] rfl rfl (by kernel_rfl) (fun _ _ _ h => h) (Or.inl ⟨by rfl, ?_⟩) ?_ ?_
 rotate_left
 ·intro w'
  go_simp
  with_reducible rfl
 rotate_left
 ·simp only [Act.put, List.setIfInBounds_toArray, List.set_cons_zero, List.set_cons_succ, i64_w, i32_w]
  rfl
 refine last_ (i := 4) (N := some 12) #[true,true,true,true,true,false] rfl rfl (by kernel_rfl) (by decide) (fun K hK => ?_)
 refine goes_ Tryd.func51 (by kernel_rfl) rfl #[.string (⟨#[32, 32]⟩ : ByteArray), .int .i64 (deep : Int)] (by rfl) rfl rfl (by simp only [List.map_toArray, List.map_cons, List.map_nil]; rfl) ?_
 with_reducible refine (Tryd.strings_Repeat (⟨#[32, 32]⟩ : ByteArray) deep _ (by omega) (by simp [ByteArray.size]; omega)).mono ?_
 rintro e W2 ⟨rfl, hb2⟩
 refine ⟨_, rfl, ?_⟩
 have h2 := (H1.out.below (below_drew (Below.refl _ _))).below hb2
 have H2 := Lib.hid h2
 clear h2 hb2
 refine hK.out _ _ ?_
 clear hK K
 refine norm_ (a' := ?_) ?_ ?_
 rotate_left
 ·show Act.put _ (some 12) _ = _
  simp only [Act.put, List.setIfInBounds_toArray, List.set_cons_zero, List.set_cons_succ, i64_w, i32_w]
  rfl
 refine last_ (i := 5) (N := some 13) #[true,true,true,true,true,true] rfl rfl (by kernel_rfl) (by decide) (fun K hK => ?_)
 refine goes_ Tryd.func19 (by kernel_rfl) rfl #[.pointer (some ⟨Bp, 1, none⟩), .string ⟨(Lib.repeatL [32, 32] deep).toArray⟩] (by rfl) rfl rfl (by simp only [List.map_toArray, List.map_cons, List.map_nil]; rfl) ?_
 with_reducible refine (strL_ok ⟨(Lib.repeatL [32, 32] deep).toArray⟩ H2.out (by have := HRL.out; simp [ByteArray.size] at *; omega)).mono ?_
 rintro e W3 ⟨⟨v, rfl⟩, h3⟩
 refine ⟨_, rfl, ?_⟩
 refine hK.out _ _ ?_
 clear hK K
 refine norm_ (a' := ?_) ?_ ?_
 rotate_left
 ·show Act.put _ (some 13) _ = _
  simp only [Act.put, List.setIfInBounds_toArray, List.set_cons_zero, List.set_cons_succ, i64_w, i32_w]
  rfl
 refine done_ (by kernel_rfl) ?_
 have H3 := Lib.hid h3
 clear h3
 go_wp2
 go_end0
 refine ⟨rfl, ?_⟩
 have := H3.out
 simpa [lineL] using this
end Go.Proofs.YtldjbgonlbmeaaaDoor.T
end
section
/- show.layout.form: the walk. -/
set_option linter.unusedSimpArgs false
set_option linter.unusedVariables false
namespace Go.Proofs.YtldjbgonlbmeaaaDoor.T
open Go.RowKit Go.Proofs.YtldjbgonlbmeaaaDoor.PA Go.Proofs.YtldjbgonlbmeaaaDoorW.PrintWords Go.Proofs.YtldjbgonlbmeaaaDoorW.PrintLast Go.Proofs.YtldjbgonlbmeaaaDoorW.PrintMore
def FrOk (w : World) (Bp : Nat) (A : Option Addr) (c : Nat) (l : List Fm) (d : Nat) : Prop := ∀ (at_ deep : Nat) (out : List UInt8) (W : World), Ly w W Bp A c l.length out → at_ < l.length → l.length ≤ at_ + d → deep + d ≤ 100000 → out.length + (fr l d at_ deep).length ≤ 70368744177664 →
  Calls Tryd.prog 27 #[.pointer (some ⟨Bp, 0, none⟩), .int .i64 (at_ : Int), .int .i64 (deep : Int)] W fun e W' => e = .returned (.tuple #[]) ∧ Ly w W' Bp A c l.length (out ++ fr l d at_ deep)
set_option maxRecDepth 100000 in
set_option maxHeartbeats 8000000 in
theorem form_step {w : World} {Bp : Nat} {A : Option Addr} {c : Nat} {l : List Fm} {M d : Nat} (hC : Kd.C kFm w A l.length l) (hM : Mx M l) (hb : 400 * (M + 24) ≤ 70368744177664) (hKin : Kin l) (ih : FrOk w Bp A c l d) : FrOk w Bp A c l (d + 1) := by
 intro at_ deep out W h hat hd hdd hlen
 have hl : l.length ≤ 9223372036854775807 := hC.2.1
 obtain ⟨ad, A3, c3, rfl, _, _, _, e3, _, h3, hK⟩ := form_at hC hat
 have hgk : l.getD ((at_ : Nat) : Int).toNat zFm = l[at_] := by rw [Int.toNat_natCast, List.getD_eq_getElem?_getD, List.getElem?_eq_getElem hat]; rfl
 have hkin : ∀ k ∈ l[at_].f3, (at_ : Int) < k ∧ k < (l.length : Int) := by
  have := hKin at_ hat
  rwa [List.getD_eq_getElem?_getD, List.getElem?_eq_getElem hat] at this
 obtain ⟨ks, hks⟩ : ∃ ks, ks = l[at_].f3 := ⟨_, rfl⟩
 obtain ⟨R, hR⟩ : ∃ R, fr l (d + 1) at_ deep = R := ⟨_, rfl⟩
 rw [hR] at hlen ⊢
 rw [fr, hgk, ← hks] at hR
 rw [← hks] at e3 h3 hK hkin
 have g3 := (h.bl.cell (World.block_lt_of_cell? w _ e3)).trans e3
 have c0 := h.c0
 have hkl : ks.length ≤ 9223372036854775807 := hK.2.1
 have hfle := fstk_le l ks
 obtain ⟨m, hm⟩ : ∃ m, m = fstk l ks := ⟨_, rfl⟩
 rw [← hm] at hR hfle
 have HM := Lib.hid hm
 have HR := Lib.hid hR
 have HH := Lib.hid h
 have HK := Lib.hid hK
 have HC := Lib.hid hC
 have HI := Lib.hid ih
 have HKI := Lib.hid hkin
 have dsl : decide ((at_ : Int) < (l.length : Int)) = true := decide_eq_true (by omega)
 have dsl2 : decide (at_ < l.length) = true := decide_eq_true hat
 clear e3 hgk hks hR h hK hC ih hm hkin hKin
 go_enter Tryd.func27, Tryd.ntmps27
 go_wp2
 go_loopw [7] (fun v7 wr => ∃ j : Nat, j ≤ m ∧ v7 = .int .i64 j ∧ wr = W) (fun v7 _ => ks.length - (intOf v7).toNat)
 case atStart => exact ⟨0, Nat.zero_le _, rfl, rfl⟩
 case round =>
  obtain ⟨j, hj, rfl, rfl⟩ := hrel
  by_cases hlt : j < ks.length
  ·obtain ⟨ad3, rfl, q0⟩ := int_at HK.out hlt
   have q1 := (HH.out.bl.cell (World.block_lt_of_cell? w _ q0)).trans q0
   have hkm := HKI.out ks[j] (List.getElem_mem hlt)
   have d1 : decide (j < ks.length) = true := decide_eq_true hlt
   have d1' : decide ((j : Int) < (ks.length : Int)) = true := decide_eq_true (by omega)
   by_cases hjm : j < m
   ·have hns := fstk_lt l ks j hlt (by rw [← HM.out]; exact hjm)
    obtain ⟨k, hk⟩ : ∃ k : Nat, ks[j] = (k : Int) := ⟨ks[j].toNat, by omega⟩
    rw [hk] at q1 hns hkm
    have hkl2 : k < l.length := by omega
    have HNS := Lib.hid hns
    clear hk hns hkm q0
    go_wp2_with (go_at_call 40; refine (nested_ok HH.out HC.out k hkl2).mono ?_; rw [HNS.out]; rintro e W' ⟨rfl, rfl⟩)
    go_roundw
    case rel => exact ⟨j + 1, by omega, by go_num, by first | rfl | trivial⟩
    case measure => simp [intOf]; omega
   ·have hje : j = m := by omega
    subst hje
    have hns : nst l ks[j] = true := by
     have hx := fstk_at l ks (by rw [← HM.out]; exact hlt)
     have e : fstk l ks = j := HM.out.symm
     simp only [e] at hx
     exact hx
    obtain ⟨k, hk⟩ : ∃ k : Nat, ks[j] = (k : Int) := ⟨ks[j].toNat, by omega⟩
    rw [hk] at q1 hns hkm
    have hkl2 : k < l.length := by omega
    have HNS := Lib.hid hns
    have hR := HR.out
    rw [if_neg (by omega)] at hR
    have HR := Lib.hid hR
    have d4 : ((j : Int) == (ks.length : Int)) = false := by rw [beq_eq_false_iff_ne]; omega
    have d5 : (j == ks.length) = false := by rw [beq_eq_false_iff_ne]; omega
    have hR1 : 2 ≤ R.length := by rw [← HR.out]; simp
    clear hk hns hkm q0 hR
    go_wp2_with (first | (go_at_call 40; refine (nested_ok HH.out HC.out k hkl2).mono ?_; rw [HNS.out]; rintro e W' ⟨rfl, rfl⟩) | (go_at_call 20; refine (byteL_ok 40 HH.out (by omega)).mono ?_; rintro e W1 ⟨rfl, h1⟩; have H1 := Lib.hid h1; clear h1))
    obtain ⟨T, hT⟩ : ∃ T, T = out ++ R := ⟨_, rfl⟩
    have hTl : T.length ≤ 70368744177664 := by rw [hT, List.length_append]; exact hlen
    have hstart : (out ++ [40]) ++ frk (fun k => fr l d k (deep + 1)) l deep j 0 ks ++ [41] = T := by rw [hT, ← HR.out]; simp
    have HT := Lib.hid hT
    have HS := Lib.hid hstart
    clear hstart hT HR hR1 hlen
    go_loopw [46] (fun v46 wr => ∃ (i : Nat) (o : List UInt8), i ≤ ks.length ∧ v46 = .int .i64 i ∧ Ly w wr Bp (some ad) c l.length o ∧ o ++ frk (fun k => fr l d k (deep + 1)) l deep j i (ks.drop i) ++ [41] = T) (fun v46 _ => ks.length - (intOf v46).toNat)
    case atStart => exact ⟨0, _, Nat.zero_le _, rfl, H1.out, HS.out⟩
    case round =>
     obtain ⟨i, o, hi, rfl, hly, hE⟩ := hrel
     have HL := Lib.hid hly
     have HE := Lib.hid hE
     clear hly hE
     by_cases hil : i < ks.length
     ·obtain ⟨ad3', hade, q0⟩ := int_at HK.out hil
      cases hade
      have q1 := (HL.out.bl.cell (World.block_lt_of_cell? w _ q0)).trans q0
      have hkm := HKI.out ks[i] (List.getElem_mem hil)
      have hdr : ks.drop i = ks[i] :: ks.drop (i + 1) := List.drop_eq_getElem_cons hil
      have hE := HE.out
      rw [hdr, frk] at hE
      obtain ⟨k, hk⟩ : ∃ k : Nat, ks[i] = (k : Int) := ⟨ks[i].toNat, by omega⟩
      rw [hk] at q1 hkm hE
      have hkl2 : k < l.length := by omega
      have e1 : decide (i < ks.length) = true := decide_eq_true hil
      have e1' : decide ((i : Int) < (ks.length : Int)) = true := decide_eq_true (by omega)
      clear hdr hk q0 HE
      by_cases hij : i < j
      ·rw [if_pos hij] at hE
       have e2 : decide (i < j) = true := decide_eq_true hij
       have e2' : decide ((i : Int) < (j : Int)) = true := decide_eq_true (by omega)
       by_cases h0 : 0 < i
       ·rw [if_pos h0] at hE
        have hlen1 : o.length + 1 + (flatL l k).length ≤ T.length := by rw [← hE]; simp; omega
        have hnext : (o ++ [32] ++ flatL l k) ++ frk (fun k => fr l d k (deep + 1)) l deep j (i + 1) (ks.drop (i + 1)) ++ [41] = T := by rw [← hE]; simp
        have HN := Lib.hid hnext
        have e3 : decide ((i : Int) > 0) = true := decide_eq_true (by omega)
        have e4 : decide (0 < i) = true := decide_eq_true h0
        clear hE hnext h0 hij
        go_wp2_with (first | (go_at_call 20; refine (byteL_ok 32 HL.out (by omega)).mono ?_; rintro e W2 ⟨rfl, h2⟩; have H2 := Lib.hid h2; clear h2) | (go_at_call 41; refine (flat_ok H2.out HC.out hM hb k (by simp; omega)).mono ?_; rintro e W3 ⟨rfl, h3⟩; have H3 := Lib.hid h3; clear h3))
        go_roundw
        case rel => exact ⟨i + 1, _, by omega, by go_num, H3.out, HN.out⟩
        case measure => simp [intOf]; omega
       ·obtain rfl : i = 0 := by omega
        rw [if_neg (by omega)] at hE
        have hlen1 : o.length + (flatL l k).length ≤ T.length := by rw [← hE]; simp
        have hnext : (o ++ flatL l k) ++ frk (fun k => fr l d k (deep + 1)) l deep j (0 + 1) (ks.drop (0 + 1)) ++ [41] = T := by rw [← hE]; simp
        have HN := Lib.hid hnext
        have q2 : wr.cell? ad3 = some (.int .i64 (k : Int)) := by rwa [show ad3.add 0 = ad3 from by unfold Addr.add; split <;> simp_all] at q1
        clear hE hnext h0 hij q1
        go_wp2_with (go_at_call 41; refine (flat_ok HL.out HC.out hM hb k (by omega)).mono ?_; rintro e W3 ⟨rfl, h3⟩; have H3 := Lib.hid h3; clear h3)
        go_roundw
        case rel => exact ⟨1, _, by omega, rfl, H3.out, HN.out⟩
        case measure => simp [intOf]; omega
      ·rw [if_neg hij] at hE
       have e2 : decide (i < j) = false := decide_eq_false hij
       have e2' : decide ((i : Int) < (j : Int)) = false := decide_eq_false (by omega)
       have hlen1 : o.length + (lineL deep).length + (fr l d k (deep + 1)).length ≤ T.length := by rw [← hE]; simp; omega
       have hnext : (o ++ lineL deep ++ fr l d k (deep + 1)) ++ frk (fun k => fr l d k (deep + 1)) l deep j (i + 1) (ks.drop (i + 1)) ++ [41] = T := by rw [← hE]; simp
       have HN := Lib.hid hnext
       clear hE hnext hij
       go_wp2_with (first | (go_at_call 42; refine (line_ok HL.out deep (by omega) (by omega)).mono ?_; rintro e W2 ⟨rfl, h2⟩; have H2 := Lib.hid h2; clear h2) | (go_at_call 27; refine (HI.out k (deep + 1) _ _ H2.out hkl2 (by omega) (by omega) (by simp; omega)).mono ?_; rintro e W3 ⟨rfl, h3⟩; have H3 := Lib.hid h3; clear h3))
       go_roundw
       case rel => exact ⟨i + 1, _, by omega, by go_num, H3.out, HN.out⟩
       case measure => simp [intOf]; omega
     ·have hie : i = ks.length := by omega
      have e1 : decide (i < ks.length) = false := decide_eq_false hil
      have e1' : decide ((i : Int) < (ks.length : Int)) = false := decide_eq_false (by omega)
      have hE := HE.out
      rw [hie, List.drop_length, frk, List.append_nil] at hE
      have hlen1 : o.length + 1 ≤ T.length := by rw [← hE]; simp
      have HE := Lib.hid hE
      clear hE hie
      go_wp2_with (go_at_call 20; refine (byteL_ok 41 HL.out (by omega)).mono ?_; rintro e W2 ⟨rfl, h2⟩; have H2 := Lib.hid h2; clear h2)
      first | go_end0 | refine bodyPost_ret (results_none rfl _ _ _) rfl ?_
      rw [← HT.out, ← HE.out]
      exact ⟨rfl, H2.out⟩
  ·have hje : m = ks.length := by omega
   have hjk : j = ks.length := by omega
   subst hjk
   have hR := HR.out
   rw [if_pos hje] at hR
   have HR := Lib.hid hR
   have d1 : decide (ks.length < ks.length) = false := decide_eq_false hlt
   have d1' : decide ((ks.length : Int) < (ks.length : Int)) = false := decide_eq_false (by omega)
   clear hR
   go_wp2_with (go_at_call 41; refine (flat_ok HH.out HC.out hM hb at_ (by rw [HR.out]; omega)).mono ?_; rw [HR.out]; rintro e W1 ⟨rfl, h1⟩; have H1 := Lib.hid h1; clear h1)
   first | go_end0 | refine bodyPost_ret (results_none rfl _ _ _) rfl ?_
   exact ⟨rfl, H1.out⟩
theorem form_ok {w : World} {Bp : Nat} {A : Option Addr} {c : Nat} {l : List Fm} {M : Nat} (hC : Kd.C kFm w A l.length l) (hM : Mx M l) (hb : 400 * (M + 24) ≤ 70368744177664) (hKin : Kin l) : ∀ d, FrOk w Bp A c l d
 | 0 => fun at_ deep out W h hat hd => absurd hd (by omega)
 | d + 1 => form_step hC hM hb hKin (form_ok hC hM hb hKin d)
end Go.Proofs.YtldjbgonlbmeaaaDoor.T
end
section
/- Plain facts on decimal digits as bytes: what a text says, and which texts are the text of a number. -/
set_option linter.unusedSimpArgs false
namespace Go.Proofs.YtldjbgonlbmeaaaDoor.Dig

theorem itoa_text (a : Int) : Lib.itoa a = text a := by
 have key : ∀ n : Nat, Lib.decDigits n = dec n := by
  intro n
  induction n using Nat.strongRecOn with
  | ind n ih =>
   rw [Lib.decDigits, dec]
   by_cases h : n < 10
   ·rw [dif_pos h, if_pos h]
   ·rw [dif_neg h, if_neg h, ih (n / 10) (by omega)]
 unfold Lib.itoa text
 by_cases h : a < 0
 ·rw [if_pos h, if_pos h, key]
 ·rw [if_neg h, if_neg h, key, show a.toNat = a.natAbs by omega]
def isd (c : UInt8) : Bool := decide (48 ≤ c.toNat) && decide (c.toNat ≤ 57)
def dval (l : List UInt8) : Nat := l.foldl (fun n c => n * 10 + (c.toNat - 48)) 0
theorem dval_app (l : List UInt8) (c : UInt8) : dval (l ++ [c]) = dval l * 10 + (c.toNat - 48) := by simp [dval]
theorem dig_nat {n : Nat} (h : n < 10) : (UInt8.ofNat (48 + n)).toNat = 48 + n := by
 rw [UInt8.toNat_ofNat']
 omega
theorem isd_nat {n : Nat} (h : n < 10) : isd (UInt8.ofNat (48 + n)) = true := by simp [isd, dig_nat h]; omega
theorem dec_val : ∀ n : Nat, dval (dec n) = n ∧ ∀ c ∈ dec n, isd c = true := by
 intro n
 induction n using Nat.strongRecOn with
 | ind n ih =>
  by_cases h : n < 10
  ·rw [dec_small h]
   refine ⟨by have := dig_nat h; simp only [dval, List.foldl_cons, List.foldl_nil, this]; omega, fun c hc => ?_⟩
   rw [List.mem_singleton.1 hc]
   exact isd_nat h
  ·obtain ⟨h1, h2⟩ := ih (n / 10) (by omega)
   rw [dec_big h]
   refine ⟨by rw [dval_app, h1, dig_nat (by omega)]; omega, fun c hc => ?_⟩
   rcases List.mem_append.1 hc with hc | hc
   ·exact h2 c hc
   ·rw [List.mem_singleton.1 hc]
    exact isd_nat (by omega)
theorem dec_head : ∀ n : Nat, n ≠ 0 → ∃ c r, dec n = c :: r ∧ c.toNat ≠ 48 := by
 intro n
 induction n using Nat.strongRecOn with
 | ind n ih =>
  intro hn
  by_cases h : n < 10
  ·rw [dec_small h]
   exact ⟨_, [], rfl, by rw [dig_nat h]; omega⟩
  ·obtain ⟨c, r, h1, h2⟩ := ih (n / 10) (by omega) (by omega)
   rw [dec_big h, h1]
   exact ⟨c, r ++ _, rfl, h2⟩
theorem dec_of : ∀ (k : Nat) (l : List UInt8), l.length = k + 1 → (∀ c ∈ l, isd c = true) → (∀ c r, l = c :: r → c.toNat ≠ 48) → dec (dval l) = l ∧ dval l ≠ 0
 | 0, l, hl, hd, hh => by
  obtain ⟨c, rfl⟩ := List.length_eq_one_iff.1 hl
  have h1 := hd c (by simp)
  have h2 := hh c [] rfl
  simp only [isd, Bool.and_eq_true, decide_eq_true_eq] at h1
  have hv : dval [c] = c.toNat - 48 := by simp [dval]
  rw [hv, dec_small (by omega)]
  refine ⟨?_, by omega⟩
  congr 1
  apply UInt8.toNat_inj.1
  rw [dig_nat (by omega)]
  omega
 | k + 1, l, hl, hd, hh => by
  obtain ⟨r, c, rfl⟩ : ∃ r c, l = r ++ [c] := ⟨l.dropLast, l.getLast (by intro e; rw [e] at hl; simp at hl), (List.dropLast_concat_getLast _).symm⟩
  have hr : r.length = k + 1 := by simp at hl; omega
  have h1 := hd c (by simp)
  simp only [isd, Bool.and_eq_true, decide_eq_true_eq] at h1
  obtain ⟨i1, i2⟩ := dec_of k r hr (fun x hx => hd x (List.mem_append_left _ hx)) (fun x t ht => hh x (t ++ [c]) (by rw [ht]; rfl))
  have hv : dval (r ++ [c]) = dval r * 10 + (c.toNat - 48) := dval_app r c
  have hbig : ¬ dval (r ++ [c]) < 10 := by omega
  rw [dec_big hbig, hv]
  refine ⟨?_, by omega⟩
  rw [show (dval r * 10 + (c.toNat - 48)) / 10 = dval r by omega, show (dval r * 10 + (c.toNat - 48)) % 10 = c.toNat - 48 by omega, i1]
  congr 2
  apply UInt8.toNat_inj.1
  rw [dig_nat (by omega)]
  omega
theorem text_inj {a b : Int} (h : text a = text b) : a = b := by
 have hd : ∀ n : Nat, ∀ c ∈ dec n, c ≠ 45 := fun n c hc e => by
  have := (dec_val n).2 c hc
  subst e
  exact absurd this (by decide)
 have nn : ∀ n m : Nat, dec n ≠ 45 :: dec m := fun n m e => hd n 45 (by rw [e]; simp) rfl
 unfold text at h
 split at h <;> split at h
 ·have := congrArg dval (List.cons.inj h).2
  rw [(dec_val _).1, (dec_val _).1] at this
  omega
 ·exact absurd h.symm (nn _ _)
 ·exact absurd h (nn _ _)
 ·have := congrArg dval h
  rw [(dec_val _).1, (dec_val _).1] at this
  omega
end Go.Proofs.YtldjbgonlbmeaaaDoor.Dig
end
section
/- The reference's Digits: strconv.FormatInt at base 10, out of the shelf; the table that it reads is a premise. -/
set_option linter.unusedSimpArgs false
set_option linter.unusedVariables false
namespace Go.Proofs.YtldjbgonlbmeaaaDoor.Dig
open Go.RowKit Go.Shelf Go.Proofs Go.Proofs.YtldjbgonlbmeaaaDoorW.PrintWords
abbrev Tab (w : World) : Prop := Lib.TabIs Tryd.prog w "internal/strconv.uint64pow10" .u64 Lib.pow10Tab
theorem Tab.bel {w w' : World} (h : Aside0 (Tab w)) (hb : Below w.heap.size w w') : Aside0 (Tab w') := ⟨Lib.tabBelow_of_tabIs h.out w' hb⟩
theorem grow_below (w : World) (k : Nat) (os : Array Obj) : Below w.heap.size w (Sort.grow (w.drewN k) os) :=
 ⟨rfl, rfl, rfl, by show w.heap.size ≤ (w.heap ++ os).size; simp, fun q hq => by show (w.heap ++ os)[q]? = _; rw [Array.getElem?_append_left hq]⟩
theorem rdigits_ok (n : Int) (h0 : -9223372036854775808 ≤ n) (h1 : n ≤ 9223372036854775807) (w : World) (HT : Aside0 (Tab w)) :
  Calls Tryd.prog 37 #[.int .i64 n] w fun e w' => e = .returned (.string ⟨(text n).toArray⟩) ∧ Below w.heap.size w w' := by
 have H0 := Lib.hid h0
 have H1 := Lib.hid h1
 clear h0 h1
 go_enter Tryd.func37, Tryd.ntmps37
 go_wp2_with fail
 with_reducible refine (Tryd.strconv_FormatInt_10 n H0.out H1.out w HT.out).mono ?_
 rintro e w' ⟨rfl, k, os, rfl⟩
 have HB := Lib.hid (grow_below w k os)
 generalize Sort.grow (w.drewN k) os = W at HB ⊢
 go_wp2
 go_ret
 rw [itoa_text]
 exact ⟨rfl, HB.out⟩
def reticuleref01_Digits.f (a0 : Int) : Option ByteArray := if -9223372036854775808 ≤ a0 ∧ a0 ≤ 9223372036854775807 then some ⟨(text a0).toArray⟩ else none
theorem reticuleref01_Digits.calls (a0 : Int) (r : ByteArray) (w : World) (HT : Aside0 (Tab w)) (h : reticuleref01_Digits.f a0 = some r) :
  Calls Tryd.prog 37 #[.int .i64 a0] w fun e w' => e = .returned (.string r) ∧ Below w.heap.size w w' := by
 unfold reticuleref01_Digits.f at h
 split at h
 ·rename_i hr
  cases h
  exact rdigits_ok a0 hr.1 hr.2 w HT
 ·cases h
end Go.Proofs.YtldjbgonlbmeaaaDoor.Dig
end
