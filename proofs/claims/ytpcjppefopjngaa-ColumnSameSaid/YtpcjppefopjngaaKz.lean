/- Ka, Kb, Kc, Ke, Kf, Kg, Kh, Ki, Kj -/
import Derived.Test.YtpcjppefopjngaaPAx4
import Derived.Test.YtpcjppefopjngaaMp
import Derived.Lib.Hide
import Derived.Lib.OwnBridge
import Derived.Lib.SliceRun
import Derived.Laws.CopyRow
import Derived.Lib.SlBuf
import Derived.Laws.RangeString
import Derived.Laws.RangeAny
import Derived.LoopTactic
section
/- Keys of columns. -/
set_option linter.unusedSimpArgs false
set_option linter.unusedVariables false
namespace Go.Proofs.Ytpcjppefopjngaa.C
open Go.RowKit Go.Proofs.Ytpcjppefopjngaa.PA Go.Proofs.Ytpcjppefopjngaa.Mp Go.Proofs.YtpcjppefopjngaaW.PrintWords Go.Proofs.YtpcjppefopjngaaW.PrintLast Go.Proofs.YtpcjppefopjngaaW.PrintMore
theorem laid : laidOutB Try.prog = true := by kernel_rfl
theorem keyed : Maps.Keyed Try.prog 25 := Maps.Keyed.of_law (deep_law_gate laid (of_decide_eq_true (by kernel_rfl)) (of_decide_eq_true (by kernel_rfl)) (by kernel_rfl) (by kernel_rfl))
/-- A name and a side, as a key. -/
def ke (a : ByteArray) (b : Int) : Value := .agg #[.string a, .int .u8 b]
theorem key_ok (a : ByteArray) (b : Int) (wa : a.size ≤ maxLen) (wb : (Lit.int .u8 b).wf = true) : ∃ l, keyOf Try.prog 25 (ke a b) = some l := by
 have hkt : Try.prog.keyType 25 = true := by kernel_rfl
 have hu := Try.underlying25
 have hu9 := Try.underlying9
 have hu23 := Try.underlying23
 have c9 : Try.prog.cellsOf 9 = 1 := by kernel_rfl
 have c23 : Try.prog.cellsOf 23 = 1 := by kernel_rfl
 have c25 : Try.prog.cellsOf 25 = 2 := by kernel_rfl
 have hf : (ke a b).formed Try.prog 25 = true := by
  unfold ke Value.formed
  simp only [hu]
  rw [c25]; rfl
 have hl : Try.prog.keyLits (Try.prog.types.size + 1) 25 (ke a b).cells.toList = some [.string a.data.toList, .int .u8 b] := by
  obtain ⟨m, hm⟩ : ∃ m, Try.prog.types.size = m + 1 := ⟨Try.prog.types.size - 1, by decide +kernel⟩
  rw [hm]
  unfold Program.keyLits
  simp only [hu, ke, Value.cells]
  rw [if_pos ⟨by rw [c25]; rfl, by kernel_rfl⟩]
  simp [List.mapM_cons, List.mapM_nil, c9, c23, Program.keyLits, hu9, hu23, wa, wb]
 unfold keyOf
 simp only [hu]
 rw [if_pos (by rw [hkt, hf]; rfl), hl]
 exact ⟨_, rfl⟩
theorem ke_inj {a c : ByteArray} {b d : Int} (h : ke a b = ke c d) : a = c ∧ b = d := by
 simp [ke] at h
 exact h
theorem lit_u8 {a : Int} (h0 : 0 ≤ a) (h1 : a ≤ 255) : (Lit.int .u8 a).wf = true := by
 simp [Lit.wf, IntKind.min, IntKind.max, IntKind.signed, IntKind.bits]
 omega
end Go.Proofs.Ytpcjppefopjngaa.C
end
section
/- Columns by names: what lies where; get, Len, KindOf. -/
set_option linter.unusedSimpArgs false
set_option linter.unusedVariables false
namespace Go.Proofs.Ytpcjppefopjngaa.C
open Go.RowKit Go.Proofs.Ytpcjppefopjngaa.PA Go.Proofs.Ytpcjppefopjngaa.Mp Go.Proofs.YtpcjppefopjngaaW.PrintWords Go.Proofs.YtpcjppefopjngaaW.PrintLast Go.Proofs.YtpcjppefopjngaaW.PrintMore
/-- A column. -/
structure Cl where
 nm : ByteArray
 sd : Int
 kd : Int
 vs : List Int
abbrev I (x : Int) : Value := .int .i64 x
def Cl.key (c : Cl) : Value := ke c.nm c.sd
/-- Where they lie: each column's block, and its values'. -/
def ents (cs : List Cl) (cb : Nat → Nat) : List (Value × Value) := cs.mapIdx fun i c => (c.key, .pointer (some ⟨cb i, 0, none⟩))
theorem ents_at {cs : List Cl} {cb : Nat → Nat} {i : Nat} (h : i < cs.length) : (ents cs cb)[i]? = some (cs[i].key, .pointer (some ⟨cb i, 0, none⟩)) := by simp [ents, h]
theorem ents_len (cs : List Cl) (cb : Nat → Nat) : (ents cs cb).length = cs.length := by simp [ents]
theorem ents_mem {cs : List Cl} {cb : Nat → Nat} {p : Value × Value} (h : p ∈ ents cs cb) : ∃ c ∈ cs, p.1 = c.key := by
 obtain ⟨i, hi, e⟩ := List.getElem_of_mem h
 rw [ents_len] at hi
 have := ents_at (cb := cb) hi
 rw [List.getElem?_eq_getElem (by rw [ents_len]; exact hi)] at this
 injection this with this
 exact ⟨cs[i], List.getElem_mem hi, by rw [← e, this]⟩
/-- Block g is a table of these columns. -/
structure IsT (W : World) (g mb : Nat) (n e : Int) (cs : List Cl) (cb vb : Nat → Nat) : Prop where
 tb : W.heap[g]? = some (.cells #[I n, I e, .map (some mb)] 93 (0, 0))
 mp : MapIs Try.prog 25 W mb (ents cs cb)
 ct : ∀ i (h : i < cs.length), ∃ c, cs[i].vs.length ≤ c ∧ W.heap[cb i]? = some (.cells #[.int .u8 cs[i].kd, .slice (some ⟨vb i, 0, none⟩) cs[i].vs.length c] 79 (0, 0))
 vt : ∀ i (h : i < cs.length), ∃ ex, W.heap[vb i]? = some (.cells (cs[i].vs.map I ++ ex).toArray 33 (0, 0))
 ne : ∀ i j, i < cs.length → j < cs.length → i ≠ j → cb i ≠ cb j ∧ vb i ≠ vb j
section
variable {W W' : World} {g mb : Nat} {n e : Int} {cs : List Cl} {cb vb : Nat → Nat}
theorem IsT.lt (h : IsT W g mb n e cs cb vb) : g < W.heap.size := (Array.getElem?_eq_some_iff.1 h.tb).1
theorem IsT.cx (h : IsT W g mb n e cs cb vb) (i : Nat) (hi : i < cs.length) : W.heap[cb i]? = some (.cells #[.int .u8 cs[i].kd, .slice (some ⟨vb i, 0, none⟩) cs[i].vs.length (Classical.choose (h.ct i hi))] 79 (0, 0)) := (Classical.choose_spec (h.ct i hi)).2
theorem IsT.vx (h : IsT W g mb n e cs cb vb) (i : Nat) (hi : i < cs.length) : W.heap[vb i]? = some (.cells (cs[i].vs.map I ++ Classical.choose (h.vt i hi)).toArray 33 (0, 0)) := Classical.choose_spec (h.vt i hi)
theorem IsT.below (h : IsT W g mb n e cs cb vb) (hb : Below W.heap.size W W') : IsT W' g mb n e cs cb vb :=
 ⟨(hb.block _ h.lt).trans h.tb, h.mp.below hb, fun i hi => (h.ct i hi).imp fun c q => ⟨q.1, (hb.block _ (Array.getElem?_eq_some_iff.1 q.2).1).trans q.2⟩, fun i hi => (h.vt i hi).imp fun ex q => (hb.block _ (Array.getElem?_eq_some_iff.1 q).1).trans q, h.ne⟩
theorem cell_of {W : World} {g : Nat} {cs : Array Value} {t : TypeId} {i : Nat} (h : W.heap[g]? = some (.cells cs t (0, 0))) : W.cell? ⟨g, i, none⟩ = cs[i]? := by simp [World.cell?, h]
theorem free_of {W : World} {g : Nat} {cs : Array Value} {t : TypeId} (h : W.heap[g]? = some (.cells cs t (0, 0))) (i : Nat) : W.frozen? ⟨g, i, none⟩ = false := by simp [World.frozen?, h]
theorem zero75 (w : World) : (zeroValue 75).run Try.prog w = .ok (.pointer none) w := Try.zeroValue75 w
/-- Which column has a key. -/
def find (cs : List Cl) (nm : ByteArray) (sd : Int) : Option Nat := cs.findIdx? fun c => decide (c.nm = nm ∧ c.sd = sd)
theorem find_none {cs : List Cl} {nm : ByteArray} {sd : Int} (h : find cs nm sd = none) : ∀ c ∈ cs, ¬ (c.nm = nm ∧ c.sd = sd) := fun c hc => by
 unfold find at h
 rw [List.findIdx?_eq_none_iff] at h
 simpa using h c hc
theorem find_some {cs : List Cl} {nm : ByteArray} {sd : Int} {i : Nat} (h : find cs nm sd = some i) : ∃ hi : i < cs.length, cs[i].nm = nm ∧ cs[i].sd = sd := by
 unfold find at h
 obtain ⟨hi, h1, _⟩ := List.findIdx?_eq_some_iff_getElem.1 h
 exact ⟨hi, by simpa using h1⟩
theorem look_none (h : IsT W g mb n e cs cb vb) {nm : ByteArray} {sd : Int} (hn : nm.size ≤ maxLen) (hs : 0 ≤ sd ∧ sd ≤ 255) (hf : find cs nm sd = none) :
  (Instr.lookup 91 (.map (some mb)) (ke nm sd) true).run Try.prog W = .ok (.tuple #[.pointer none, .bool false]) W := by
 obtain ⟨l, hl⟩ := key_ok nm sd hn (lit_u8 hs.1 hs.2)
 refine lookup_none keyed Try.underlying91 h.mp (zero75 W) hl (fun p hp he => ?_) true
 obtain ⟨c, hc, hp1⟩ := ents_mem hp
 rw [hp1] at he
 exact find_none hf c hc (ke_inj he)
theorem look_some (h : IsT W g mb n e cs cb vb) {nm : ByteArray} {sd : Int} {i : Nat} (hf : find cs nm sd = some i) :
  (Instr.lookup 91 (.map (some mb)) (ke nm sd) true).run Try.prog W = .ok (.tuple #[.pointer (some ⟨cb i, 0, none⟩), .bool true]) W := by
 obtain ⟨hi, h1, h2⟩ := find_some hf
 have := lookup_some keyed Try.underlying91 h.mp (ents_at (cb := cb) hi) true
 rw [show cs[i].key = ke nm sd by unfold Cl.key; rw [h1, h2]] at this
 exact this
end
theorem get_nil (nm : ByteArray) (sd : Int) (w : World) : Calls Try.prog 41 #[.pointer none, .agg #[.string nm, .int .u8 sd]] w fun e w' => e = .returned (.tuple #[.pointer none, I 1]) ∧ Below w.heap.size w w' := by
 go_enter Try.func41, Try.ntmps41
 go_wp2
 go_ret2
 exact ⟨rfl, (Below.refl _ _).alloc (Nat.le_refl _) _⟩
theorem get_no (g mb : Nat) (n e : Int) (cs : List Cl) (cb vb : Nat → Nat) (nm : ByteArray) (sd : Int) (w : World) (h : IsT w g mb n e cs cb vb) (hn : nm.size ≤ maxLen) (hs : 0 ≤ sd ∧ sd ≤ 255) (hf : find cs nm sd = none) :
  Calls Try.prog 41 #[.pointer (some ⟨g, 0, none⟩), .agg #[.string nm, .int .u8 sd]] w fun e w' => e = .returned (.tuple #[.pointer none, I 5]) ∧ Below w.heap.size w w' := by
 have hA : Below w.heap.size w (w.alloc (.cells #[.string nm, .int .u8 sd] 25)) := (Below.refl _ w).alloc (Nat.le_refl _) _
 have h1 := h.below hA
 have p1 : w.cell? ⟨g, 2, none⟩ = some (.map (some mb)) := by rw [cell_of h.tb]; rfl
 have hl : ∀ q, (Instr.lookup 91 (.map (some mb)) (.agg #[.string nm, .int .u8 sd]) true).run Try.prog ((w.alloc (.cells #[.string nm, .int .u8 sd] 25)).drewN q) = .ok (.tuple #[.pointer none, .bool false]) ((w.alloc (.cells #[.string nm, .int .u8 sd] 25)).drewN q) := fun q => look_none (h1.below (pw_below_drewN (Below.refl _ _) q)) hn hs hf
 have lg := h.lt
 clear h h1 hA
 go_enter Try.func41, Try.ntmps41
 go_wp2
 repeat (go_quiet (fail); try go_wp2)
 go_ret2
 exact ⟨rfl, pw_below_drewN ((Below.refl _ _).alloc (Nat.le_refl _) _) _⟩
theorem get_ok (g mb : Nat) (n e : Int) (cs : List Cl) (cb vb : Nat → Nat) (nm : ByteArray) (sd : Int) (i : Nat) (w : World) (h : IsT w g mb n e cs cb vb) (hf : find cs nm sd = some i) :
  Calls Try.prog 41 #[.pointer (some ⟨g, 0, none⟩), .agg #[.string nm, .int .u8 sd]] w fun e w' => e = .returned (.tuple #[.pointer (some ⟨cb i, 0, none⟩), I 0]) ∧ Below w.heap.size w w' := by
 have hA : Below w.heap.size w (w.alloc (.cells #[.string nm, .int .u8 sd] 25)) := (Below.refl _ w).alloc (Nat.le_refl _) _
 have h1 := h.below hA
 have p1 : w.cell? ⟨g, 2, none⟩ = some (.map (some mb)) := by rw [cell_of h.tb]; rfl
 have hl : ∀ q, (Instr.lookup 91 (.map (some mb)) (.agg #[.string nm, .int .u8 sd]) true).run Try.prog ((w.alloc (.cells #[.string nm, .int .u8 sd] 25)).drewN q) = .ok (.tuple #[.pointer (some ⟨cb i, 0, none⟩), .bool true]) ((w.alloc (.cells #[.string nm, .int .u8 sd] 25)).drewN q) := fun q => look_some (h1.below (pw_below_drewN (Below.refl _ _) q)) hf
 have lg := h.lt
 clear h h1 hA
 go_enter Try.func41, Try.ntmps41
 go_wp2
 repeat (go_quiet (fail); try go_wp2)
 go_ret2
 exact ⟨rfl, pw_below_drewN ((Below.refl _ _).alloc (Nat.le_refl _) _) _⟩
/-- How many values a side has. -/
def len (n e sd : Int) : Int := if sd = 1 then 1 else if sd = 2 then n else if sd = 3 then e else 0
theorem len_nil (sd : Int) (w : World) : Calls Try.prog 18 #[.pointer none, .int .u8 sd] w fun e w' => e = .returned (I 0) ∧ Below w.heap.size w w' := by
 go_enter Try.func18, Try.ntmps18
 go_wp2
 go_ret
 exact ⟨rfl, Below.refl _ _⟩
theorem len_ok (g mb : Nat) (n e : Int) (cs : List Cl) (cb vb : Nat → Nat) (sd : Int) (w : World) (h : IsT w g mb n e cs cb vb) :
  Calls Try.prog 18 #[.pointer (some ⟨g, 0, none⟩), .int .u8 sd] w fun e_ w' => e_ = .returned (I (len n e sd)) ∧ w' = w := by
 have p0 : w.cell? ⟨g, 0, none⟩ = some (I n) := by rw [cell_of h.tb]; rfl
 have p1 : w.cell? ⟨g, 1, none⟩ = some (I e) := by rw [cell_of h.tb]; rfl
 clear h
 unfold len
 by_cases h1 : sd = 1
 ·subst h1
  go_enter Try.func18, Try.ntmps18
  go_wp2
  go_ret
  exact ⟨rfl, rfl⟩
 ·have b1 : (sd == 1) = false := by simpa using h1
  rw [if_neg h1]
  clear h1
  by_cases h2 : sd = 2
  ·subst h2
   go_enter Try.func18, Try.ntmps18
   go_wp2
   go_ret
   exact ⟨rfl, rfl⟩
  ·have b2 : (sd == 2) = false := by simpa using h2
   rw [if_neg h2]
   clear h2
   by_cases h3 : sd = 3
   ·subst h3
    go_enter Try.func18, Try.ntmps18
    go_wp2
    go_ret
    exact ⟨rfl, rfl⟩
   ·have b3 : (sd == 3) = false := by simpa using h3
    rw [if_neg h3]
    clear h3
    go_enter Try.func18, Try.ntmps18
    go_wp2
    go_ret
    exact ⟨rfl, rfl⟩
theorem kind_nil (nm : ByteArray) (sd : Int) (w : World) : Calls Try.prog 19 #[.pointer none, .agg #[.string nm, .int .u8 sd]] w fun e w' => e = .returned (.int .u8 0) ∧ Below w.heap.size w w' := by
 have hA : Below w.heap.size w (w.alloc (.cells #[.string nm, .int .u8 sd] 25)) := (Below.refl _ w).alloc (Nat.le_refl _) _
 go_enter Try.func19, Try.ntmps19
 go_wp2_with fail
 refine (get_nil nm sd _).mono ?_
 rintro e w1 ⟨rfl, hb⟩
 have HB := Lib.hid (below_step hA hb)
 clear hb hA
 go_wp2_with fail
 go_ret
 exact ⟨rfl, HB.out⟩
/-- A key's kind. -/
def kind (cs : List Cl) (nm : ByteArray) (sd : Int) : Int := match find cs nm sd with | none => 0 | some i => (cs.getD i ⟨.empty, 0, 0, []⟩).kd
theorem kind_ok (g mb : Nat) (n e : Int) (cs : List Cl) (cb vb : Nat → Nat) (nm : ByteArray) (sd : Int) (w : World) (h : IsT w g mb n e cs cb vb) (hn : nm.size ≤ maxLen) (hs : 0 ≤ sd ∧ sd ≤ 255) :
  Calls Try.prog 19 #[.pointer (some ⟨g, 0, none⟩), .agg #[.string nm, .int .u8 sd]] w fun e w' => e = .returned (.int .u8 (kind cs nm sd)) ∧ Below w.heap.size w w' := by
 have hA : Below w.heap.size w (w.alloc (.cells #[.string nm, .int .u8 sd] 25)) := (Below.refl _ w).alloc (Nat.le_refl _) _
 have h1 := h.below hA
 unfold kind
 cases hf : find cs nm sd with
 | none =>
  have HG := Lib.hid (get_no g mb n e cs cb vb nm sd _ h1 hn hs hf)
  clear h h1
  go_enter Try.func19, Try.ntmps19
  go_wp2_with fail
  refine HG.out.mono ?_
  rintro e w1 ⟨rfl, hb⟩
  have HB := Lib.hid (below_step hA hb)
  clear hb hA
  go_wp2_with fail
  go_ret
  exact ⟨rfl, HB.out⟩
 | some i =>
  have HG := Lib.hid (get_ok g mb n e cs cb vb nm sd i _ h1 hf)
  obtain ⟨hi, _⟩ := find_some hf
  have hgd : (cs.getD i ⟨.empty, 0, 0, []⟩).kd = cs[i].kd := by simp [List.getD, hi]
  show Calls _ _ _ _ fun e w' => e = .returned (.int .u8 (cs.getD i ⟨.empty, 0, 0, []⟩).kd) ∧ _
  rw [hgd]
  obtain ⟨cp, -, hct⟩ := h1.ct i hi
  have HT := Lib.hid hct
  clear hct
  generalize cs[i] = c at HT
  clear h h1 hf hgd
  go_enter Try.func19, Try.ntmps19
  go_wp2_with fail
  refine HG.out.mono ?_
  rintro e w1 ⟨rfl, hb⟩
  have HB := Lib.hid (below_step hA hb)
  have p1 : w1.cell? ⟨cb i, 0, none⟩ = some (.int .u8 c.kd) := by rw [cell_of ((hb.block _ (Array.getElem?_eq_some_iff.1 HT.out).1).trans HT.out)]; rfl
  clear hb hA
  go_wp2_with fail
  go_ret
  exact ⟨rfl, HB.out⟩
end Go.Proofs.Ytpcjppefopjngaa.C
end
section
/- Columns by names: fits, Get, List, Set, Fill, Load. -/
set_option linter.unusedSimpArgs false
set_option linter.unusedVariables false
namespace Go.Proofs.Ytpcjppefopjngaa.C
open Go.RowKit Go.Proofs.Ytpcjppefopjngaa.PA Go.Proofs.Ytpcjppefopjngaa.Mp Go.Proofs.YtpcjppefopjngaaW.PrintWords Go.Proofs.YtpcjppefopjngaaW.PrintLast Go.Proofs.YtpcjppefopjngaaW.PrintMore
theorem own_empty (w : World) (b e s : Nat) (hb : b ≤ w.heap.size) : (w.alloc (.cells #[] e (0, 0))).ownsRow b e s (.slice (some ⟨w.heap.size, 0, none⟩) 0 0) 0 [] :=
 ⟨by simp, Or.inr ⟨w.heap.size, 0, #[], rfl, hb, by show (w.heap.push _)[w.heap.size]? = _; simp, Nat.le_refl _, by simp [maxLen], by simp, by simp⟩⟩
theorem R_empty {α : Type} (d : Kd α) (e : Nat) (w : World) (b : Nat) (hb : b ≤ w.heap.size) : Kd.R d e (w.alloc (.cells #[] e (0, 0))) b (fun _ => True) (.slice (some ⟨w.heap.size, 0, none⟩) 0 0) [] :=
 ⟨fun _ _ => trivial, [], own_empty w b e d.sz hb, Reps.none _ _⟩
set_option maxHeartbeats 2000000 in
theorem cloneW (A : Option Addr) (c : Nat) (l : List Int) (w : World) (hr : Kd.C (Kd.int .i64) w A l.length l) (hl : l.length * 8 ≤ 140737488355328) :
  Calls Try.prog 47 #[.slice A l.length c] w fun e w' => ∃ v, e = .returned v ∧ Kd.R (Kd.int .i64) 33 w' w.heap.size (fun _ => True) v l ∧ Below w.heap.size w w' := by
 cases A with
 | none =>
  have h0 : l = [] := by
   rcases Nat.eq_zero_or_pos l.length with h | h
   ·exact List.length_eq_zero_iff.1 h
   ·obtain ⟨_, e, _⟩ := hr.2.2 h; cases e
  subst h0
  clear hr hl
  have hq : ∀ (W : World) (a : Option Addr) (n c n' c' : Nat), (binOp .eql 42 (.slice a n c) (.slice none n' c')).run Try.prog W = .ok (.bool a.isNone) W := fun W a n c n' c' => Lib.run_eql_slice_nil W _ _ a n c n' c' Try.underlying42
  go_enter Try.func47, Try.ntmps47
  go_wp2
  go_ret
  exact ⟨_, rfl, Kd.R_nil _ _ _ _ _, Below.refl _ _⟩
 | some ad =>
  have HR := Lib.hid hr
  clear hr
  have hq : ∀ (W : World) (a : Option Addr) (n c n' c' : Nat), (binOp .eql 42 (.slice a n c) (.slice none n' c')).run Try.prog W = .ok (.bool a.isNone) W := fun W a n c n' c' => Lib.run_eql_slice_nil W _ _ a n c n' c' Try.underlying42
  go_enter Try.func47, Try.ntmps47
  go_wp2_with (at_builtin; refine Kd.R_append_rows (Kd.int .i64) (Rr := Kd.K (Kd.int .i64) (w.alloc (.cells #[] 33))) (w0 := w) w.heap.size rfl (.tmp 5) (.tmp 6) 42 33 _ 8 rfl Try.underlying42 info33 rfl (by decide) (by decide) (.slice (some ⟨w.heap.size, 0, none⟩) 0 0) [] l (some ad) l.length c (fun _ => True) (fun _ => False) rfl rfl (R_empty (Kd.int .i64) 33 w w.heap.size (Nat.le_refl _)) ?c1 ?c2 (fun k h => h.elim) (fun _ _ => trivial) ((Below.refl _ _).alloc (Nat.le_refl _) _) (by simp) ?c3 ?_; (case c1 => exact Kd.C_below HR.out ((Below.refl _ _).alloc (Nat.le_refl _) _)); (case c2 => (intro x cs h; (exact (show Kd.M (Kd.int .i64) _ _ _ _ _ from h)))); (case c3 => simpa using hl); intro v1 w1 h1 hb1 _ _; rw [List.nil_append] at h1; have H1 := Lib.hid h1; have HB1 := Lib.hid hb1; clear h1 hb1)
  go_ret
  exact ⟨_, rfl, H1.out, HB1.out⟩
def api_Word_47.f (l : List Int) : Option (List Int) := if l.length * 8 ≤ 140737488355328 then some l else none
theorem api_Word_47.calls (A0 : Option Addr) (c0 : Nat) (l0 : List Int) (r : List Int) (w : World) (hr0 : Kd.C (Kd.int .i64) w A0 l0.length l0) (_ : l0.length ≤ c0) (h : api_Word_47.f l0 = some r) :
  Calls Try.prog 47 #[.slice A0 l0.length c0] w fun e w' => ∃ v0_ : Value, e = .returned v0_ ∧ Kd.R (Kd.int .i64) 33 w' w.heap.size (fun _ => True) v0_ r ∧ Below w.heap.size w w' := by
 unfold api_Word_47.f at h
 split at h
 ·injection h with h
  subst h
  exact cloneW A0 c0 l0 w hr0 ‹_›
 ·cases h

/-- May values be a column's? -/
def fits (kd : Int) (l : List Int) : Bool := l.all fun x => decide (kd ≠ 2 ∨ x = 0 ∨ x = 1)
theorem fits_to {kd : Int} {l : List Int} {i : Nat} (h : i < l.length) : fits kd (l.take (i + 1)) = (fits kd (l.take i) && decide (kd ≠ 2 ∨ l[i] = 0 ∨ l[i] = 1)) := by
 unfold fits; rw [List.take_succ_eq_append_getElem h, List.all_append]; simp
set_option maxRecDepth 100000 in
theorem fits_ok (b : Nat) (kd : Int) (u : Value) (A : Option Addr) (c : Nat) (l : List Int) (w : World) (hb : w.heap[b]? = some (.cells #[.int .u8 kd, u] 79 (0, 0))) (hC : Kd.C (Kd.int .i64) w A l.length l) :
  Calls Try.prog 42 #[.pointer (some ⟨b, 0, none⟩), .slice A l.length c] w fun e w' => e = .returned (.bool (fits kd l)) ∧ w' = w := by
 have p0 : w.cell? ⟨b, 0, none⟩ = some (.int .u8 kd) := by rw [cell_of hb]; rfl
 have hmx : l.length ≤ 9223372036854775807 := hC.2.1
 have HC := Lib.hid hC
 clear hC hb
 go_enter Try.func42, Try.ntmps42
 go_wp2
 go_loopw [6, 9] (fun _ v9 wr => ∃ i : Nat, i ≤ l.length ∧ v9 = I i ∧ fits kd (l.take i) = true ∧ wr = w) (fun _ v9 _ => l.length - (intOf v9).toNat)
 case atStart => exact ⟨0, Nat.zero_le _, rfl, by simp [fits], rfl⟩
 case round =>
  obtain ⟨i, hi, rfl, hf, rfl⟩ := hrel
  have HF := Lib.hid hf
  clear hf
  by_cases hlt : i < l.length
  ·have di : decide ((i : Int) < (l.length : Int)) = true := decide_eq_true (by omega)
   obtain ⟨ad, hA, hc⟩ := Kd.at_int HC.out (i : Int) (by omega) (by omega)
   subst hA
   have hc' : wr.cell? (ad.add i) = some (I l[i]) := by simpa [rd, List.getD, hlt] using hc
   have hto := fits_to (kd := kd) hlt
   rw [HF.out, Bool.true_and] at hto
   have HTO := Lib.hid hto
   clear hc hto
   have hnot : fits kd l = (fits kd (l.take (i + 1)) && fits kd (l.drop (i + 1))) := by unfold fits; rw [← List.all_append, List.take_append_drop]
   have HNOT := Lib.hid hnot
   clear hnot
   generalize l[i] = x at hc' HTO
   by_cases hk : kd = 2
   ·subst hk
    by_cases h0 : x = 0
    ·subst h0
     go_wp2
     refine ⟨⟨i + 1, by omega, by go_num, by rw [HTO.out]; simp, by first | rfl | trivial⟩, by simp [intOf]; omega⟩
    ·have b0 : (x != 0) = true := by simpa using h0
     by_cases h1 : x = 1
     ·subst h1
      go_wp2
      refine ⟨⟨i + 1, by omega, by go_num, by rw [HTO.out]; simp, by first | rfl | trivial⟩, by simp [intOf]; omega⟩
     ·have b1 : (x != 1) = true := by simpa using h1
      have hfin : fits 2 l = false := by rw [HNOT.out, HTO.out]; simp [h0, h1]
      have HFIN := Lib.hid hfin
      clear h0 h1 hfin
      go_wp2
      go_ret
      exact ⟨by (rw [HFIN.out]; rfl), by first | rfl | trivial⟩
   ·have bk : (kd == 2) = false := by simpa using hk
    have HKD := Lib.hid hk
    clear hk
    go_wp2
    refine ⟨⟨i + 1, by omega, by go_num, by rw [HTO.out]; simp [HKD.out], by first | rfl | trivial⟩, by simp [intOf]; omega⟩
  ·have di : decide ((i : Int) < (l.length : Int)) = false := decide_eq_false (by omega)
   rw [List.take_of_length_le (by omega)] at HF
   go_wp2
   go_ret
   exact ⟨by (rw [HF.out]; rfl), by first | rfl | trivial⟩
/-- An array of numbers, read as a row. -/
theorem vals_C {w : World} {b t : Nat} {l : List Int} {ex : List Value} (h : w.heap[b]? = some (.cells (l.map I ++ ex).toArray t (0, 0))) (hl : l.length ≤ 1000) : Kd.C (Kd.int .i64) w (some ⟨b, 0, none⟩) l.length l := by
 refine ⟨rfl, by omega, fun _ => ⟨_, rfl, fun j p hj => ?_⟩⟩
 refine ⟨[.int .i64 p], rfl, rfl, fun i u hu => ?_⟩
 obtain rfl : i = 0 := by
  have := (List.getElem?_eq_some_iff.1 hu).1
  simp at this; omega
 simp at hu
 subst hu
 rw [add_plain, blk_cell h]
 have e1 : j * (Kd.int .i64).sz = j := by show j * 1 = j; omega
 have hjl := (List.getElem?_eq_some_iff.1 hj).1
 have e2 : (l.map I ++ ex)[j]? = some (I p) := by rw [List.getElem?_append_left (by simpa using hjl), List.getElem?_map, hj]; rfl
 simpa [e1] using e2
theorem at_of {cs : List Cl} {i : Nat} (hi : i < cs.length) : cs.getD i ⟨.empty, 0, 0, []⟩ = cs[i] := by simp [List.getD, hi]
/-- What lists tell. -/
def list (cs : List Cl) (nm : ByteArray) (sd : Int) : List Int := match find cs nm sd with | none => [] | some i => (cs.getD i ⟨.empty, 0, 0, []⟩).vs
theorem list_nil (nm : ByteArray) (sd : Int) (w : World) : Calls Try.prog 17 #[.pointer none, .agg #[.string nm, .int .u8 sd]] w fun e w' => e = .returned (.slice none 0 0) ∧ Below w.heap.size w w' := by
 have hA : Below w.heap.size w (w.alloc (.cells #[.string nm, .int .u8 sd] 25)) := (Below.refl _ w).alloc (Nat.le_refl _) _
 go_enter Try.func17, Try.ntmps17
 go_wp2_with fail
 refine (get_nil nm sd _).mono ?_
 rintro e w1 ⟨rfl, hb⟩
 have HB := Lib.hid (below_step hA hb)
 clear hb hA
 go_wp2_with fail
 go_ret
 exact ⟨rfl, HB.out⟩
theorem list_ok (g mb : Nat) (n e : Int) (cs : List Cl) (cb vb : Nat → Nat) (nm : ByteArray) (sd : Int) (w : World) (h : IsT w g mb n e cs cb vb) (hn : nm.size ≤ maxLen) (hs : 0 ≤ sd ∧ sd ≤ 255) (hl : ∀ c ∈ cs, c.vs.length ≤ 1000) :
  Calls Try.prog 17 #[.pointer (some ⟨g, 0, none⟩), .agg #[.string nm, .int .u8 sd]] w fun e w' => ∃ v, e = .returned v ∧ Kd.R (Kd.int .i64) 33 w' w.heap.size (fun _ => True) v (list cs nm sd) ∧ Below w.heap.size w w' := by
 have hA : Below w.heap.size w (w.alloc (.cells #[.string nm, .int .u8 sd] 25)) := (Below.refl _ w).alloc (Nat.le_refl _) _
 have h1 := h.below hA
 unfold list
 cases hf : find cs nm sd with
 | none =>
  have HG := Lib.hid (get_no g mb n e cs cb vb nm sd _ h1 hn hs hf)
  clear h h1
  go_enter Try.func17, Try.ntmps17
  go_wp2_with fail
  refine HG.out.mono ?_
  rintro e w1 ⟨rfl, hb⟩
  have HB := Lib.hid (below_step hA hb)
  clear hb hA
  go_wp2_with fail
  go_ret
  exact ⟨_, rfl, Kd.R_nil _ _ _ _ _, HB.out⟩
 | some i =>
  have HG := Lib.hid (get_ok g mb n e cs cb vb nm sd i _ h1 hf)
  obtain ⟨hi, _⟩ := find_some hf
  show Calls _ _ _ _ fun e w' => ∃ v, e = .returned v ∧ Kd.R (Kd.int .i64) 33 w' w.heap.size (fun _ => True) v (cs.getD i ⟨.empty, 0, 0, []⟩).vs ∧ _
  rw [at_of hi]
  obtain ⟨cp, -, hct⟩ := h1.ct i hi
  obtain ⟨ex, hvt⟩ := h1.vt i hi
  have HT := Lib.hid hct
  have HVT := Lib.hid hvt
  clear hct hvt
  have hc := hl _ (List.getElem_mem hi)
  generalize cs[i] = c at HT HVT hc
  clear h h1 hf
  go_enter Try.func17, Try.ntmps17
  go_wp2_with fail
  refine HG.out.mono ?_
  rintro e w1 ⟨rfl, hb⟩
  have HB := Lib.hid (below_step hA hb)
  have p1 : w1.cell? ⟨cb i, 1, none⟩ = some (.slice (some ⟨vb i, 0, none⟩) c.vs.length cp) := by rw [cell_of ((hb.block _ (Array.getElem?_eq_some_iff.1 HT.out).1).trans HT.out)]; rfl
  have HV := Lib.hid (vals_C ((hb.block _ (Array.getElem?_eq_some_iff.1 HVT.out).1).trans HVT.out) hc)
  clear hb hA
  go_wp2_with fail
  refine (cloneW _ _ c.vs w1 HV.out (by omega)).mono ?_
  rintro e w2 ⟨v, rfl, hv, hb2⟩
  have HV2 := Lib.hid (Kd.R_lower hv HB.out.size)
  have HB2 := Lib.hid (below_then HB.out HB.out.size hb2)
  clear hv hb2
  go_wp2_with fail
  go_ret
  exact ⟨_, rfl, HV2.out, HB2.out⟩
end Go.Proofs.Ytpcjppefopjngaa.C
end
section
/- Columns by names: Get, Set, Fill, Load. -/
set_option linter.unusedSimpArgs false
set_option linter.unusedVariables false
namespace Go.Proofs.Ytpcjppefopjngaa.C
open Go.RowKit Go.Proofs.Ytpcjppefopjngaa.PA Go.Proofs.Ytpcjppefopjngaa.Mp Go.Proofs.YtpcjppefopjngaaW.PrintWords Go.Proofs.YtpcjppefopjngaaW.PrintLast Go.Proofs.YtpcjppefopjngaaW.PrintMore
def z0 : Cl := ⟨.empty, 0, 0, []⟩
/-- A column with other values. -/
def upd (cs : List Cl) (j : Nat) (vs : List Int) : List Cl := cs.set j { cs.getD j z0 with vs := vs }
theorem upd_len (cs : List Cl) (j : Nat) (vs : List Int) : (upd cs j vs).length = cs.length := by simp [upd]
theorem upd_at {cs : List Cl} {j i : Nat} {vs : List Int} (hj : j < cs.length) (hi : i < cs.length) : (upd cs j vs)[i]'(by rw [upd_len]; exact hi) = if i = j then { cs[j] with vs := vs } else cs[i] := by
 unfold upd
 rw [List.getElem_set]
 by_cases e : j = i
 ·subst e; simp [List.getD, hj]
 ·rw [if_neg e, if_neg (fun h => e h.symm)]
theorem upd_ents {cs : List Cl} {j : Nat} {vs : List Int} {cb : Nat → Nat} (hj : j < cs.length) : ents (upd cs j vs) cb = ents cs cb := by
 apply List.ext_getElem?
 intro i
 by_cases hi : i < cs.length
 ·rw [ents_at hi, ents_at (by rw [upd_len]; exact hi), upd_at hj hi]
  split
  ·rename_i e; subst e; rfl
  ·rfl
 ·rw [List.getElem?_eq_none (by rw [ents_len, upd_len]; omega), List.getElem?_eq_none (by rw [ents_len]; omega)]
theorem blk_ne {W : World} {a b : Nat} {c1 c2 : Array Value} {t1 t2 : TypeId} (h1 : W.heap[a]? = some (.cells c1 t1 (0, 0))) (h2 : W.heap[b]? = some (.cells c2 t2 (0, 0))) (ht : t1 ≠ t2) : a ≠ b := fun e => by
 rw [e, h2] at h1
 injection h1 with h1
 injection h1 with _ h1
 exact ht h1.symm
theorem grown_row {W W' : World} {r : Nat} (hg : W.grownBy W' (some r)) {b : Nat} {o : Obj} (h : W.heap[b]? = some o) (hne : b ≠ r) : W'.heap[b]? = some o := (hg.block b (Array.getElem?_eq_some_iff.1 h).1 (by simpa using hne)).trans h
theorem IsT.upd {W W' : World} {g mb : Nat} {n e : Int} {cs : List Cl} {cb vb : Nat → Nat} {j : Nat} {vs : List Int} (h : IsT W g mb n e cs cb vb) (hj : j < cs.length) (hl : vs.length = cs[j].vs.length) (hW : ∃ ex, W'.heap[vb j]? = some (.cells (vs.map I ++ ex).toArray 33 (0, 0))) (hg : W.grownBy W' (some (vb j))) : IsT W' g mb n e (upd cs j vs) cb vb := by
 have hv := h.vx j hj
 refine ⟨grown_row hg h.tb (blk_ne h.tb hv (by decide)), ?_, fun i hi => ?_, fun i hi => ?_, fun a b ha hb hab => h.ne a b (by rw [upd_len] at ha; exact ha) (by rw [upd_len] at hb; exact hb) hab⟩
 ·rw [upd_ents hj]
  exact h.mp.kept hg (by have := h.mp.ne hv; simpa using this)
 ·rw [upd_len] at hi
  obtain ⟨cp, hcp, hc⟩ := h.ct i hi
  rw [upd_at hj hi]
  have := grown_row hg hc (blk_ne hc hv (by decide))
  refine ⟨cp, ?_⟩
  split
  ·rename_i e; subst e; rw [hl]; exact ⟨hcp, this⟩
  ·exact ⟨hcp, this⟩
 ·rw [upd_len] at hi
  rw [upd_at hj hi]
  split
  ·rename_i e; subst e; exact hW
  ·rename_i hne
   exact (h.vt i hi).imp fun ex q => grown_row hg q (h.ne i j hi hj hne).2
/-- What may have been written. -/
def Fr (W W' : World) (mb : Nat) (cs : List Cl) (vb : Nat → Nat) : Prop := ∃ r, W.grownBy W' r ∧ ∀ k, r = some k → k = mb ∨ ∃ j, j < cs.length ∧ k = vb j
theorem Fr.below {W W' : World} {mb : Nat} {cs : List Cl} {vb : Nat → Nat} (h : Below W.heap.size W W') : Fr W W' mb cs vb := ⟨none, ⟨h.os, h.tape, h.output, h.size, fun k hk _ => h.block k hk⟩, fun k e => by cases e⟩
theorem grown_step {W W1 W2 : World} {r : Option Nat} (hb : Below W.heap.size W W1) (hg : W1.grownBy W2 r) : W.grownBy W2 r :=
 World.grownBy.trans ⟨hb.os, hb.tape, hb.output, hb.size, fun k hk _ => hb.block k hk⟩ hg
theorem setc_grown (W : World) (g i : Nat) (u : Value) : W.grownBy (W.setCell ⟨g, i, none⟩ u) (some g) :=
 ⟨rfl, rfl, rfl, by simp, fun k hk hne => Below.heap_setCell _ _ _ _ (fun e => hne (by rw [e]))⟩
theorem setc_vals {W : World} {b i : Nat} {vs : List Int} {ex : List Value} (h : W.heap[b]? = some (.cells (vs.map I ++ ex).toArray 33 (0, 0))) (hi : i < vs.length) (x : Int) : (W.setCell ⟨b, i, none⟩ (I x)).heap[b]? = some (.cells ((vs.set i x).map I ++ ex).toArray 33 (0, 0)) := by
 have e : ((vs.set i x).map I ++ ex).toArray = (vs.map I ++ ex).toArray.set! i (I x) := by
  simp [List.map_set, List.set_append_left, hi]
 rw [e]
 simp [World.setCell, Array.getElem?_modify, h]
def getv (cs : List Cl) (nm : ByteArray) (sd i : Int) : Int × Int := match find cs nm sd with | none => (0, 5) | some j => if i < 0 ∨ ((cs.getD j z0).vs.length : Int) ≤ i then (0, 2) else ((cs.getD j z0).vs.getD i.toNat 0, 0)
def setv (cs : List Cl) (nm : ByteArray) (sd i x : Int) : Int × List Cl := match find cs nm sd with | none => (5, cs) | some j => if i < 0 ∨ ((cs.getD j z0).vs.length : Int) ≤ i then (2, cs) else if fits (cs.getD j z0).kd [x] = true then (0, upd cs j ((cs.getD j z0).vs.set i.toNat x)) else (3, cs)
theorem box1 (w : World) (x : Int) : Kd.C (Kd.int .i64) (w.alloc (.cells #[I x] 33)) (some ⟨w.heap.size, 0, none⟩) 1 [x] := vals_C (l := [x]) (t := 33) (ex := []) (heap_alloc_new w _) (by simp)
theorem find_lt {cs : List Cl} {nm : ByteArray} {sd : Int} {j : Nat} (h : find cs nm sd = some j) : j < cs.length := (find_some h).1
set_option maxHeartbeats 2000000 in
theorem get_val (g mb : Nat) (n e : Int) (cs : List Cl) (cb vb : Nat → Nat) (nm : ByteArray) (sd i : Int) (w : World) (h : IsT w g mb n e cs cb vb) (hn : nm.size ≤ maxLen) (hs : 0 ≤ sd ∧ sd ≤ 255) :
  Calls Try.prog 14 #[.pointer (some ⟨g, 0, none⟩), .agg #[.string nm, .int .u8 sd], I i] w fun e w' => e = .returned (.tuple #[I (getv cs nm sd i).1, I (getv cs nm sd i).2]) ∧ Below w.heap.size w w' := by
 have hA : Below w.heap.size w (w.alloc (.cells #[.string nm, .int .u8 sd] 25)) := (Below.refl _ w).alloc (Nat.le_refl _) _
 have h1 := h.below hA
 unfold getv
 cases hf : find cs nm sd with
 | none =>
  have HG := Lib.hid (get_no g mb n e cs cb vb nm sd _ h1 hn hs hf)
  clear h h1
  go_enter Try.func14, Try.ntmps14
  go_wp2_with fail
  refine HG.out.mono ?_
  rintro e w1 ⟨rfl, hb⟩
  have HB := Lib.hid (below_step hA hb)
  clear hb hA
  go_wp2_with fail
  go_ret2
  exact ⟨rfl, HB.out⟩
 | some j =>
  have HG := Lib.hid (get_ok g mb n e cs cb vb nm sd j _ h1 hf)
  have hj := find_lt hf
  simp only
  rw [show cs.getD j z0 = cs[j] by simp [List.getD, hj]]
  obtain ⟨cp, -, hct⟩ := h1.ct j hj
  obtain ⟨ex, hvt⟩ := h1.vt j hj
  have HT := Lib.hid hct
  have HVT := Lib.hid hvt
  clear hct hvt
  generalize cs[j] = c at HT HVT
  obtain ⟨m, hm⟩ : ∃ m, m = c.vs.length := ⟨_, rfl⟩
  rw [← hm] at HT ⊢
  have HM := Lib.hid hm
  clear h h1 hf hm
  by_cases h0 : i < 0
  ·rw [if_pos (.inl h0)]
   have d0 : decide (i < 0) = true := decide_eq_true h0
   go_enter Try.func14, Try.ntmps14
   go_wp2_with fail
   refine HG.out.mono ?_
   rintro e w1 ⟨rfl, hb⟩
   have HB := Lib.hid (below_step hA hb)
   clear hb hA
   go_wp2_with fail
   go_ret2
   exact ⟨rfl, HB.out⟩
  ·have d0 : decide (i < 0) = false := decide_eq_false h0
   by_cases h2 : (m : Int) ≤ i
   ·rw [if_pos (.inr h2)]
    have d2 : decide (i ≥ (m : Int)) = true := decide_eq_true h2
    go_enter Try.func14, Try.ntmps14
    go_wp2_with fail
    refine HG.out.mono ?_
    rintro e w1 ⟨rfl, hb⟩
    have HB := Lib.hid (below_step hA hb)
    have p1 : w1.cell? ⟨cb j, 1, none⟩ = some (.slice (some ⟨vb j, 0, none⟩) m cp) := by rw [cell_of ((hb.block _ (Array.getElem?_eq_some_iff.1 HT.out).1).trans HT.out)]; rfl
    clear hb hA
    go_wp2_with fail
    go_ret2
    exact ⟨rfl, HB.out⟩
   ·rw [if_neg (by omega)]
    have d2 : decide (i ≥ (m : Int)) = false := decide_eq_false h2
    obtain ⟨q, rfl⟩ : ∃ q : Nat, i = (q : Int) := ⟨i.toNat, by omega⟩
    have hqm : q < c.vs.length := by have := HM.out; omega
    rw [Int.toNat_natCast]
    obtain ⟨y, hy⟩ : ∃ y, y = c.vs.getD q 0 := ⟨_, rfl⟩
    rw [← hy]
    have HY := Lib.hid hy
    clear hy
    have hqm2 : (q : Int) < (m : Int) := by omega
    go_enter Try.func14, Try.ntmps14
    go_wp2_with fail
    refine HG.out.mono ?_
    rintro e w1 ⟨rfl, hb⟩
    have HB := Lib.hid (below_step hA hb)
    have p1 : w1.cell? ⟨cb j, 1, none⟩ = some (.slice (some ⟨vb j, 0, none⟩) m cp) := by rw [cell_of ((hb.block _ (Array.getElem?_eq_some_iff.1 HT.out).1).trans HT.out)]; rfl
    have hv := (hb.block _ (Array.getElem?_eq_some_iff.1 HVT.out).1).trans HVT.out
    have p2 : w1.cell? ⟨vb j, q, none⟩ = some (I y) := by rw [cell_of hv, HY.out]; simp [List.getD, hqm, List.getElem?_append_left]
    clear hb hA hv hqm
    go_wp2_with fail
    go_ret2
    exact ⟨rfl, HB.out⟩
end Go.Proofs.Ytpcjppefopjngaa.C
end
section
/- Columns by names: Set. -/
set_option linter.unusedSimpArgs false
set_option linter.unusedVariables false
namespace Go.Proofs.Ytpcjppefopjngaa.C
open Go.RowKit Go.Proofs.Ytpcjppefopjngaa.PA Go.Proofs.Ytpcjppefopjngaa.Mp Go.Proofs.YtpcjppefopjngaaW.PrintWords Go.Proofs.YtpcjppefopjngaaW.PrintLast Go.Proofs.YtpcjppefopjngaaW.PrintMore
set_option maxRecDepth 100000 in
set_option maxHeartbeats 4000000 in
theorem set_ok (g mb : Nat) (n e : Int) (cs : List Cl) (cb vb : Nat → Nat) (nm : ByteArray) (sd : Int) (i x : Int) (w : World) (h : IsT w g mb n e cs cb vb) (hn : nm.size ≤ maxLen) (hs : 0 ≤ sd ∧ sd ≤ 255) (hlen : ∀ c ∈ cs, c.vs.length ≤ 1000) :
  Calls Try.prog 13 #[.pointer (some ⟨g, 0, none⟩), .agg #[.string nm, .int .u8 sd], I i, I x] w fun e_ w' => e_ = .returned (I (setv cs nm sd i x).1) ∧ IsT w' g mb n e (setv cs nm sd i x).2 cb vb ∧ Fr w w' mb cs vb := by
 have hA : Below w.heap.size w (w.alloc (.cells #[.string nm, .int .u8 sd] 25)) := (Below.refl _ w).alloc (Nat.le_refl _) _
 have h1 := h.below hA
 unfold setv
 cases hf : find cs nm sd with
 | none =>
  have HG := Lib.hid (get_no g mb n e cs cb vb nm sd _ h1 hn hs hf)
  have HT0 := Lib.hid h
  clear h h1
  go_enter Try.func13, Try.ntmps13
  go_wp2_with fail
  refine HG.out.mono ?_
  rintro e w1 ⟨rfl, hb⟩
  have HB := Lib.hid (below_step hA hb)
  clear hb hA
  go_wp2_with fail
  go_ret
  exact ⟨rfl, (HT0.out.below (HB.out)), Fr.below HB.out⟩
 | some j =>
  have HG := Lib.hid (get_ok g mb n e cs cb vb nm sd j _ h1 hf)
  have hj := find_lt hf
  simp only
  have hgd : cs.getD j z0 = cs[j] := by simp [List.getD, hj]
  rw [hgd]
  obtain ⟨cp, -, hct⟩ := h1.ct j hj
  obtain ⟨ex, hvt⟩ := h1.vt j hj
  have HT := Lib.hid hct
  have HVT := Lib.hid hvt
  clear hct hvt
  have HT0 := Lib.hid h
  have hm1000 := hlen _ (List.getElem_mem hj)
  clear hlen
  have hupd : ∀ (W1 W2 : World) (vs : List Int), IsT W1 g mb n e cs cb vb → vs.length = cs[j].vs.length → (∃ ex, W2.heap[vb j]? = some (.cells (vs.map I ++ ex).toArray 33 (0, 0))) → W1.grownBy W2 (some (vb j)) → IsT W2 g mb n e (upd cs j vs) cb vb := fun W1 W2 vs q hl hW hg => q.upd hj hl hW hg
  have HU := Lib.hid hupd
  generalize cs[j] = c at HT HVT HU hm1000
  obtain ⟨m, hm⟩ : ∃ m, m = c.vs.length := ⟨_, rfl⟩
  rw [← hm] at HT hm1000 ⊢
  have HM := Lib.hid hm
  have HJ := Lib.hid hj
  clear h h1 hf hm hupd hgd hj
  by_cases h0 : i < 0
  ·rw [if_pos (.inl h0)]
   have d0 : decide (i < 0) = true := decide_eq_true h0
   go_enter Try.func13, Try.ntmps13
   go_wp2_with fail
   refine HG.out.mono ?_
   rintro e w1 ⟨rfl, hb⟩
   have HB := Lib.hid (below_step hA hb)
   clear hb hA
   go_wp2_with fail
   go_ret
   exact ⟨rfl, (HT0.out.below (HB.out)), Fr.below HB.out⟩
  ·have d0 : decide (i < 0) = false := decide_eq_false h0
   by_cases h2 : (m : Int) ≤ i
   ·rw [if_pos (.inr h2)]
    have d2 : decide (i ≥ (m : Int)) = true := decide_eq_true h2
    go_enter Try.func13, Try.ntmps13
    go_wp2_with fail
    refine HG.out.mono ?_
    rintro e w1 ⟨rfl, hb⟩
    have HB := Lib.hid (below_step hA hb)
    have p1 : w1.cell? ⟨cb j, 1, none⟩ = some (.slice (some ⟨vb j, 0, none⟩) m cp) := by rw [cell_of ((hb.block _ (Array.getElem?_eq_some_iff.1 HT.out).1).trans HT.out)]; rfl
    clear hb hA
    go_wp2_with fail
    go_ret
    exact ⟨rfl, (HT0.out.below (HB.out)), Fr.below HB.out⟩
   ·rw [if_neg (by omega)]
    have d2 : decide (i ≥ (m : Int)) = false := decide_eq_false h2
    obtain ⟨q, rfl⟩ : ∃ q : Nat, i = (q : Int) := ⟨i.toNat, by omega⟩
    have hqm : q < c.vs.length := by have := HM.out; omega
    have hqm2 : (q : Int) < (m : Int) := by omega
    rw [Int.toNat_natCast]
    by_cases hfit : fits c.kd [x] = true
    ·rw [if_pos hfit]
     go_enter Try.func13, Try.ntmps13
     go_wp2_with fail
     refine HG.out.mono ?_
     rintro e w1 ⟨rfl, hb⟩
     have HB := Lib.hid (below_step hA hb)
     have p1 : w1.cell? ⟨cb j, 1, none⟩ = some (.slice (some ⟨vb j, 0, none⟩) m cp) := by rw [cell_of ((hb.block _ (Array.getElem?_eq_some_iff.1 HT.out).1).trans HT.out)]; rfl
     have hv := (hb.block _ (Array.getElem?_eq_some_iff.1 HVT.out).1).trans HVT.out
     have ht := (hb.block _ (Array.getElem?_eq_some_iff.1 HT.out).1).trans HT.out
     have hbx : Below w1.heap.size w1 (w1.alloc (.cells #[I x] 33)) := (Below.refl _ w1).alloc (Nat.le_refl _) _
     have hcf := fits_ok (cb j) c.kd _ _ 1 [x] _ ((hbx.block _ (Array.getElem?_eq_some_iff.1 ht).1).trans ht) (box1 w1 x)
     have HCF := Lib.hid hcf
     rw [hfit] at HCF
     clear hcf
     have hvb : (w1.alloc (.cells #[I x] 33)).heap[vb j]? = some (.cells (c.vs.map I ++ ex).toArray 33 (0, 0)) := (hbx.block _ (Array.getElem?_eq_some_iff.1 hv).1).trans hv
     have hB2 : Below w.heap.size w (w1.alloc (.cells #[I x] 33)) := below_then HB.out HB.out.size hbx
     have c1 : (w1.alloc (.cells #[I x] 33)).cell? ⟨cb j, 1, none⟩ = some (.slice (some ⟨vb j, 0, none⟩) m cp) := by rw [cell_of ((hbx.block _ (Array.getElem?_eq_some_iff.1 ht).1).trans ht)]; rfl
     have c2 : (w1.alloc (.cells #[I x] 33)).cell? ⟨vb j, q, none⟩ = some (I (c.vs.getD q 0)) := by rw [cell_of hvb]; simp [List.getD, hqm, List.getElem?_append_left]
     have c3 := free_of hvb q
     have HB2 := Lib.hid hB2
     have HVB := Lib.hid hvb
     clear hb hA hv ht hbx hvb hB2 hfit
     generalize c.vs.getD q 0 = y0 at c2
     go_wp2_with fail
     refine HCF.out.mono ?_
     rintro e w2 ⟨rfl, rfl⟩
     go_wp2_with fail
     go_ret
     refine ⟨rfl, HU.out _ _ _ (HT0.out.below HB2.out) (by simp) ⟨ex, setc_vals HVB.out hqm x⟩ (setc_grown _ _ _ _), _, grown_step HB2.out (setc_grown _ _ _ _), fun k hk => ?_⟩
     injection hk with hk
     exact .inr ⟨j, HJ.out, hk.symm⟩
    ·have hff : fits c.kd [x] = false := by simpa using hfit
     rw [if_neg hfit]
     go_enter Try.func13, Try.ntmps13
     go_wp2_with fail
     refine HG.out.mono ?_
     rintro e w1 ⟨rfl, hb⟩
     have HB := Lib.hid (below_step hA hb)
     have p1 : w1.cell? ⟨cb j, 1, none⟩ = some (.slice (some ⟨vb j, 0, none⟩) m cp) := by rw [cell_of ((hb.block _ (Array.getElem?_eq_some_iff.1 HT.out).1).trans HT.out)]; rfl
     have hv := (hb.block _ (Array.getElem?_eq_some_iff.1 HVT.out).1).trans HVT.out
     have ht := (hb.block _ (Array.getElem?_eq_some_iff.1 HT.out).1).trans HT.out
     have hbx : Below w1.heap.size w1 (w1.alloc (.cells #[I x] 33)) := (Below.refl _ w1).alloc (Nat.le_refl _) _
     have hcf := fits_ok (cb j) c.kd _ _ 1 [x] _ ((hbx.block _ (Array.getElem?_eq_some_iff.1 ht).1).trans ht) (box1 w1 x)
     have HCF := Lib.hid hcf
     rw [hff] at HCF
     clear hcf
     have HB2 := Lib.hid (below_then HB.out HB.out.size hbx)
     clear hb hA hv ht hbx hfit hff
     go_wp2_with fail
     refine HCF.out.mono ?_
     rintro e w2 ⟨rfl, rfl⟩
     go_wp2_with fail
     go_ret
     exact ⟨rfl, HT0.out.below HB2.out, Fr.below HB2.out⟩
end Go.Proofs.Ytpcjppefopjngaa.C
end
section
/- Columns by names: Fill. -/
set_option linter.unusedSimpArgs false
set_option linter.unusedVariables false
namespace Go.Proofs.Ytpcjppefopjngaa.C
open Go.RowKit Go.Proofs.Ytpcjppefopjngaa.PA Go.Proofs.Ytpcjppefopjngaa.Mp Go.Proofs.YtpcjppefopjngaaW.PrintWords Go.Proofs.YtpcjppefopjngaaW.PrintLast Go.Proofs.YtpcjppefopjngaaW.PrintMore
def fillv (cs : List Cl) (nm : ByteArray) (sd x : Int) : Int × List Cl := match find cs nm sd with | none => (5, cs) | some j => if fits (cs.getD j z0).kd [x] = true then (0, upd cs j (List.replicate (cs.getD j z0).vs.length x)) else (3, cs)
def loadv (cs : List Cl) (nm : ByteArray) (sd : Int) (l : List Int) : Int × List Cl := match find cs nm sd with | none => (5, cs) | some j => if l.length ≠ (cs.getD j z0).vs.length then (2, cs) else if fits (cs.getD j z0).kd l = true then (0, upd cs j l) else (3, cs)
theorem fill_step {vs : List Int} {q : Nat} {x : Int} (h : q < vs.length) : (List.replicate q x ++ vs.drop q).set q x = List.replicate (q + 1) x ++ vs.drop (q + 1) := by
 rw [List.set_append_right _ _ (by simp), List.length_replicate, Nat.sub_self, List.drop_eq_getElem_cons h, List.set_cons_zero, List.replicate_succ', List.append_assoc]
 rfl
set_option maxRecDepth 100000 in
theorem copy_ok (W : World) (b cp : Nat) (vs l : List Int) (ex : List Value) (A : Option Addr) (c : Nat) (hb : W.heap[b]? = some (.cells (vs.map I ++ ex).toArray 33 (0, 0))) (hC : Kd.C (Kd.int .i64) W A l.length l) (hl : l.length = vs.length) (ty : TypeId) :
  ∃ W', (Builtin.copy_ #[42, 42] ty #[.slice (some ⟨b, 0, none⟩) vs.length cp, .slice A l.length c]).run Try.prog W = .ok (goInt l.length) W' ∧ W'.heap[b]? = some (.cells (l.map I ++ ex).toArray 33 (0, 0)) ∧ W.grownBy W' (some b) := by
 have hinfo : (Try.prog.info? 33).map (·.size) = some 1 := by kernel_rfl
 by_cases h0 : l.length = 0
 ·have e1 : l = [] := List.length_eq_zero_iff.1 h0
  have e2 : vs = [] := List.length_eq_zero_iff.1 (by omega)
  subst e1 e2
  exact ⟨W, run_copy_none W 42 42 ty 33 (some ⟨b, 0, none⟩) A 0 cp 0 c Try.underlying42 hinfo rfl, hb, rfl, rfl, rfl, Nat.le_refl _, fun _ _ _ => rfl⟩
 ·obtain ⟨ad, rfl, hc⟩ := hC.2.2 (by omega)
  have hsrc : ∀ j v, (l.map I)[j]? = some v → W.cell? (ad.add j) = some v := fun j v hj => by
   rw [List.getElem?_map] at hj
   obtain ⟨p, hp, rfl⟩ := Option.map_eq_some_iff.1 hj
   obtain ⟨cs, hs, hr, hcell⟩ := hc j p hp
   obtain rfl : cs = [.int .i64 p] := hr
   have := hcell 0 _ rfl
   rw [show (Kd.int .i64).sz = 1 from rfl, Nat.mul_one, Nat.add_zero] at this
   exact this
  have hrun := run_copy_row (P := Try.prog) W 42 42 ty 33 b 0 vs.length cp ad l.length c _ 33 (l.map I) Try.underlying42 hinfo hb (by simp [hl]) hsrc (by simp [hl]) (fun v hv => by obtain ⟨y, _, rfl⟩ := List.mem_map.1 hv; rfl)
  have e : (((vs.map I ++ ex).toArray.toList.take 0 ++ l.map I ++ (vs.map I ++ ex).toArray.toList.drop (0 + (l.map I).length)).toArray : Array Value) = (l.map I ++ ex).toArray := by
   congr 1
   simp [hl]
  rw [e, List.length_map] at hrun
  exact ⟨_, hrun, setRow_heap W b _ _ 33 _ hb, rfl, rfl, rfl, by simp, fun k hk hne => setRow_other W b k _ (fun q => hne (by rw [q]))⟩
set_option maxRecDepth 100000 in
set_option maxHeartbeats 4000000 in
theorem fill_ok (g mb : Nat) (n e : Int) (cs : List Cl) (cb vb : Nat → Nat) (nm : ByteArray) (sd : Int) (x : Int) (w : World) (h : IsT w g mb n e cs cb vb) (hn : nm.size ≤ maxLen) (hs : 0 ≤ sd ∧ sd ≤ 255) (hlen : ∀ c ∈ cs, c.vs.length ≤ 1000) :
  Calls Try.prog 27 #[.pointer (some ⟨g, 0, none⟩), .agg #[.string nm, .int .u8 sd], I x] w fun e_ w' => e_ = .returned (I (fillv cs nm sd x).1) ∧ IsT w' g mb n e (fillv cs nm sd x).2 cb vb ∧ Fr w w' mb cs vb := by
 have hA : Below w.heap.size w (w.alloc (.cells #[.string nm, .int .u8 sd] 25)) := (Below.refl _ w).alloc (Nat.le_refl _) _
 have h1 := h.below hA
 unfold fillv
 cases hf : find cs nm sd with
 | none =>
  have HG := Lib.hid (get_no g mb n e cs cb vb nm sd _ h1 hn hs hf)
  have HT0 := Lib.hid h
  clear h h1
  go_enter Try.func27, Try.ntmps27
  go_wp2_with fail
  refine HG.out.mono ?_
  rintro e w1 ⟨rfl, hb⟩
  have HB := Lib.hid (below_step hA hb)
  clear hb hA
  go_wp2_with fail
  go_ret
  exact ⟨rfl, (HT0.out.below (HB.out)), Fr.below HB.out⟩
 | some j =>
  have HG := Lib.hid (get_ok g mb n e cs cb vb nm sd j _ h1 hf)
  have hj := find_lt hf
  simp only
  have hgd : cs.getD j z0 = cs[j] := by simp [List.getD, hj]
  rw [hgd]
  obtain ⟨cp, -, hct⟩ := h1.ct j hj
  obtain ⟨ex, hvt⟩ := h1.vt j hj
  have HT := Lib.hid hct
  have HVT := Lib.hid hvt
  clear hct hvt
  have HT0 := Lib.hid h
  have hm1000 := hlen _ (List.getElem_mem hj)
  clear hlen
  have hupd : ∀ (W1 W2 : World) (vs : List Int), IsT W1 g mb n e cs cb vb → vs.length = cs[j].vs.length → (∃ ex, W2.heap[vb j]? = some (.cells (vs.map I ++ ex).toArray 33 (0, 0))) → W1.grownBy W2 (some (vb j)) → IsT W2 g mb n e (upd cs j vs) cb vb := fun W1 W2 vs q hl hW hg => q.upd hj hl hW hg
  have HU := Lib.hid hupd
  generalize cs[j] = c at HT HVT HU hm1000
  obtain ⟨m, hm⟩ : ∃ m, m = c.vs.length := ⟨_, rfl⟩
  rw [← hm] at HT hm1000 ⊢
  have HM := Lib.hid hm
  have HJ := Lib.hid hj
  clear h h1 hf hm hupd hgd hj
  by_cases hfit : fits c.kd [x] = true
  ·rw [if_pos hfit]
   go_enter Try.func27, Try.ntmps27
   go_wp2_with fail
   refine HG.out.mono ?_
   rintro e w1 ⟨rfl, hb⟩
   have HB := Lib.hid (below_step hA hb)
   have p1 : w1.cell? ⟨cb j, 1, none⟩ = some (.slice (some ⟨vb j, 0, none⟩) m cp) := by rw [cell_of ((hb.block _ (Array.getElem?_eq_some_iff.1 HT.out).1).trans HT.out)]; rfl
   have hv := (hb.block _ (Array.getElem?_eq_some_iff.1 HVT.out).1).trans HVT.out
   have ht := (hb.block _ (Array.getElem?_eq_some_iff.1 HT.out).1).trans HT.out
   have hbx : Below w1.heap.size w1 (w1.alloc (.cells #[I x] 33)) := (Below.refl _ w1).alloc (Nat.le_refl _) _
   have hcf := fits_ok (cb j) c.kd _ _ 1 [x] _ ((hbx.block _ (Array.getElem?_eq_some_iff.1 ht).1).trans ht) (box1 w1 x)
   have HCF := Lib.hid hcf
   rw [hfit] at HCF
   clear hcf
   have hvb : (w1.alloc (.cells #[I x] 33)).heap[vb j]? = some (.cells (c.vs.map I ++ ex).toArray 33 (0, 0)) := (hbx.block _ (Array.getElem?_eq_some_iff.1 hv).1).trans hv
   have hcb := (hbx.block _ (Array.getElem?_eq_some_iff.1 ht).1).trans ht
   have hB2 : Below w.heap.size w (w1.alloc (.cells #[I x] 33)) := below_then HB.out HB.out.size hbx
   have c1 : (w1.alloc (.cells #[I x] 33)).cell? ⟨cb j, 1, none⟩ = some (.slice (some ⟨vb j, 0, none⟩) m cp) := by rw [cell_of hcb]; rfl
   have HB2 := Lib.hid hB2
   have HVB := Lib.hid hvb
   have HCB := Lib.hid hcb
   clear hb hA hv ht hbx hvb hB2 hfit hcb
   go_wp2_with fail
   refine HCF.out.mono ?_
   rintro e w2 ⟨rfl, rfl⟩
   generalize w1.alloc (.cells #[I x] 33) = w2 at HB2 HVB HCB c1 ⊢
   clear HCF p1
   go_wp2_with fail
   go_loopw [9, 31] (fun _ v31 wr => ∃ q : Nat, q ≤ m ∧ v31 = I q ∧ wr.heap[vb j]? = some (.cells ((List.replicate q x ++ c.vs.drop q).map I ++ ex).toArray 33 (0, 0)) ∧ w2.grownBy wr (some (vb j))) (fun _ v31 _ => m - (intOf v31).toNat)
   case atStart => exact ⟨0, Nat.zero_le _, rfl, by simpa using HVB.out, rfl, rfl, rfl, Nat.le_refl _, fun _ _ _ => rfl⟩
   case round =>
    obtain ⟨q, hq, rfl, hcur, hgr⟩ := hrel
    have HCUR := Lib.hid hcur
    have HGR := Lib.hid hgr
    by_cases hlt : q < m
    ·have dq : decide ((q : Int) < (m : Int)) = true := decide_eq_true (by omega)
     have hcv : q < c.vs.length := by have := HM.out; omega
     have k1 : wr.cell? ⟨cb j, 1, none⟩ = some (.slice (some ⟨vb j, 0, none⟩) m cp) := by rw [cell_of (grown_row hgr HCB.out (blk_ne HCB.out HVB.out (by decide)))]; rfl
     have k2 : wr.cell? ⟨vb j, q, none⟩ = some (I ((List.replicate q x ++ c.vs.drop q).getD q 0)) := by
      rw [cell_of hcur]
      have : q < (List.replicate q x ++ c.vs.drop q).length := by simp; omega
      rw [List.getElem?_toArray, List.getElem?_append_left (by simpa using this)]
      simp only [List.getElem?_map, List.getD, List.getElem?_eq_getElem this, Option.map_some, Option.getD_some]
     have k3 := free_of hcur q
     generalize (List.replicate q x ++ c.vs.drop q).getD q 0 = y0 at k2
     have hnext := setc_vals (i := q) hcur (by simp; omega) x
     rw [fill_step hcv] at hnext
     have HN := Lib.hid hnext
     clear hcur hgr hnext hcv
     go_wp2_with fail
     refine ⟨⟨q + 1, by omega, by go_num, HN.out, World.grownBy.trans HGR.out (setc_grown _ _ _ _)⟩, by simp [intOf]; omega⟩
    ·have dq : decide ((q : Int) < (m : Int)) = false := decide_eq_false (by omega)
     have hqm : q = c.vs.length := by have := HM.out; omega
     have hfin : (List.replicate q x ++ c.vs.drop q) = List.replicate m x := by rw [hqm, List.drop_length, List.append_nil, HM.out]
     rw [hfin] at hcur
     have HFIN := Lib.hid hcur
     clear hcur hgr hqm hfin HCUR
     go_wp2_with fail
     go_ret
     refine ⟨rfl, HU.out _ _ _ (HT0.out.below HB2.out) (by simp [HM.out]) ⟨ex, HFIN.out⟩ HGR.out, _, grown_step HB2.out HGR.out, fun k hk => ?_⟩
     injection hk with hk
     exact .inr ⟨j, HJ.out, hk.symm⟩
  ·have hff : fits c.kd [x] = false := by simpa using hfit
   rw [if_neg hfit]
   go_enter Try.func27, Try.ntmps27
   go_wp2_with fail
   refine HG.out.mono ?_
   rintro e w1 ⟨rfl, hb⟩
   have HB := Lib.hid (below_step hA hb)
   have p1 : w1.cell? ⟨cb j, 1, none⟩ = some (.slice (some ⟨vb j, 0, none⟩) m cp) := by rw [cell_of ((hb.block _ (Array.getElem?_eq_some_iff.1 HT.out).1).trans HT.out)]; rfl
   have hv := (hb.block _ (Array.getElem?_eq_some_iff.1 HVT.out).1).trans HVT.out
   have ht := (hb.block _ (Array.getElem?_eq_some_iff.1 HT.out).1).trans HT.out
   have hbx : Below w1.heap.size w1 (w1.alloc (.cells #[I x] 33)) := (Below.refl _ w1).alloc (Nat.le_refl _) _
   have hcf := fits_ok (cb j) c.kd _ _ 1 [x] _ ((hbx.block _ (Array.getElem?_eq_some_iff.1 ht).1).trans ht) (box1 w1 x)
   have HCF := Lib.hid hcf
   rw [hff] at HCF
   clear hcf
   have HB2 := Lib.hid (below_then HB.out HB.out.size hbx)
   clear hb hA hv ht hbx hfit hff
   go_wp2_with fail
   refine HCF.out.mono ?_
   rintro e w2 ⟨rfl, rfl⟩
   go_wp2_with fail
   go_ret
   exact ⟨rfl, HT0.out.below HB2.out, Fr.below HB2.out⟩
end Go.Proofs.Ytpcjppefopjngaa.C
end
section
/- Columns by names: Load. -/
set_option linter.unusedSimpArgs false
set_option linter.unusedVariables false
namespace Go.Proofs.Ytpcjppefopjngaa.C
open Go.RowKit Go.Proofs.Ytpcjppefopjngaa.PA Go.Proofs.Ytpcjppefopjngaa.Mp Go.Proofs.YtpcjppefopjngaaW.PrintWords Go.Proofs.YtpcjppefopjngaaW.PrintLast Go.Proofs.YtpcjppefopjngaaW.PrintMore
set_option maxRecDepth 100000 in
set_option maxHeartbeats 4000000 in
theorem load_ok (g mb : Nat) (n e : Int) (cs : List Cl) (cb vb : Nat → Nat) (nm : ByteArray) (sd : Int) (A : Option Addr) (cap : Nat) (l : List Int) (w : World) (h : IsT w g mb n e cs cb vb) (hn : nm.size ≤ maxLen) (hs : 0 ≤ sd ∧ sd ≤ 255) (hlen : ∀ c ∈ cs, c.vs.length ≤ 1000) (hL : Kd.C (Kd.int .i64) w A l.length l) :
  Calls Try.prog 28 #[.pointer (some ⟨g, 0, none⟩), .agg #[.string nm, .int .u8 sd], .slice A l.length cap] w fun e_ w' => e_ = .returned (I (loadv cs nm sd l).1) ∧ IsT w' g mb n e (loadv cs nm sd l).2 cb vb ∧ Fr w w' mb cs vb := by
 have hA : Below w.heap.size w (w.alloc (.cells #[.string nm, .int .u8 sd] 25)) := (Below.refl _ w).alloc (Nat.le_refl _) _
 have h1 := h.below hA
 have HL := Lib.hid hL
 have HA := Lib.hid hA
 clear hL
 unfold loadv
 cases hf : find cs nm sd with
 | none =>
  have HG := Lib.hid (get_no g mb n e cs cb vb nm sd _ h1 hn hs hf)
  have HT0 := Lib.hid h
  clear h h1
  go_enter Try.func28, Try.ntmps28
  go_wp2_with fail
  refine HG.out.mono ?_
  rintro e w1 ⟨rfl, hb⟩
  have HB := Lib.hid (below_step hA hb)
  clear hb hA
  go_wp2_with fail
  go_ret
  exact ⟨rfl, (HT0.out.below (HB.out)), Fr.below HB.out⟩
 | some j =>
  have HG := Lib.hid (get_ok g mb n e cs cb vb nm sd j _ h1 hf)
  have hj := find_lt hf
  simp only
  have hgd : cs.getD j z0 = cs[j] := by simp [List.getD, hj]
  rw [hgd]
  obtain ⟨cp, -, hct⟩ := h1.ct j hj
  obtain ⟨ex, hvt⟩ := h1.vt j hj
  have HT := Lib.hid hct
  have HVT := Lib.hid hvt
  clear hct hvt
  have HT0 := Lib.hid h
  have hm1000 := hlen _ (List.getElem_mem hj)
  clear hlen
  have hupd : ∀ (W1 W2 : World) (vs : List Int), IsT W1 g mb n e cs cb vb → vs.length = cs[j].vs.length → (∃ ex, W2.heap[vb j]? = some (.cells (vs.map I ++ ex).toArray 33 (0, 0))) → W1.grownBy W2 (some (vb j)) → IsT W2 g mb n e (upd cs j vs) cb vb := fun W1 W2 vs q hl hW hg => q.upd hj hl hW hg
  have HU := Lib.hid hupd
  generalize cs[j] = c at HT HVT HU hm1000
  obtain ⟨m, hm⟩ : ∃ m, m = c.vs.length := ⟨_, rfl⟩
  rw [← hm] at HT hm1000 ⊢
  have HM := Lib.hid hm
  have HJ := Lib.hid hj
  clear h h1 hf hm hupd hgd hj
  by_cases hlm : l.length = m
  ·have hlb : ((l.length : Int) != (m : Int)) = false := by rw [hlm]; simp
   rw [if_neg (by simpa using hlm)]
   by_cases hfit : fits c.kd l = true
   ·rw [if_pos hfit]
    go_enter Try.func28, Try.ntmps28
    go_wp2_with fail
    refine HG.out.mono ?_
    rintro e w1 ⟨rfl, hb⟩
    have HB := Lib.hid (below_step hA hb)
    have p1 : w1.cell? ⟨cb j, 1, none⟩ = some (.slice (some ⟨vb j, 0, none⟩) m cp) := by rw [cell_of ((hb.block _ (Array.getElem?_eq_some_iff.1 HT.out).1).trans HT.out)]; rfl
    have hv := (hb.block _ (Array.getElem?_eq_some_iff.1 HVT.out).1).trans HVT.out
    have ht := (hb.block _ (Array.getElem?_eq_some_iff.1 HT.out).1).trans HT.out
    have hlc := fits_ok (cb j) c.kd _ A cap l w1 ht (Kd.C_below (Kd.C_below HL.out HA.out) hb)
    have HCF := Lib.hid hlc
    clear hlc
    rw [hfit] at HCF
    have hcp := copy_ok w1 (vb j) cp c.vs l ex A cap hv (Kd.C_below (Kd.C_below HL.out HA.out) hb) (by have := HM.out; omega) 3
    rw [← HM.out] at hcp
    obtain ⟨w3, hrun, hw3, hg3⟩ := hcp
    have HW3 := Lib.hid hw3
    have HG3 := Lib.hid hg3
    clear hb hA hv ht hfit hw3 hg3
    have HLM := Lib.hid hlm
    clear hlm
    go_wp2_with fail
    refine HCF.out.mono ?_
    rintro e w2 ⟨rfl, rfl⟩
    go_wp2_with fail
    go_ret
    refine ⟨rfl, HU.out _ _ _ (HT0.out.below HB.out) (by rw [HLM.out, HM.out]) ⟨ex, HW3.out⟩ HG3.out, _, grown_step HB.out HG3.out, fun k hk => ?_⟩
    injection hk with hk
    exact .inr ⟨j, HJ.out, hk.symm⟩
   ·have hff : fits c.kd l = false := by simpa using hfit
    rw [if_neg hfit]
    go_enter Try.func28, Try.ntmps28
    go_wp2_with fail
    refine HG.out.mono ?_
    rintro e w1 ⟨rfl, hb⟩
    have HB := Lib.hid (below_step hA hb)
    have p1 : w1.cell? ⟨cb j, 1, none⟩ = some (.slice (some ⟨vb j, 0, none⟩) m cp) := by rw [cell_of ((hb.block _ (Array.getElem?_eq_some_iff.1 HT.out).1).trans HT.out)]; rfl
    have hv := (hb.block _ (Array.getElem?_eq_some_iff.1 HVT.out).1).trans HVT.out
    have ht := (hb.block _ (Array.getElem?_eq_some_iff.1 HT.out).1).trans HT.out
    have hlc := fits_ok (cb j) c.kd _ A cap l w1 ht (Kd.C_below (Kd.C_below HL.out HA.out) hb)
    have HCF := Lib.hid hlc
    clear hlc
    rw [hff] at HCF
    clear hb hA hv ht hfit hff hlm
    go_wp2_with fail
    refine HCF.out.mono ?_
    rintro e w2 ⟨rfl, rfl⟩
    go_wp2_with fail
    go_ret
    exact ⟨rfl, HT0.out.below HB.out, Fr.below HB.out⟩
  ·have hlb : ((l.length : Int) != (m : Int)) = true := by simp; omega
   rw [if_pos (by simpa using hlm)]
   go_enter Try.func28, Try.ntmps28
   go_wp2_with fail
   refine HG.out.mono ?_
   rintro e w1 ⟨rfl, hb⟩
   have HB := Lib.hid (below_step hA hb)
   have p1 : w1.cell? ⟨cb j, 1, none⟩ = some (.slice (some ⟨vb j, 0, none⟩) m cp) := by rw [cell_of ((hb.block _ (Array.getElem?_eq_some_iff.1 HT.out).1).trans HT.out)]; rfl
   clear hb hA hlm
   go_wp2_with fail
   go_ret
   exact ⟨rfl, (HT0.out.below (HB.out)), Fr.below HB.out⟩
end Go.Proofs.Ytpcjppefopjngaa.C
end
section
/- The walk of column.name. -/
set_option linter.unusedSimpArgs false
set_option linter.unusedVariables false
namespace Go.Proofs.Ytpcjppefopjngaa.C
open Go.RowKit Go.Proofs.Ytpcjppefopjngaa.PA Go.Proofs.Ytpcjppefopjngaa.Mp Go.Proofs.YtpcjppefopjngaaW.PrintWords Go.Proofs.YtpcjppefopjngaaW.PrintLast Go.Proofs.YtpcjppefopjngaaW.PrintMore
/-- May a sign stand at a place of a name? -/
def gd (i : Nat) (b : Nat) : Bool := decide (97 ≤ b ∧ b ≤ 122) || decide (48 ≤ b ∧ b ≤ 57 ∧ 0 < i)
def byte (s : ByteArray) (i : Nat) : Nat := if h : i < s.size then (s[i]'h).toNat else 0
def good (s : ByteArray) : Bool := (List.range s.size).all fun i => gd i (byte s i)
def nmok (s : ByteArray) : Bool := decide (0 < s.size ∧ s.size ≤ 8) && good s
theorem good_bad {s : ByteArray} {i : Nat} (h : i < s.size) (hb : gd i (byte s i) = false) : good s = false := by
 unfold good
 rw [Bool.eq_false_iff]
 intro ha
 rw [List.all_eq_true] at ha
 have := ha i (List.mem_range.2 h)
 rw [hb] at this; cases this
theorem good_all {s : ByteArray} (h : ∀ i, i < s.size → gd i (byte s i) = true) : good s = true := by
 unfold good
 rw [List.all_eq_true]
 exact fun i hi => h i (List.mem_range.1 hi)
theorem below_iter (w : World) (s : ByteArray) (pos : Nat) : Below w.heap.size w (w.iter s pos) := (Below.refl _ w).alloc (Nat.le_refl _) _
theorem empty_of {s : ByteArray} (h : s.size = 0) : s = ⟨#[]⟩ := by
 obtain ⟨d⟩ := s
 have : d.size = 0 := h
 simp at this
 rw [this]
set_option maxRecDepth 100000 in
set_option maxHeartbeats 4000000 in
theorem name_ok (s : ByteArray) (hs : s.size ≤ maxLen) (w : World) : Calls Try.prog 54 #[.string s] w fun e w' => e = .returned (.bool (nmok s)) ∧ Below w.heap.size w w' := by
 have hsm : s.size ≤ 9223372036854775807 := hs
 clear hs
 go_enter Try.func54, Try.ntmps54
 go_wp2
 go_loopw [3, 4, 11, 18] (fun _ _ _ _ wr => ∃ i : Nat, i ≤ s.size ∧ wr = w.iter s i ∧ ∀ k, k < i → gd k (byte s k) = true) (fun _ _ _ _ wr => s.size - wr.iterPos w.heap.size)
 case atStart => exact ⟨0, Nat.zero_le _, rfl, fun k hk => absurd hk (by omega)⟩
 case round =>
  obtain ⟨i, hi, rfl, hg⟩ := hrel
  have HG := Lib.hid hg
  clear hg
  by_cases hlt : i < s.size
  ·have hby : byte s i = (s[i]'hlt).toNat := by unfold byte; rw [dif_pos hlt]
   by_cases ha : (s[i]'hlt).toNat < 128
   ·have hnx := fun ty => run_next_ascii (P := Try.prog) w s i ty hlt ha
    obtain ⟨b, hb⟩ : ∃ b, b = (s[i]'hlt).toNat := ⟨_, rfl⟩
    rw [← hb] at hnx hby
    have HBY := Lib.hid hby
    clear ha hb hby
    by_cases h1 : 97 ≤ b
    ·by_cases h2 : b ≤ 122
     ·have b1 : decide ((b : Int) ≥ 97) = true := decide_eq_true (by omega)
      have b2 : decide ((b : Int) ≤ 122) = true := decide_eq_true (by omega)
      have hgd : gd i b = true := by unfold gd; simp [h1, h2]
      have HGD := Lib.hid hgd
      clear h1 h2 hgd
      go_wp2
      go_roundw
      case rel =>
       refine ⟨i + 1, by omega, rfl, fun k hk => ?_⟩
       by_cases e : k = i
       ·subst e; rw [HBY.out]; exact HGD.out
       ·exact HG.out k (by omega)
      case measure => simp; omega
     ·have b1 : decide ((b : Int) ≥ 97) = true := decide_eq_true (by omega)
      have b2 : decide ((b : Int) ≤ 122) = false := decide_eq_false (by omega)
      have b3 : decide ((b : Int) ≥ 48) = true := decide_eq_true (by omega)
      have b4 : decide ((b : Int) ≤ 57) = false := decide_eq_false (by omega)
      have hbad : good s = false := good_bad hlt (by rw [HBY.out]; unfold gd; simp; omega)
      have HBAD := Lib.hid hbad
      clear h1 h2 hbad
      go_wp2
      go_ret
      exact ⟨by (unfold nmok; rw [HBAD.out, Bool.and_false]; rfl), below_iter _ _ _⟩
    ·have b1 : decide ((b : Int) ≥ 97) = false := decide_eq_false (by omega)
     by_cases h3 : 48 ≤ b ∧ b ≤ 57
     ·have b3 : decide ((b : Int) ≥ 48) = true := decide_eq_true (by omega)
      have b4 : decide ((b : Int) ≤ 57) = true := decide_eq_true (by omega)
      by_cases hi0 : 0 < i
      ·have b5 : decide ((i : Int) > 0) = true := decide_eq_true (by omega)
       have b6 : decide (0 < i) = true := decide_eq_true hi0
       have hgd : gd i b = true := by unfold gd; simp [h3, hi0]
       have HGD := Lib.hid hgd
       clear h1 h3 hgd hi0
       go_wp2
       go_roundw
       case rel =>
        refine ⟨i + 1, by omega, rfl, fun k hk => ?_⟩
        by_cases e : k = i
        ·subst e; rw [HBY.out]; exact HGD.out
        ·exact HG.out k (by omega)
       case measure => simp; omega
      ·have b5 : decide ((i : Int) > 0) = false := decide_eq_false (by omega)
       have b6 : decide (0 < i) = false := decide_eq_false hi0
       have hbad : good s = false := good_bad hlt (by rw [HBY.out]; unfold gd; simp; omega)
       have HBAD := Lib.hid hbad
       clear h1 h3 hbad hi0
       go_wp2
       go_ret
       exact ⟨by (unfold nmok; rw [HBAD.out, Bool.and_false]; rfl), below_iter _ _ _⟩
     ·have hbad : good s = false := good_bad hlt (by rw [HBY.out]; unfold gd; simp; omega)
      have HBAD := Lib.hid hbad
      by_cases h4 : 48 ≤ b
      ·have b3 : decide ((b : Int) ≥ 48) = true := decide_eq_true (by omega)
       have b4 : decide ((b : Int) ≤ 57) = false := decide_eq_false (by omega)
       clear h1 h3 hbad h4
       go_wp2
       go_ret
       exact ⟨by (unfold nmok; rw [HBAD.out, Bool.and_false]; rfl), below_iter _ _ _⟩
      ·have b3 : decide ((b : Int) ≥ 48) = false := decide_eq_false (by omega)
       clear h1 h3 hbad h4
       go_wp2
       go_ret
       exact ⟨by (unfold nmok; rw [HBAD.out, Bool.and_false]; rfl), below_iter _ _ _⟩
   ·have hnx := fun ty => run_next_any (P := Try.prog) w s i ty hlt
    have hd := decode_high s i hlt (by omega)
    obtain ⟨r, hr⟩ : ∃ r, r = (Utf8.decode s i).1 := ⟨_, rfl⟩
    rw [← hr] at hnx hd
    have hr1 : 128 ≤ r := hd.1
    generalize i + (Utf8.decode s i).2 = p' at hnx
    have b1 : decide ((r : Int) ≥ 97) = true := decide_eq_true (by omega)
    have b2 : decide ((r : Int) ≤ 122) = false := decide_eq_false (by omega)
    have b3 : decide ((r : Int) ≥ 48) = true := decide_eq_true (by omega)
    have b4 : decide ((r : Int) ≤ 57) = false := decide_eq_false (by omega)
    have hbad : good s = false := good_bad hlt (by rw [hby]; unfold gd; simp; omega)
    have HBAD := Lib.hid hbad
    clear hr hd hbad hby ha
    go_wp2
    go_ret
    exact ⟨by (unfold nmok; rw [HBAD.out, Bool.and_false]; rfl), below_iter _ _ _⟩
  ·have hend := fun ty => run_next_end (P := Try.prog) w s i ty hlt
   have hgood : good s = true := good_all fun k hk => HG.out k (by omega)
   have HGOOD := Lib.hid hgood
   clear hgood
   by_cases h0 : s.size = 0
   ·have e0 := empty_of h0
    subst e0
    go_wp2
    go_ret
    exact ⟨rfl, below_iter _ _ _⟩
   ·have be : s.toList.isEmpty = false := by
     rw [ByteArray.toList_eq]
     cases hd : s.data.toList with
     | nil =>
      exfalso
      apply h0
      show s.data.size = 0
      rw [← Array.length_toList, hd]; rfl
     | cons a l => rfl
    have hp : 0 < s.size := by omega
    have HP := Lib.hid hp
    by_cases h8 : s.size ≤ 8
    ·have b8 : decide ((s.size : Int) ≤ 8) = true := decide_eq_true (by omega)
     have b9 : decide (s.size ≤ 8) = true := decide_eq_true h8
     have hn : nmok s = true := by unfold nmok; rw [HGOOD.out]; simp [h8, hp]
     have HN := Lib.hid hn
     clear hn h8 h0 hp
     go_wp2
     go_ret
     exact ⟨by (rw [HN.out]; rfl), below_iter _ _ _⟩
    ·have b8 : decide ((s.size : Int) ≤ 8) = false := decide_eq_false (by omega)
     have b9 : decide (s.size ≤ 8) = false := decide_eq_false h8
     have hn : nmok s = false := by unfold nmok; rw [HGOOD.out]; simp [h8]
     have HN := Lib.hid hn
     clear hn h8 h0 hp
     go_wp2
     go_ret
     exact ⟨by (rw [HN.out]; rfl), below_iter _ _ _⟩
end Go.Proofs.Ytpcjppefopjngaa.C
end
section
/- Columns by names: New, Declare. -/
set_option linter.unusedSimpArgs false
set_option linter.unusedVariables false
namespace Go.Proofs.Ytpcjppefopjngaa.C
open Go.RowKit Go.Proofs.Ytpcjppefopjngaa.PA Go.Proofs.Ytpcjppefopjngaa.Mp Go.Proofs.YtpcjppefopjngaaW.PrintWords Go.Proofs.YtpcjppefopjngaaW.PrintLast Go.Proofs.YtpcjppefopjngaaW.PrintMore
theorem mkmap (t : TypeId) (W : World) : (Instr.makeMap t none).run Try.prog W = .ok (.map (some W.heap.size)) (W.alloc (.map #[] 0)) := by
 simp [Instr.makeMap, newObj, Result.andThen, Sem.run]
theorem map_len {W : World} {mb : Nat} {m : List (Value × Value)} (h : MapIs Try.prog 25 W mb m) (ty : TypeId) : (Builtin.len_ #[91] ty #[.map (some mb)]).run Try.prog W = .ok (I m.length) W := by
 obtain ⟨es, h1, h2, _⟩ := h.ex
 have hsz : es.size = m.length := by rw [← h2]; simp
 simp [Builtin.len_, run_underlying Try.underlying91, Builtin.lenOf, MapKept.run_getObj_map h1, goInt, hsz, Result.andThen]
def inN (n e : Int) : Prop := 1 ≤ n ∧ n ≤ 12 ∧ 0 ≤ e ∧ e ≤ 30
theorem new_no (n e : Int) (w : World) (h : ¬ inN n e) : Calls Try.prog 30 #[I n, I e] w fun e w' => e = .returned (.pointer none) ∧ Below w.heap.size w w' := by
 unfold inN at h
 by_cases h1 : n < 1
 ·have d1 : decide (n < 1) = true := decide_eq_true h1
  go_enter Try.func30, Try.ntmps30
  go_wp2
  go_ret
  exact ⟨rfl, Below.refl _ _⟩
 ·have d1 : decide (n < 1) = false := decide_eq_false h1
  by_cases h2 : n > 12
  ·have d2 : decide (n > 12) = true := decide_eq_true h2
   go_enter Try.func30, Try.ntmps30
   go_wp2
   go_ret
   exact ⟨rfl, Below.refl _ _⟩
  ·have d2 : decide (n > 12) = false := decide_eq_false h2
   by_cases h3 : e < 0
   ·have d3 : decide (e < 0) = true := decide_eq_true h3
    go_enter Try.func30, Try.ntmps30
    go_wp2
    go_ret
    exact ⟨rfl, Below.refl _ _⟩
   ·have d3 : decide (e < 0) = false := decide_eq_false h3
    have d4 : decide (e > 30) = true := decide_eq_true (by omega)
    clear h
    go_enter Try.func30, Try.ntmps30
    go_wp2
    go_ret
    exact ⟨rfl, Below.refl _ _⟩
theorem new_ok (n e : Int) (w : World) (h : inN n e) : Calls Try.prog 30 #[I n, I e] w fun e_ w' => ∃ g mb, e_ = .returned (.pointer (some ⟨g, 0, none⟩)) ∧ IsT w' g mb n e [] (fun _ => 0) (fun _ => 0) ∧ w.heap.size ≤ g ∧ w.heap.size ≤ mb ∧ Below w.heap.size w w' := by
 obtain ⟨h1, h2, h3, h4⟩ := h
 have d1 : decide (n < 1) = false := decide_eq_false (by omega)
 have d2 : decide (n > 12) = false := decide_eq_false (by omega)
 have d3 : decide (e < 0) = false := decide_eq_false (by omega)
 have d4 : decide (e > 30) = false := decide_eq_false (by omega)
 have hm := mkmap 91 w
 go_enter Try.func30, Try.ntmps30
 go_wp2
 go_ret
 have hA : Below w.heap.size w (w.alloc (.map #[] 0)) := (Below.refl _ w).alloc (Nat.le_refl _) _
 have hM : MapIs Try.prog 25 (w.alloc (.map #[] 0)) w.heap.size [] := MapIs.made w
 have hz : (w.alloc (.map #[] 0)).heap.size = w.heap.size + 1 := by simp
 generalize w.alloc (.map #[] 0) = w1 at hA hM hz ⊢
 have hB : Below w1.heap.size w1 (w1.alloc (.cells #[I n, I e, .map (some w.heap.size)] 93)) := (Below.refl _ w1).alloc (Nat.le_refl _) _
 refine ⟨_, _, rfl, ⟨by rw [← hz]; exact heap_alloc_new w1 _, hM.below hB, fun i hi => by simp at hi, fun i hi => by simp at hi, fun i j hi => by simp at hi⟩, by omega, Nat.le_refl _, below_then hA hA.size hB⟩
def declv (n e : Int) (cs : List Cl) (nm : ByteArray) (sd kd : Int) : Int × List Cl :=
 if nmok nm = false then (3, cs) else if sd < 1 ∨ 3 < sd ∨ kd < 1 ∨ 2 < kd then (2, cs) else if (find cs nm sd).isSome then (6, cs) else if 24 ≤ cs.length then (4, cs) else (0, cs ++ [⟨nm, sd, kd, List.replicate (len n e sd).toNat 0⟩])
theorem IsT.add {W W' : World} {g mb : Nat} {n e : Int} {cs : List Cl} {cb vb : Nat → Nat} (h : IsT W g mb n e cs cb vb) (c : Cl) (cn vn : Nat) {cp : Nat} {ex : List Value} (hcp : c.vs.length ≤ cp) (hct : W'.heap[cn]? = some (.cells #[.int .u8 c.kd, .slice (some ⟨vn, 0, none⟩) c.vs.length cp] 79 (0, 0))) (hvt : W'.heap[vn]? = some (.cells (c.vs.map I ++ ex).toArray 33 (0, 0)))
  (hmp : MapIs Try.prog 25 W' mb (ents cs cb ++ [(c.key, .pointer (some ⟨cn, 0, none⟩))])) (hg : W.grownBy W' (some mb)) (hc : W.heap.size ≤ cn) (hv : W.heap.size ≤ vn) :
  IsT W' g mb n e (cs ++ [c]) (fun i => if i = cs.length then cn else cb i) (fun i => if i = cs.length then vn else vb i) := by
 have hgl : ∀ i (hi : i < cs.length), cb i < W.heap.size ∧ vb i < W.heap.size := fun i hi => ⟨(Array.getElem?_eq_some_iff.1 (h.cx i hi)).1, (Array.getElem?_eq_some_iff.1 (h.vx i hi)).1⟩
 refine ⟨grown_row hg h.tb (fun q => h.mp.ne h.tb q.symm), ?_, fun i hi => ?_, fun i hi => ?_, fun i j hi hj hij => ?_⟩
 ·have : ents (cs ++ [c]) (fun i => if i = cs.length then cn else cb i) = ents cs cb ++ [(c.key, .pointer (some ⟨cn, 0, none⟩))] := by
   apply List.ext_getElem?
   intro i
   by_cases hi : i < cs.length
   ·rw [ents_at (by simp; omega), List.getElem?_append_left (by rw [ents_len]; exact hi), ents_at hi, List.getElem_append_left hi, if_neg (by omega)]
   ·by_cases he : i = cs.length
    ·subst he
     rw [ents_at (by simp), List.getElem?_append_right (by rw [ents_len]; omega), ents_len, List.getElem_append_right (by omega)]
     simp
    ·rw [List.getElem?_eq_none (by rw [ents_len]; simp; omega), List.getElem?_eq_none (by simp [ents_len]; omega)]
  rw [this]; exact hmp
 ·by_cases he : i = cs.length
  ·subst he
   rw [if_pos rfl, if_pos rfl, List.getElem_append_right (by omega)]
   exact ⟨cp, by simpa using hcp, by simpa using hct⟩
  ·have hi' : i < cs.length := by simp at hi; omega
   rw [if_neg he, if_neg he, List.getElem_append_left hi']
   exact (h.ct i hi').imp fun c q => ⟨q.1, grown_row hg q.2 (fun z => h.mp.ne q.2 z.symm)⟩
 ·by_cases he : i = cs.length
  ·subst he
   rw [if_pos rfl, List.getElem_append_right (by omega)]
   exact ⟨ex, by simpa using hvt⟩
  ·have hi' : i < cs.length := by simp at hi; omega
   rw [if_neg he, List.getElem_append_left hi']
   exact (h.vt i hi').imp fun ex q => grown_row hg q (fun z => h.mp.ne q z.symm)
 ·rw [List.length_append, List.length_singleton] at hi hj
  by_cases h1 : i = cs.length
  ·have h2 : j < cs.length := by omega
   have := hgl j h2
   rw [if_pos h1, if_pos h1, if_neg (by omega), if_neg (by omega)]
   constructor <;> omega
  ·by_cases h2 : j = cs.length
   ·have := hgl i (by omega)
    rw [if_neg h1, if_neg h1, if_pos h2, if_pos h2]
    constructor <;> omega
   ·rw [if_neg h1, if_neg h1, if_neg h2, if_neg h2]
    exact h.ne i j (by omega) (by omega) hij
set_option maxRecDepth 100000 in
theorem make33 (n : Nat) (hn : n ≤ 1000) (W : World) :
  (Instr.makeSlice 42 (.int .i64 (n : Int)) (.int .i64 (n : Int))).run Try.prog W = .ok (.slice (some ⟨W.heap.size, 0, none⟩) n n) (W.alloc (.cells (List.replicate n (I 0)).toArray 33)) := by
 obtain ⟨i, h1, h2, h3, h4⟩ := info_parts info33
 have := run_make (P := Try.prog) W 42 33 i _ Try.underlying42 h1 h2 .i64 .i64 (n : Int) (n : Int) (by omega) (by omega) (by rw [h4]; omega) (by omega)
 rw [this, h3]
 simp only [Int.toNat_natCast]
 congr 3
 apply Array.ext'
 rw [show (Value.int IntKind.i64 0).cells = #[Value.int IntKind.i64 0] from rfl, Nat.mul_one, toList_madeCells_one]
theorem mapupd_step {ops : Array Oper} {Q : Exit → Act → World → Prop} {o : Oper} {a : Act} {w w1 : World} {K : Act → World → Prop} {t : TypeId} {m k u : Value} (x y z : Operand) (hw : Region.wanted o (yielded ops a.tmps) = true) (hN : o.dst = none)
  (hop : o.op = .mapUpdate t x y z) (hm : a.eval x = m) (hk : a.eval y = k) (hu : a.eval z = u) (hr : (Instr.mapUpdate t m k u).run Try.prog w = .ok () w1) (h : K a w1) :
  if Region.wanted o (yielded ops a.tmps) = true then Oper.wp Try.prog o a w K Q else K (a.put none undef) w := by
 refine skip_ (w1 := w1) hw hN ?_ h
 unfold execOp
 simp only [hop, hm, hk, hu, Sem.run_bind, Sem.run_pure, hr, Result.andThen_ok]
theorem len_nat (n e sd : Int) (h : inN n e) : ∃ m : Nat, len n e sd = (m : Int) ∧ m ≤ 30 := by
 obtain ⟨h1, h2, h3, h4⟩ := h
 refine ⟨(len n e sd).toNat, ?_, ?_⟩ <;> (unfold len; (repeat' split) <;> omega)
set_option maxRecDepth 100000 in
theorem decl_nil (nm : ByteArray) (sd kd : Int) (w : World) : Calls Try.prog 26 #[.pointer none, .agg #[.string nm, .int .u8 sd], .int .u8 kd] w fun e w' => e = .returned (I 1) ∧ Below w.heap.size w w' := by
 go_enter Try.func26, Try.ntmps26
 go_wp2
 go_ret
 exact ⟨rfl, (Below.refl _ _).alloc (Nat.le_refl _) _⟩
set_option maxRecDepth 100000 in
set_option maxHeartbeats 4000000 in
theorem decl_ok (g mb : Nat) (n e : Int) (cs : List Cl) (cb vb : Nat → Nat) (nm : ByteArray) (sd kd : Int) (w : World) (h : IsT w g mb n e cs cb vb) (hN : inN n e) (hn : nm.size ≤ maxLen) (hs : 0 ≤ sd ∧ sd ≤ 255) (hcs : cs.length ≤ 24) :
  Calls Try.prog 26 #[.pointer (some ⟨g, 0, none⟩), .agg #[.string nm, .int .u8 sd], .int .u8 kd] w fun e_ w' => e_ = .returned (I (declv n e cs nm sd kd).1) ∧ (∃ cb' vb', IsT w' g mb n e (declv n e cs nm sd kd).2 cb' vb' ∧ (∀ i, i < cs.length → cb' i = cb i ∧ vb' i = vb i) ∧ ∀ i, cs.length ≤ i → i < (declv n e cs nm sd kd).2.length → w.heap.size ≤ vb' i) ∧ Fr w w' mb cs vb := by
 have hA : Below w.heap.size w (w.alloc (.cells #[.string nm, .int .u8 sd] 25)) := (Below.refl _ w).alloc (Nat.le_refl _) _
 have h1 := h.below hA
 have hlt0 : w.heap.size < (w.alloc (.cells #[.string nm, .int .u8 sd] 25)).heap.size := by simp
 have hkb : (w.alloc (.cells #[.string nm, .int .u8 sd] 25)).heap[w.heap.size]? = some (.cells #[.string nm, .int .u8 sd] 25 (0, 0)) := heap_alloc_new w _
 have HNM := Lib.hid (name_ok nm hn (w.alloc (.cells #[.string nm, .int .u8 sd] 25)))
 have HT0 := Lib.hid h
 have HKB := Lib.hid hkb
 have lg := h.lt
 unfold declv
 by_cases hnm : nmok nm = false
 ·rw [if_pos hnm]
  rw [hnm] at HNM
  clear hkb h h1 hnm
  go_enter Try.func26, Try.ntmps26
  go_wp2_with fail
  refine HNM.out.mono ?_
  rintro e w1 ⟨rfl, hb⟩
  have HB := Lib.hid (below_step hA hb)
  clear hb hA
  go_wp2_with fail
  go_ret
  exact ⟨rfl, ⟨cb, vb, HT0.out.below HB.out, fun i hi => ⟨rfl, rfl⟩, fun i h1 h2 => absurd h2 (by omega)⟩, Fr.below HB.out⟩
 ·rw [if_neg hnm]
  rw [show nmok nm = true by simpa using hnm] at HNM
  by_cases hbad : sd < 1 ∨ 3 < sd ∨ kd < 1 ∨ 2 < kd
  ·rw [if_pos hbad]
   by_cases q0 : sd < 1
   ·have d1 : decide (sd < 1) = true := decide_eq_true q0
    clear hkb h h1 hnm
    go_enter Try.func26, Try.ntmps26
    go_wp2_with fail
    refine HNM.out.mono ?_
    rintro e w1 ⟨rfl, hb⟩
    have HB := Lib.hid (below_step hA hb)
    have hkb1 := (hb.block _ hlt0).trans HKB.out
    have p3 : w1.cell? ⟨w.heap.size, 1, none⟩ = some (.int .u8 sd) := by rw [cell_of hkb1]; rfl
    have p2 : w1.cell? ⟨w.heap.size, 0, none⟩ = some (.string nm) := by rw [cell_of hkb1]; rfl
    clear hb hA hkb1
    go_wp2_with fail
    go_ret
    exact ⟨rfl, ⟨cb, vb, HT0.out.below HB.out, fun i hi => ⟨rfl, rfl⟩, fun i h1 h2 => absurd h2 (by omega)⟩, Fr.below HB.out⟩
   ·have d1 : decide (sd < 1) = false := decide_eq_false q0
    by_cases q1 : sd > 3
    ·have d2 : decide (sd > 3) = true := decide_eq_true q1
     clear hkb h h1 hnm
     go_enter Try.func26, Try.ntmps26
     go_wp2_with fail
     refine HNM.out.mono ?_
     rintro e w1 ⟨rfl, hb⟩
     have HB := Lib.hid (below_step hA hb)
     have hkb1 := (hb.block _ hlt0).trans HKB.out
     have p3 : w1.cell? ⟨w.heap.size, 1, none⟩ = some (.int .u8 sd) := by rw [cell_of hkb1]; rfl
     have p2 : w1.cell? ⟨w.heap.size, 0, none⟩ = some (.string nm) := by rw [cell_of hkb1]; rfl
     clear hb hA hkb1
     go_wp2_with fail
     go_ret
     exact ⟨rfl, ⟨cb, vb, HT0.out.below HB.out, fun i hi => ⟨rfl, rfl⟩, fun i h1 h2 => absurd h2 (by omega)⟩, Fr.below HB.out⟩
    ·have d2 : decide (sd > 3) = false := decide_eq_false q1
     by_cases q2 : kd < 1
     ·have d3 : decide (kd < 1) = true := decide_eq_true q2
      clear hkb h h1 hnm
      go_enter Try.func26, Try.ntmps26
      go_wp2_with fail
      refine HNM.out.mono ?_
      rintro e w1 ⟨rfl, hb⟩
      have HB := Lib.hid (below_step hA hb)
      have hkb1 := (hb.block _ hlt0).trans HKB.out
      have p3 : w1.cell? ⟨w.heap.size, 1, none⟩ = some (.int .u8 sd) := by rw [cell_of hkb1]; rfl
      have p2 : w1.cell? ⟨w.heap.size, 0, none⟩ = some (.string nm) := by rw [cell_of hkb1]; rfl
      clear hb hA hkb1
      go_wp2_with fail
      go_ret
      exact ⟨rfl, ⟨cb, vb, HT0.out.below HB.out, fun i hi => ⟨rfl, rfl⟩, fun i h1 h2 => absurd h2 (by omega)⟩, Fr.below HB.out⟩
     ·have d3 : decide (kd < 1) = false := decide_eq_false q2
      have d4 : decide (kd > 2) = true := decide_eq_true (by omega)
      clear hkb h h1 hnm
      go_enter Try.func26, Try.ntmps26
      go_wp2_with fail
      refine HNM.out.mono ?_
      rintro e w1 ⟨rfl, hb⟩
      have HB := Lib.hid (below_step hA hb)
      have hkb1 := (hb.block _ hlt0).trans HKB.out
      have p3 : w1.cell? ⟨w.heap.size, 1, none⟩ = some (.int .u8 sd) := by rw [cell_of hkb1]; rfl
      have p2 : w1.cell? ⟨w.heap.size, 0, none⟩ = some (.string nm) := by rw [cell_of hkb1]; rfl
      clear hb hA hkb1
      go_wp2_with fail
      go_ret
      exact ⟨rfl, ⟨cb, vb, HT0.out.below HB.out, fun i hi => ⟨rfl, rfl⟩, fun i h1 h2 => absurd h2 (by omega)⟩, Fr.below HB.out⟩
  ·rw [if_neg hbad]
   have d1 : decide (sd < 1) = false := decide_eq_false (by omega)
   have d2 : decide (sd > 3) = false := decide_eq_false (by omega)
   have d3 : decide (kd < 1) = false := decide_eq_false (by omega)
   have d4 : decide (kd > 2) = false := decide_eq_false (by omega)
   have HN := Lib.hid hN
   cases hf : find cs nm sd with
   | some i =>
    rw [if_pos (by rfl)]
    clear hkb h h1 hnm hbad
    go_enter Try.func26, Try.ntmps26
    go_wp2_with fail
    refine HNM.out.mono ?_
    rintro e w1 ⟨rfl, hb⟩
    have HB := Lib.hid (below_step hA hb)
    have hkb1 := (hb.block _ hlt0).trans HKB.out
    have p3 : w1.cell? ⟨w.heap.size, 1, none⟩ = some (.int .u8 sd) := by rw [cell_of hkb1]; rfl
    have hp1 : w1.cell? ⟨g, 2, none⟩ = some (.map (some mb)) := by rw [cell_of (HT0.out.below HB.out).tb]; rfl
    have p2 : w1.cell? ⟨w.heap.size, 0, none⟩ = some (.string nm) := by rw [cell_of hkb1]; rfl
    have hT1 := HT0.out.below HB.out
    have hl : ∀ q, (Instr.lookup 91 (.map (some mb)) (.agg #[.string nm, .int .u8 sd]) true).run Try.prog (w1.drewN q) = .ok (.tuple #[.pointer (some ⟨cb i, 0, none⟩), .bool true]) (w1.drewN q) := fun q => look_some (hT1.below (pw_below_drewN (Below.refl _ _) q)) hf
    clear hb hA hkb1 hT1 hf
    go_wp2_with fail
    repeat (go_quiet (fail); try go_wp2_with fail)
    go_ret
    exact ⟨rfl, ⟨cb, vb, HT0.out.below (pw_below_drewN HB.out _), fun i hi => ⟨rfl, rfl⟩, fun i h1 h2 => absurd h2 (by omega)⟩, Fr.below (pw_below_drewN HB.out _)⟩
   | none =>
    rw [if_neg (by simp)]
    by_cases h24 : 24 ≤ cs.length
    ·rw [if_pos h24]
     have d24 : decide (((ents cs cb).length : Int) ≥ 24) = true := decide_eq_true (by rw [ents_len]; omega)
     clear hkb h h1 hnm hbad
     go_enter Try.func26, Try.ntmps26
     go_wp2_with fail
     refine HNM.out.mono ?_
     rintro e w1 ⟨rfl, hb⟩
     have HB := Lib.hid (below_step hA hb)
     have hkb1 := (hb.block _ hlt0).trans HKB.out
     have p3 : w1.cell? ⟨w.heap.size, 1, none⟩ = some (.int .u8 sd) := by rw [cell_of hkb1]; rfl
     have hp1 : w1.cell? ⟨g, 2, none⟩ = some (.map (some mb)) := by rw [cell_of (HT0.out.below HB.out).tb]; rfl
     have p2 : w1.cell? ⟨w.heap.size, 0, none⟩ = some (.string nm) := by rw [cell_of hkb1]; rfl
     have hT1 := HT0.out.below HB.out
     have hl : ∀ q, (Instr.lookup 91 (.map (some mb)) (.agg #[.string nm, .int .u8 sd]) true).run Try.prog (w1.drewN q) = .ok (.tuple #[.pointer none, .bool false]) (w1.drewN q) := fun q => look_none (hT1.below (pw_below_drewN (Below.refl _ _) q)) hn hs hf
     have hml : ∀ q ty, (Builtin.len_ #[91] ty #[.map (some mb)]).run Try.prog (w1.drewN q) = .ok (I (ents cs cb).length) (w1.drewN q) := fun q ty => map_len (hT1.below (pw_below_drewN (Below.refl _ _) q)).mp ty
     clear hb hA hkb1 hT1 hf
     go_wp2_with fail
     repeat (go_quiet (fail); try go_wp2_with fail)
     go_ret
     exact ⟨rfl, ⟨cb, vb, HT0.out.below (pw_below_drewN HB.out _), fun i hi => ⟨rfl, rfl⟩, fun i h1 h2 => absurd h2 (by omega)⟩, Fr.below (pw_below_drewN HB.out _)⟩
    ·rw [if_neg h24]
     have d24 : decide (((ents cs cb).length : Int) ≥ 24) = false := decide_eq_false (by rw [ents_len]; omega)
     clear hkb h h1 hnm hbad
     go_enter Try.func26, Try.ntmps26
     go_wp2_with fail
     refine HNM.out.mono ?_
     rintro e w1 ⟨rfl, hb⟩
     have HB := Lib.hid (below_step hA hb)
     have hkb1 := (hb.block _ hlt0).trans HKB.out
     have p3 : w1.cell? ⟨w.heap.size, 1, none⟩ = some (.int .u8 sd) := by rw [cell_of hkb1]; rfl
     have hp1 : w1.cell? ⟨g, 2, none⟩ = some (.map (some mb)) := by rw [cell_of (HT0.out.below HB.out).tb]; rfl
     have p2 : w1.cell? ⟨w.heap.size, 0, none⟩ = some (.string nm) := by rw [cell_of hkb1]; rfl
     have hT1 := HT0.out.below HB.out
     have hl : ∀ q, (Instr.lookup 91 (.map (some mb)) (.agg #[.string nm, .int .u8 sd]) true).run Try.prog (w1.drewN q) = .ok (.tuple #[.pointer none, .bool false]) (w1.drewN q) := fun q => look_none (hT1.below (pw_below_drewN (Below.refl _ _) q)) hn hs hf
     have hml : ∀ q ty, (Builtin.len_ #[91] ty #[.map (some mb)]).run Try.prog (w1.drewN q) = .ok (I (ents cs cb).length) (w1.drewN q) := fun q ty => map_len (hT1.below (pw_below_drewN (Below.refl _ _) q)).mp ty
     go_wp2_with fail
     go_quiet (fail)
     go_wp2_with fail
     have hTy := hT1.below (pw_below_drewN (Below.refl _ _) nq)
     have hBy : Below w.heap.size w (w1.drewN nq) := pw_below_drewN HB.out nq
     have k1 : (w1.drewN nq).drew.cell? ⟨g, 2, none⟩ = some (.map (some mb)) := hp1
     have k2 : (w1.drewN nq).drew.cell? ⟨w.heap.size, 0, none⟩ = some (.string nm) := p2
     have k3 : (w1.drewN nq).drew.cell? ⟨w.heap.size, 1, none⟩ = some (.int .u8 sd) := p3
     clear hl hml hp1 p2 p3 hT1
     generalize w1.drewN nq = y at hTy hBy k1 k2 k3 ⊢
     obtain ⟨m, hm, hm30⟩ := len_nat n e sd HN.out
     have HLEN : Hid (∀ W, IsT W g mb n e cs cb vb → Calls Try.prog 18 #[.pointer (some ⟨g, 0, none⟩), .int .u8 sd] W fun e_ w' => e_ = .returned (I m) ∧ w' = W) := Lib.hid fun W q => by
      have := len_ok g mb n e cs cb vb sd W q
      rw [hm] at this
      exact this
     have HMK := Lib.hid (make33 m (by omega))
     have hz1 : (len n e sd).toNat = m := by rw [hm]; rfl
     have HZ1 := Lib.hid hz1
     have HM1 := Lib.hid hm
     clear hz1 hm
     have hTd := hTy.below (below_drew (Below.refl y.heap.size y))
     have hB1 : Below y.heap.size y (y.alloc (.cells (Array.replicate m (I 0)) 33)) := (Below.refl _ _).alloc (Nat.le_refl _) _
     have hv1 : (y.alloc (.cells (Array.replicate m (I 0)) 33)).heap[y.heap.size]? = some (.cells (Array.replicate m (I 0)) 33 (0, 0)) := heap_alloc_new y _
     have hs1 : (y.alloc (.cells (Array.replicate m (I 0)) 33)).heap.size = y.heap.size + 1 := by simp
     obtain ⟨ya, hya⟩ : ∃ ya, ya = y.alloc (.cells (Array.replicate m (I 0)) 33) := ⟨_, rfl⟩
     rw [← hya] at hB1 hv1 hs1
     have hB2 : Below ya.heap.size ya (ya.alloc (.cells #[.int .u8 kd, .slice (some ⟨y.heap.size, 0, none⟩) m m] 79)).drew := below_drew ((Below.refl _ _).alloc (Nat.le_refl _) _)
     have hc2 : (ya.alloc (.cells #[.int .u8 kd, .slice (some ⟨y.heap.size, 0, none⟩) m m] 79)).drew.heap[y.heap.size + 1]? = some (.cells #[.int .u8 kd, .slice (some ⟨y.heap.size, 0, none⟩) m m] 79 (0, 0)) := by
      rw [← hs1]; exact heap_alloc_new ya _
     obtain ⟨yb, hyb⟩ : ∃ yb, yb = (ya.alloc (.cells #[.int .u8 kd, .slice (some ⟨y.heap.size, 0, none⟩) m m] 79)).drew := ⟨_, rfl⟩
     rw [← hyb] at hB2 hc2
     have hTb := (hTy.below hB1).below hB2
     obtain ⟨lk, hlk⟩ := key_ok nm sd hn (lit_u8 hs.1 hs.2)
     obtain ⟨yc, hup, hmp, hgr⟩ := update_new (val := .pointer (some ⟨y.heap.size + 1, 0, none⟩)) keyed Try.underlying91 hTb.mp hlk (fun p hp he => by
      obtain ⟨c, hc, hp1⟩ := ents_mem hp
      rw [hp1] at he
      exact find_none hf c hc (ke_inj he))
     have hmbl : mb < yb.heap.size := hTb.mp.lt
     have HEND := Lib.hid (show (∃ cb' vb', IsT yc g mb n e (cs ++ [⟨nm, sd, kd, List.replicate (len n e sd).toNat 0⟩]) cb' vb' ∧ (∀ i, i < cs.length → cb' i = cb i ∧ vb' i = vb i) ∧ ∀ i, cs.length ≤ i → i < (cs ++ [(⟨nm, sd, kd, List.replicate (len n e sd).toNat 0⟩ : Cl)]).length → w.heap.size ≤ vb' i) ∧ Fr w yc mb cs vb from by
      have hvb := (hB2.block _ (by omega)).trans hv1
      have hne1 : y.heap.size ≠ mb := by have := hTy.mp.lt; omega
      have hne2 : y.heap.size + 1 ≠ mb := by have := hTy.mp.lt; omega
      have hgY : y.grownBy yc (some mb) := grown_step (below_then hB1 hB1.size hB2) hgr
      refine ⟨⟨_, _, hTy.add ⟨nm, sd, kd, List.replicate (len n e sd).toNat 0⟩ (y.heap.size + 1) y.heap.size (cp := (List.replicate (len n e sd).toNat (0 : Int)).length) (ex := []) (Nat.le_refl _) ?_ ?_ hmp hgY (by omega) (Nat.le_refl _), fun i hi => ?_, fun i h1 h2 => ?_⟩, some mb, grown_step hBy hgY, fun k hk => .inl (by injection hk with hk; exact hk.symm)⟩
      ·rw [HZ1.out]
       simpa using grown_row hgr hc2 hne2
      ·rw [HZ1.out]
       simpa [List.map_replicate] using grown_row hgr hvb hne1
      ·simp only [if_neg (Nat.ne_of_lt hi)]
       exact ⟨trivial, trivial⟩
      ·simp only [List.length_append, List.length_singleton] at h2
       rw [if_pos (by omega)]
       exact hBy.size)
     clear hgr hmp hc2 hv1 hB1 hB2 hBy hTy
     refine start_ (n := 14) (S := fun w' => w'.cell? ⟨g, 2, none⟩ = some (.map (some mb)) ∧ w'.cell? ⟨w.heap.size, 0, none⟩ = some (.string nm) ∧ w'.cell? ⟨w.heap.size, 1, none⟩ = some (.int .u8 sd)) (ds := [13]) #[false,false,false,false,false,false,false,false,false,false,false,false,false,false] (by kernel_rfl) rfl rfl ⟨k1, k2, k3⟩ (fun hHeld => ?_)
     refine pure_ (i := 0) (N := some 50) (v := ?_) (a' := ?_) #[true,false,false,false,false,false,false,false,false,false,false,false,false,false] rfl rfl (by kernel_rfl) (fun _ _ _ h => h) (Or.inl ⟨by rfl, ?_⟩) ?_ ?_
     rotate_left
     ·intro w'
      go_simp
      with_reducible rfl
     rotate_left
     ·simp only [Act.put, List.setIfInBounds_toArray, List.set_cons_zero, List.set_cons_succ, i64_w, i32_w]
      rfl
     refine pure_ (i := 1) (N := some 51) (v := ?_) (a' := ?_) #[true,true,false,false,false,false,false,false,false,false,false,false,false,false] rfl rfl (by kernel_rfl) (fun _ _ _ h => h) (Or.inl ⟨by rfl, ?_⟩) ?_ ?_
     rotate_left
     ·intro w'
      go_simp
      with_reducible rfl
     rotate_left
     ·simp only [Act.put, List.setIfInBounds_toArray, List.set_cons_zero, List.set_cons_succ, i64_w, i32_w]
      rfl
     refine pure_ (i := 2) (N := some 52) (v := ?_) (a' := ?_) #[true,true,true,false,false,false,false,false,false,false,false,false,false,false] rfl rfl (by kernel_rfl) (fun _ _ _ h => h) (Or.inl ⟨by rfl, ?_⟩) ?_ ?_
     rotate_left
     ·intro w'
      go_simp
      with_reducible rfl
     rotate_left
     ·simp only [Act.put, List.setIfInBounds_toArray, List.set_cons_zero, List.set_cons_succ, i64_w, i32_w]
      rfl
     refine pure_ (i := 5) (N := some 55) (v := ?_) (a' := ?_) #[true,true,true,false,false,true,false,false,false,false,false,false,false,false] rfl rfl (by kernel_rfl) (fun _ _ _ h => h) (Or.inl ⟨by rfl, ?_⟩) ?_ ?_
     rotate_left
     ·intro w'
      go_simp
      with_reducible rfl
     rotate_left
     ·simp only [Act.put, List.setIfInBounds_toArray, List.set_cons_zero, List.set_cons_succ, i64_w, i32_w]
      rfl
     refine pure_ (i := 6) (N := some 56) (v := ?_) (a' := ?_) #[true,true,true,false,false,true,true,false,false,false,false,false,false,false] rfl rfl (by kernel_rfl) (fun _ _ _ h => h) (Or.inl ⟨by rfl, ?_⟩) ?_ ?_
     rotate_left
     ·intro w'
      go_simp
      with_reducible rfl
     rotate_left
     ·simp only [Act.put, List.setIfInBounds_toArray, List.set_cons_zero, List.set_cons_succ, i64_w, i32_w]
      rfl
     refine pure_ (i := 7) (N := some 57) (v := ?_) (a' := ?_) #[true,true,true,false,false,true,true,true,false,false,false,false,false,false] rfl rfl (by kernel_rfl) (fun _ _ _ h => h) (Or.inl ⟨by rfl, ?_⟩) ?_ ?_
     rotate_left
     ·intro w'
      go_simp
      with_reducible rfl
     rotate_left
     ·simp only [Act.put, List.setIfInBounds_toArray, List.set_cons_zero, List.set_cons_succ, i64_w, i32_w]
      rfl
     refine take_ (i := 3) (N := some 53) (v := ?_) (a' := ?_) #[true,true,true,true,false,true,true,true,false,false,false,false,false,false] rfl rfl (by kernel_rfl) (fun _ _ _ h => h) (Or.inl ⟨by rfl, ?_⟩) hHeld ?_ ?_
     rotate_left
     ·rintro w' ⟨s0, s1, s2⟩
      go_simp
      with_reducible rfl
     rotate_left
     ·simp only [Act.put, List.setIfInBounds_toArray, List.set_cons_zero, List.set_cons_succ, i64_w, i32_w]
      rfl
     refine take_ (i := 4) (N := some 54) (v := ?_) (a' := ?_) #[true,true,true,true,true,true,true,true,false,false,false,false,false,false] rfl rfl (by kernel_rfl) (fun _ _ _ h => h) (Or.inl ⟨by rfl, ?_⟩) hHeld ?_ ?_
     rotate_left
     ·rintro w' ⟨s0, s1, s2⟩
      go_simp
      with_reducible rfl
     rotate_left
     ·simp only [Act.put, List.setIfInBounds_toArray, List.set_cons_zero, List.set_cons_succ, i64_w, i32_w]
      rfl
     refine take_ (i := 8) (N := some 58) (v := ?_) (a' := ?_) #[true,true,true,true,true,true,true,true,true,false,false,false,false,false] rfl rfl (by kernel_rfl) (fun _ _ _ h => h) (Or.inl ⟨by rfl, ?_⟩) hHeld ?_ ?_
     rotate_left
     ·rintro w' ⟨s0, s1, s2⟩
      go_simp
      with_reducible rfl
     rotate_left
     ·simp only [Act.put, List.setIfInBounds_toArray, List.set_cons_zero, List.set_cons_succ, i64_w, i32_w]
      rfl
     refine one_ (i := 9) (N := some 59) #[true,true,true,true,true,true,true,true,true,true,false,false,false,false] rfl rfl (by kernel_rfl) (by decide) (fun K hK => ?_)
     refine goes_ Try.func18 (by kernel_rfl) rfl #[.pointer (some ⟨g, 0, none⟩), .int .u8 sd] (by rfl) rfl rfl (by simp only [List.map_toArray, List.map_cons, List.map_nil]; rfl) ?_
     with_reducible refine ((HLEN.out _ hTd)).mono ?_
     rintro e w9 ⟨rfl, rfl⟩
     refine ⟨_, rfl, ?_⟩
     refine hK.out _ _ ⟨k1, k2, k3⟩ (fun hHeld => ?_)
     clear hK K
     refine norm_ (a' := ?_) ?_ ?_
     rotate_left
     ·show Act.put _ (some 59) _ = _
      simp only [Act.put, List.setIfInBounds_toArray, List.set_cons_zero, List.set_cons_succ, i64_w, i32_w]
      rfl
     refine one_ (i := 10) (N := some 60) #[true,true,true,true,true,true,true,true,true,true,true,false,false,false] rfl rfl (by kernel_rfl) (by decide) (fun K hK => ?_)
     have hmk' := HMK.out y.drew
     refine value_ (w1 := ?_) (v := ?_) (by rfl) rfl ?_ ?_
     rotate_left 2
     ·go_simp
      constructor
      ·rfl
      ·rfl
     refine hK.out _ _ ⟨((below_alloc (Below.refl _ _) (.cells (List.replicate m (I 0)).toArray 33)).cell (World.block_lt_of_cell? _ _ (k1))).trans (k1), ((below_alloc (Below.refl _ _) (.cells (List.replicate m (I 0)).toArray 33)).cell (World.block_lt_of_cell? _ _ (k2))).trans (k2), ((below_alloc (Below.refl _ _) (.cells (List.replicate m (I 0)).toArray 33)).cell (World.block_lt_of_cell? _ _ (k3))).trans (k3)⟩ (fun hHeld => ?_)
     clear hK K
     refine norm_ (a' := ?_) ?_ ?_
     rotate_left
     ·show Act.put _ (some 60) _ = _
      simp only [Act.put, List.setIfInBounds_toArray, List.set_cons_zero, List.set_cons_succ, i64_w, i32_w]
      rfl
     refine pure_ (i := 11) (N := some 61) (v := ?_) (a' := ?_) #[true,true,true,true,true,true,true,true,true,true,true,true,false,false] rfl rfl (by kernel_rfl) (fun _ _ _ h => h) (Or.inl ⟨by rfl, ?_⟩) ?_ ?_
     rotate_left
     ·intro w'
      go_simp
      with_reducible rfl
     rotate_left
     ·simp only [Act.put, List.setIfInBounds_toArray, List.set_cons_zero, List.set_cons_succ, i64_w, i32_w]
      rfl
     refine one_ (i := 12) (N := some 62) #[true,true,true,true,true,true,true,true,true,true,true,true,true,false] rfl rfl (by kernel_rfl) (by decide) (fun K hK => ?_)
     refine value_ (w1 := ?_) (v := ?_) (by rfl) rfl ?_ ?_
     rotate_left 2
     ·go_simp
      constructor
      ·rfl
      ·rfl
     refine hK.out _ _ ⟨((below_alloc (Below.refl _ _) (.cells #[.int .u8 kd, .slice (some ⟨y.drew.heap.size, 0, none⟩) m m] 79)).cell (World.block_lt_of_cell? _ _ (((below_alloc (Below.refl _ _) (.cells (List.replicate m (I 0)).toArray 33)).cell (World.block_lt_of_cell? _ _ (k1))).trans (k1)))).trans (((below_alloc (Below.refl _ _) (.cells (List.replicate m (I 0)).toArray 33)).cell (World.block_lt_of_cell? _ _ (k1))).trans (k1)), ((below_alloc (Below.refl _ _) (.cells #[.int .u8 kd, .slice (some ⟨y.drew.heap.size, 0, none⟩) m m] 79)).cell (World.block_lt_of_cell? _ _ (((below_alloc (Below.refl _ _) (.cells (List.replicate m (I 0)).toArray 33)).cell (World.block_lt_of_cell? _ _ (k2))).trans (k2)))).trans (((below_alloc (Below.refl _ _) (.cells (List.replicate m (I 0)).toArray 33)).cell (World.block_lt_of_cell? _ _ (k2))).trans (k2)), ((below_alloc (Below.refl _ _) (.cells #[.int .u8 kd, .slice (some ⟨y.drew.heap.size, 0, none⟩) m m] 79)).cell (World.block_lt_of_cell? _ _ (((below_alloc (Below.refl _ _) (.cells (List.replicate m (I 0)).toArray 33)).cell (World.block_lt_of_cell? _ _ (k3))).trans (k3)))).trans (((below_alloc (Below.refl _ _) (.cells (List.replicate m (I 0)).toArray 33)).cell (World.block_lt_of_cell? _ _ (k3))).trans (k3))⟩ (fun hHeld => ?_)
     clear hK K
     refine norm_ (a' := ?_) ?_ ?_
     rotate_left
     ·show Act.put _ (some 62) _ = _
      simp only [Act.put, List.setIfInBounds_toArray, List.set_cons_zero, List.set_cons_succ, i64_w, i32_w]
      rfl
     refine last_ (i := 13) (N := none) #[true,true,true,true,true,true,true,true,true,true,true,true,true,true] rfl rfl (by kernel_rfl) (by decide) (fun K hK => ?_)
     subst hya
     subst hyb
     refine mapupd_step (.tmp 53) (.tmp 54) (.tmp 62) (by rfl) rfl rfl rfl rfl rfl hup ?_
     refine hK.out _ _ ?_
     clear hK K
     refine done_ (by kernel_rfl) ?_

     go_wp2_with fail
     go_ret
     exact ⟨rfl, HEND.out⟩
end Go.Proofs.Ytpcjppefopjngaa.C
end
