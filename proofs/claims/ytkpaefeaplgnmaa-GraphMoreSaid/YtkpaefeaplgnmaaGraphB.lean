/- The walks of graph: copies. -/
import Derived.Test.YtkpaefeaplgnmaaGraphA
import Derived.Lib.SliceRun
set_option linter.unusedSimpArgs false
set_option linter.unusedVariables false
namespace Go.Proofs.Ytkpaefeaplgnmaa.G
open Go.RowKit Go.Proofs.Ytkpaefeaplgnmaa.PA Go.Proofs.YtkpaefeaplgnmaaW.PrintWords Go.Proofs.YtkpaefeaplgnmaaW.PrintLast Go.Proofs.YtkpaefeaplgnmaaW.PrintMore

theorem own_empty (w : World) (b e s : Nat) (hb : b ≤ w.heap.size) : (w.alloc (.cells #[] e (0, 0))).ownsRow b e s (.slice (some ⟨w.heap.size, 0, none⟩) 0 0) 0 [] :=
 ⟨by simp, Or.inr ⟨w.heap.size, 0, #[], rfl, hb, by show (w.heap.push _)[w.heap.size]? = _; simp, Nat.le_refl _, by simp [maxLen], by simp, by simp⟩⟩
theorem R_empty {α : Type} (d : Kd α) (e : Nat) (w : World) (b : Nat) (hb : b ≤ w.heap.size) : Kd.R d e (w.alloc (.cells #[] e (0, 0))) b (fun _ => True) (.slice (some ⟨w.heap.size, 0, none⟩) 0 0) [] :=
 ⟨fun _ _ => trivial, [], own_empty w b e d.sz hb, Reps.none _ _⟩
theorem info53 : (Try.prog.info? 53).map (fun i => (i.zero, i.size, i.bytes)) = some (some (.agg #[.int .i64 0, .int .i64 0]), 2, 16) := by kernel_rfl
theorem info3 : (Try.prog.info? 3).map (fun i => (i.zero, i.size, i.bytes)) = some (some (.int .i64 0), 1, 8) := by kernel_rfl

/-- A slice that is told: nil, or the same read elsewhere. -/
def Told {α : Type} (d : Kd α) (e : Nat) (w : World) (base : Nat) (v : Value) (l : List α) : Prop := Kd.R d e w base (fun _ => True) v l

set_option maxHeartbeats 2000000 in
theorem cloneE (A : Option Addr) (c : Nat) (l : List S53) (w : World) (hr : Kd.C k53 w A l.length l) (hl : l.length * 16 ≤ 140737488355328) :
  Calls Try.prog 38 #[.slice A l.length c] w fun e w' => ∃ v, e = .returned v ∧ Kd.R k53 53 w' w.heap.size (fun _ => True) v l ∧ Below w.heap.size w w' := by
 cases A with
 | none =>
  have h0 : l = [] := by
   rcases Nat.eq_zero_or_pos l.length with h | h
   ·exact List.length_eq_zero_iff.1 h
   ·obtain ⟨_, e, _⟩ := hr.2.2 h; cases e
  subst h0
  clear hr hl
  have hq : ∀ (W : World) (a : Option Addr) (n c n' c' : Nat), (binOp .eql 22 (.slice a n c) (.slice none n' c')).run Try.prog W = .ok (.bool a.isNone) W := fun W a n c n' c' => Lib.run_eql_slice_nil W _ _ a n c n' c' Try.underlying22
  go_enter Try.func38, Try.ntmps38
  go_wp2
  go_ret
  exact ⟨_, rfl, Kd.R_nil _ _ _ _ _, Below.refl _ _⟩
 | some ad =>
  have HR := Lib.hid hr
  clear hr
  have hq : ∀ (W : World) (a : Option Addr) (n c n' c' : Nat), (binOp .eql 22 (.slice a n c) (.slice none n' c')).run Try.prog W = .ok (.bool a.isNone) W := fun W a n c n' c' => Lib.run_eql_slice_nil W _ _ a n c n' c' Try.underlying22
  go_enter Try.func38, Try.ntmps38
  go_wp2_with (at_builtin; refine Kd.R_append_rows k53 (Rr := k53.K (w.alloc (.cells #[] 53))) (w0 := w) w.heap.size rfl (.tmp 5) (.tmp 6) 22 53 _ 16 rfl Try.underlying22 info53 rfl (by decide) (by decide) (.slice (some ⟨w.heap.size, 0, none⟩) 0 0) [] l (some ad) l.length c (fun _ => True) (fun _ => False) rfl rfl (R_empty k53 53 w w.heap.size (Nat.le_refl _)) ?c1 ?c2 (fun k h => h.elim) (fun _ _ => trivial) ((Below.refl _ _).alloc (Nat.le_refl _) _) (by simp) ?c3 ?_; (case c1 => exact Kd.C_below HR.out ((Below.refl _ _).alloc (Nat.le_refl _) _)); (case c2 => (intro x cs h; rw [k53_open h]; exact k53_mkM _ _ _ _)); (case c3 => simpa using hl); intro v1 w1 h1 hb1 _ _; rw [List.nil_append] at h1; have H1 := Lib.hid h1; have HB1 := Lib.hid hb1; clear h1 hb1)
  go_ret
  exact ⟨_, rfl, H1.out, HB1.out⟩

set_option maxHeartbeats 2000000 in
theorem cloneI (A : Option Addr) (c : Nat) (l : List Int) (w : World) (hr : Kd.C (Kd.int .i64) w A l.length l) (hl : l.length * 8 ≤ 140737488355328) :
  Calls Try.prog 40 #[.slice A l.length c] w fun e w' => ∃ v, e = .returned v ∧ Kd.R (Kd.int .i64) 3 w' w.heap.size (fun _ => True) v l ∧ Below w.heap.size w w' := by
 cases A with
 | none =>
  have h0 : l = [] := by
   rcases Nat.eq_zero_or_pos l.length with h | h
   ·exact List.length_eq_zero_iff.1 h
   ·obtain ⟨_, e, _⟩ := hr.2.2 h; cases e
  subst h0
  clear hr hl
  have hq : ∀ (W : World) (a : Option Addr) (n c n' c' : Nat), (binOp .eql 27 (.slice a n c) (.slice none n' c')).run Try.prog W = .ok (.bool a.isNone) W := fun W a n c n' c' => Lib.run_eql_slice_nil W _ _ a n c n' c' Try.underlying27
  go_enter Try.func40, Try.ntmps40
  go_wp2
  go_ret
  exact ⟨_, rfl, Kd.R_nil _ _ _ _ _, Below.refl _ _⟩
 | some ad =>
  have HR := Lib.hid hr
  clear hr
  have hq : ∀ (W : World) (a : Option Addr) (n c n' c' : Nat), (binOp .eql 27 (.slice a n c) (.slice none n' c')).run Try.prog W = .ok (.bool a.isNone) W := fun W a n c n' c' => Lib.run_eql_slice_nil W _ _ a n c n' c' Try.underlying27
  go_enter Try.func40, Try.ntmps40
  go_wp2_with (at_builtin; refine Kd.R_append_rows (Kd.int .i64) (Rr := (Kd.int .i64).K (w.alloc (.cells #[] 3))) (w0 := w) w.heap.size rfl (.tmp 5) (.tmp 6) 27 3 _ 8 rfl Try.underlying27 info3 rfl (by decide) (by decide) (.slice (some ⟨w.heap.size, 0, none⟩) 0 0) [] l (some ad) l.length c (fun _ => True) (fun _ => False) rfl rfl (R_empty (Kd.int .i64) 3 w w.heap.size (Nat.le_refl _)) ?c1 ?c2 (fun k h => h.elim) (fun _ _ => trivial) ((Below.refl _ _).alloc (Nat.le_refl _) _) (by simp) ?c3 ?_; (case c1 => exact Kd.C_below HR.out ((Below.refl _ _).alloc (Nat.le_refl _) _)); (case c2 => (intro x cs h; exact h)); (case c3 => simpa using hl); intro v1 w1 h1 hb1 _ _; rw [List.nil_append] at h1; have H1 := Lib.hid h1; have HB1 := Lib.hid hb1; clear h1 hb1)
  go_ret
  exact ⟨_, rfl, H1.out, HB1.out⟩
end Go.Proofs.Ytkpaefeaplgnmaa.G
