/- The walks of graph beside the document's: do both tell the same? -/
import Derived.Test.YtkpaefeaplgnmaaGraphQ
set_option linter.unusedSimpArgs false
set_option linter.unusedVariables false
namespace Go.Proofs.Ytkpaefeaplgnmaa.G
open Go.RowKit Go.Proofs.Ytkpaefeaplgnmaa.PA Go.Proofs.Ytkpaefeaplgnmaa.Mp Go.Proofs.YtkpaefeaplgnmaaW.PrintWords Go.Proofs.YtkpaefeaplgnmaaW.PrintLast Go.Proofs.YtkpaefeaplgnmaaW.PrintMore
section
variable {w0 w w' : World} {b : Bool} {A B : Option Addr} {n gr : Nat} {l : List S53}
theorem tell_0 (h : St w0 w false A B n l gr) {e : Ending} (q : e = .returned (.slice none 0 0) ∧ w' = w) : Tell w0 w false A B n l gr [] e w' := by
  obtain ⟨rfl, rfl⟩ := q
  exact ⟨_, rfl, Kd.R_nil _ _ _ _ _, h, .of_below (Below.refl _ _)⟩
theorem say_0 (h : St w0 w false A B n l gr) {x : Value} {e : Ending} (q : e = .returned x ∧ w' = w) : Say w0 w false A B n l gr x e w' := by
  obtain ⟨rfl, rfl⟩ := q
  exact ⟨rfl, h, .of_below (Below.refl _ _)⟩
theorem rOut (h : St w0 w b A B n l gr) (v : Int) : Calls Try.prog 44 #[.pointer B, .int .i64 v] w (Tell w0 w b A B n l gr (outs b n l v)) := by
  cases b with
  | false =>
    rw [show outs false n l v = [] by simp [outs]]
    have hB := (h.no rfl).2
    rw [hB] at h ⊢
    exact (rOut0 v w).mono fun _ _ q => tell_0 h q
  | true =>
    obtain ⟨g, h1, h2, h3, h4⟩ := h.yes rfl
    obtain ⟨f1, f2, f3, f4⟩ := h.inb
    obtain ⟨k, hk⟩ := out_f l n v f1 f2
    rw [h2] at h ⊢
    exact (reticuleref03_Graph_Out.calls k gr n l v _ _ w0 w h4 h.bl (hk k (Nat.le_refl _))).mono fun _ _ q => tell_r h q
theorem rIn (h : St w0 w b A B n l gr) (v : Int) : Calls Try.prog 45 #[.pointer B, .int .i64 v] w (Tell w0 w b A B n l gr (ins b n l v)) := by
  cases b with
  | false =>
    rw [show ins false n l v = [] by simp [ins]]
    have hB := (h.no rfl).2
    rw [hB] at h ⊢
    exact (rIn0 v w).mono fun _ _ q => tell_0 h q
  | true =>
    obtain ⟨g, h1, h2, h3, h4⟩ := h.yes rfl
    obtain ⟨f1, f2, f3, f4⟩ := h.inb
    obtain ⟨k, hk⟩ := in_f l n v f1 f2
    rw [h2] at h ⊢
    exact (reticuleref03_Graph_In.calls k gr n l v _ _ w0 w h4 h.bl (hk k (Nat.le_refl _))).mono fun _ _ q => tell_r h q
theorem rLev (h : St w0 w b A B n l gr) (v : Int) : Calls Try.prog 48 #[.pointer B, .int .i64 v] w (Tell w0 w b A B n l gr (levs b n l v)) := by
  cases b with
  | false =>
    rw [show levs false n l v = [] by simp [levs]]
    have hB := (h.no rfl).2
    rw [hB] at h ⊢
    exact (rLev0 v w).mono fun _ _ q => tell_0 h q
  | true =>
    obtain ⟨g, h1, h2, h3, h4⟩ := h.yes rfl
    obtain ⟨f1, f2, f3, f4⟩ := h.inb
    obtain ⟨k, hk⟩ := levels_f l n v f1 f2 f3 f4
    rw [h2] at h ⊢
    exact (reticuleref03_Graph_Levels.calls k gr n l v _ _ w0 w h4 h.bl hk).mono fun _ _ q => tell_r h q
theorem rBet (h : St w0 w b A B n l gr) (x y : Int) : Calls Try.prog 50 #[.pointer B, .int .i64 x, .int .i64 y] w (Tell w0 w b A B n l gr (betw b l x y)) := by
  cases b with
  | false =>
    rw [show betw false l x y = [] by simp [betw]]
    have hB := (h.no rfl).2
    rw [hB] at h ⊢
    exact (rBet0 x y w).mono fun _ _ q => tell_0 h q
  | true =>
    obtain ⟨g, h1, h2, h3, h4⟩ := h.yes rfl
    obtain ⟨f1, f2, f3, f4⟩ := h.inb
    obtain ⟨k, hk⟩ := between_f l n x y f2
    rw [h2] at h ⊢
    exact (reticuleref03_Graph_Between.calls k gr n l x y _ _ w0 w h4 h.bl hk).mono fun _ _ q => tell_r h q
theorem rDeg (h : St w0 w b A B n l gr) (v : Int) (i : Bool) : Calls Try.prog 47 #[.pointer B, .int .i64 v, .bool i] w (Say w0 w b A B n l gr (.int .i64 (degs b n l v i))) := by
  cases b with
  | false =>
    rw [show degs false n l v i = 0 by simp [degs, ins, outs]]
    have hB := (h.no rfl).2
    rw [hB] at h ⊢
    exact (rDeg0 v i w).mono fun _ _ q => say_0 h q
  | true =>
    obtain ⟨g, h1, h2, h3, h4⟩ := h.yes rfl
    obtain ⟨f1, f2, f3, f4⟩ := h.inb
    obtain ⟨k, hk⟩ := degree_f l n v i f1 f2
    rw [h2] at h ⊢
    exact (reticuleref03_Graph_Degree.calls k gr n l v i _ _ w0 w h4 h.bl hk).mono fun _ _ q => say_r h q
theorem rEdge (h : St w0 w b A B n l gr) (i : Int) : Calls Try.prog 52 #[.pointer B, .int .i64 i] w (Say w0 w b A B n l gr (.tuple #[.agg #[.int .i64 (edge b l i).1.f0, .int .i64 (edge b l i).1.f1], .bool (edge b l i).2])) := by
  cases b with
  | false =>
    rw [show edge false l i = (⟨0, 0⟩, false) by simp [edge]]
    have hB := (h.no rfl).2
    rw [hB] at h ⊢
    exact (rEdge0 i w).mono fun _ _ q => say_p h q
  | true =>
    obtain ⟨g, h1, h2, h3, h4⟩ := h.yes rfl
    rw [h2] at h ⊢
    exact (reticuleref03_Graph_Edge.calls gr n l i _ _ _ _ w0 w h4 h.bl (edge_f l n i)).mono fun _ _ q => say_r h q
theorem rN (h : St w0 w b A B n l gr) : Calls Try.prog 54 #[.pointer B] w (Say w0 w b A B n l gr (.int .i64 (nB b n))) := by
  cases b with
  | false =>
    have hB := (h.no rfl).2
    rw [hB] at h ⊢
    exact (rN0 w).mono fun _ _ q => say_0 h q
  | true =>
    obtain ⟨g, h1, h2, h3, h4⟩ := h.yes rfl
    rw [h2] at h ⊢
    exact (reticuleref03_Graph_N.calls gr n l _ _ w0 w h4 h.bl rfl).mono fun _ _ q => say_r h q
theorem rM (h : St w0 w b A B n l gr) : Calls Try.prog 55 #[.pointer B] w (Say w0 w b A B n l gr (.int .i64 (nB b l.length))) := by
  cases b with
  | false =>
    have hB := (h.no rfl).2
    rw [hB] at h ⊢
    exact (rM0 w).mono fun _ _ q => say_0 h q
  | true =>
    obtain ⟨g, h1, h2, h3, h4⟩ := h.yes rfl
    rw [h2] at h ⊢
    exact (reticuleref03_Graph_M.calls gr n l _ _ w0 w h4 h.bl rfl).mono fun _ _ q => say_r h q
theorem rRows (h : St w0 w b A B n l gr) : Calls Try.prog 53 #[.pointer B] w (Tell2 w0 w b A B n l gr (rowsB b n l) (colsB b n l)) := by
  cases b with
  | false =>
    have hB := (h.no rfl).2
    rw [hB] at h ⊢
    refine (rRows0 w).mono ?_
    rintro e w' ⟨rfl, rfl⟩
    exact ⟨_, _, rfl, Kd.R_nil _ _ _ _ _, Kd.R_nil _ _ _ _ _, h, .of_below (Below.refl _ _)⟩
  | true =>
    obtain ⟨g, h1, h2, h3, h4⟩ := h.yes rfl
    obtain ⟨f1, f2, f3, f4⟩ := h.inb
    obtain ⟨k, hk⟩ := rows_f l n f1 f2 f4
    rw [h2] at h ⊢
    refine (reticuleref03_Graph_Rows.calls k gr n l _ _ _ w0 w h4 h.bl hk).mono ?_
    rintro e w' ⟨x, y, rfl, hx, hy, hi, hb, hkp⟩
    exact ⟨x, y, rfl, R_new (Kd.R_mono hx (fun _ _ => trivial)) h.lt, R_new (Kd.R_mono hy (fun _ _ => trivial)) h.lt, h.ref hi hb hkp, .of_keep hkp⟩
/-- Two lists that are the same. -/
theorem sameI {ok ok' : Nat → Prop} {x y : Value} {xs : List Int} {base base' : Nat} (hx : Kd.R (Kd.int .i64) 3 w base ok x xs) (hy : Kd.R (Kd.int .i64) 3 w base' ok' y xs) : Calls Try.prog 17 #[x, y] w fun e w' => e = .returned (.bool true) ∧ Below w.heap.size w w' := by
  obtain ⟨A1, c1, rfl, hc1, h1⟩ := C_of_R (d := Kd.int .i64) (Kd.R_mono hx (fun _ _ => trivial))
  obtain ⟨A2, c2, rfl, hc2, h2⟩ := C_of_R (d := Kd.int .i64) (Kd.R_mono hy (fun _ _ => trivial))
  obtain ⟨q, hq⟩ := same_ints xs xs (by have := h1.2.1; omega)
  refine (reticuleref01_SameInts.calls q A1 c1 xs A2 c2 xs true w h1 hc1 h2 hc2 (by simpa using hq)).mono ?_
  rintro e w' ⟨rfl, hd⟩
  exact ⟨rfl, hd.below⟩
end
end Go.Proofs.Ytkpaefeaplgnmaa.G
