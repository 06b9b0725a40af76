/- The walks of graph: what must be whatever is asked. -/
import Derived.Test.YtkpaefeaplgnmaaGraphM
set_option linter.unusedSimpArgs false
set_option linter.unusedVariables false
namespace Go.Proofs.Ytkpaefeaplgnmaa.G
open Go.RowKit Go.Proofs.Ytkpaefeaplgnmaa.PA Go.Proofs.Ytkpaefeaplgnmaa.Mp Go.Proofs.YtkpaefeaplgnmaaW.PrintWords Go.Proofs.YtkpaefeaplgnmaaW.PrintLast Go.Proofs.YtkpaefeaplgnmaaW.PrintMore

/-- Edges' cells. -/
def flat (l : List S53) : List Value := l.flatMap fun e => [I e.f0, I e.f1]
theorem flat_get (l : List S53) : ∀ (j : Nat) (e : S53), l[j]? = some e → (flat l)[j * 2]? = some (I e.f0) ∧ (flat l)[j * 2 + 1]? = some (I e.f1) := by
  induction l with
  | nil => intro j e h; simp at h
  | cons a l ih =>
    intro j e h
    have hf : flat (a :: l) = I a.f0 :: I a.f1 :: flat l := rfl
    rw [hf]
    cases j with
    | zero => simp at h; subst h; exact ⟨rfl, rfl⟩
    | succ j =>
      have := ih j e (by simpa using h)
      rw [show (j + 1) * 2 = j * 2 + 1 + 1 from by omega]
      simpa using this
/-- Edges that have been laid. -/
theorem C_edges {W : World} {B : Nat} {l : List S53} (h : W.heap[B]? = some (.cells (flat l).toArray 53 (0, 0))) (hl : l.length ≤ 1000) : Kd.C k53 W (some ⟨B, 0, none⟩) l.length l := by
  refine ⟨rfl, by omega, fun _ => ⟨⟨B, 0, none⟩, rfl, fun j e he => ⟨[I e.f0, I e.f1], rfl, k53_mk W e, fun i u hu => ?_⟩⟩⟩
  obtain ⟨h1, h2⟩ := flat_get l j e he
  rw [show k53.sz = 2 from rfl, add_plain, cell_of h, List.getElem?_toArray]
  cases i with
  | zero => simp at hu; subst hu; exact h1
  | succ i =>
    cases i with
    | zero => simp at hu; subst hu; exact h2
    | succ i => simp at hu

def le3 : List S53 := [⟨0, 1⟩, ⟨0, 1⟩, ⟨1, 2⟩]
def le2 : List S53 := [⟨0, 1⟩, ⟨2, 0⟩]
theorem chk3 : chk (3 : Nat) le3 = (0, 0) := by decide +kernel
theorem chk2 : chk 2 le2 = (1, 11) := by decide +kernel
theorem fits3 : Fits 3 le3 := ⟨by decide, by decide, by decide, by decide⟩
theorem lev3 : levs true 3 le3 0 = [0, 1, 2] := by decide +kernel
theorem out3 : outs true 3 le3 0 = [0, 1] := by decide +kernel
set_option maxHeartbeats 4000000 in
theorem live_ok (w : World) : Calls Try.prog 12 #[] w fun e w' => e = .returned (.bool true) ∧ Below w.heap.size w w' := by
  go_enter Try.func12, Try.ntmps12
  go_wp2_with fail
  refine (new_ok 3 (some ⟨w.heap.size, 0, none⟩) 3 le3 _ (C_edges (World.alloc_heap_new w _) (by decide)) fits3 chk3).mono ?_
  rintro e w1 ⟨g, rfl, hg, hi, hb⟩
  have HI := Lib.hid hi
  have HB := Lib.hid (below_step ((Below.refl _ w).alloc (Nat.le_refl _) _) hb)
  clear hg hi hb
  go_wp2_with fail
  refine (levels_any true _ 3 le3 0 _ ⟨g, rfl, HI.out⟩ (fun _ => fits3)).mono ?_
  rintro e w2 ⟨x, rfl, hx, hb⟩
  rw [lev3] at hx
  obtain ⟨A, c, rfl, hc, hC⟩ := C_of_R hx
  have HC := Lib.hid hC
  have HI2 := Lib.hid (HI.out.below hb)
  have HB2 := Lib.hid (below_step HB.out hb)
  clear hx hb hC HI HB
  go_wp2_with fail
  refine (check_ok 2 (some ⟨w2.heap.size, 0, none⟩) 2 le2 _ (C_edges (World.alloc_heap_new w2 _) (by decide)) (by decide)).mono ?_
  rintro e w3 ⟨rfl, hb⟩
  have hb3 := below_step ((Below.refl _ w2).alloc (Nat.le_refl _) (.cells (flat le2).toArray 53 (0, 0))) hb
  have HC3 := Lib.hid (Kd.C_below HC.out hb3)
  have HI3 := Lib.hid (HI2.out.below hb3)
  have HB3 := Lib.hid (below_step HB2.out hb3)
  clear hb hb3 HC HI2 HB2
  rw [chk2]
  go_wp2_with fail
  refine (n_ok g 3 le3 _ HI3.out).mono ?_
  rintro e w4 ⟨rfl, hb⟩
  have HC4 := Lib.hid (Kd.C_below HC3.out hb)
  have HI4 := Lib.hid (HI3.out.below hb)
  have HB4 := Lib.hid (below_step HB3.out hb)
  clear hb HC3 HI3 HB3
  go_wp2_with fail
  refine (m_ok g 3 le3 _ HI4.out).mono ?_
  rintro e w5 ⟨he, hb⟩
  have he' : e = .returned (.int .i64 3) := he
  subst he'
  clear he
  have HC5 := Lib.hid (Kd.C_below HC4.out hb)
  have HI5 := Lib.hid (HI4.out.below hb)
  have HB5 := Lib.hid (below_step HB4.out hb)
  clear hb HC4 HI4 HB4
  go_wp2_with fail
  refine (out_ok true _ 3 le3 0 _ ⟨g, rfl, HI5.out⟩ (by decide)).mono ?_
  rintro e w6 ⟨y, rfl, hy, hb⟩
  rw [out3] at hy
  obtain ⟨A6, c6, rfl, hc6, _⟩ := C_of_R hy
  have hC6 := Kd.C_below HC5.out hb
  have HB6 := Lib.hid (below_step HB5.out hb)
  obtain ⟨ad, rfl, q⟩ := int_at hC6 (i := 2) (by decide)
  have q' : w6.cell? ⟨ad.block, ad.off + 2, none⟩ = some (.int .i64 2) := by
    rw [← show ad.add 2 = ⟨ad.block, ad.off + 2, none⟩ from by unfold Addr.add; rw [if_neg (by decide)]]
    exact q
  clear hb HC5 HI5 HB5 hy hC6 q
  go_wp2
  go_ret
  exact ⟨rfl, HB6.out⟩
end Go.Proofs.Ytkpaefeaplgnmaa.G
