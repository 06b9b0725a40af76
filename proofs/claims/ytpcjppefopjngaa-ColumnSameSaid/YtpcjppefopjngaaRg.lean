/- The document's columns: Declare. -/
import Derived.Test.YtpcjppefopjngaaRz
set_option linter.unusedSimpArgs false
set_option linter.unusedVariables false
namespace Go.Proofs.Ytpcjppefopjngaa.C
open Go.RowKit Go.Proofs.Ytpcjppefopjngaa.Sk Go.Proofs.Ytpcjppefopjngaa.PA Go.Proofs.Ytpcjppefopjngaa.Mp Go.Proofs.YtpcjppefopjngaaW.PrintWords Go.Proofs.YtpcjppefopjngaaW.PrintLast Go.Proofs.YtpcjppefopjngaaW.PrintMore
theorem bt_byte (s : ByteArray) (i : Nat) : bt s (i : Int) = (byte s i : Int) := by
 unfold bt byte
 by_cases h : i < s.size <;> simp [h]
theorem name_l0 (s : ByteArray) (hs : s.size ≤ 8) : ∀ (k i : Nat), s.size - i < k → i ≤ s.size → (∀ j, j < i → gd j (byte s j) = true) → reticuleref04_Name.l0 k s (i : Int) = some (good s)
 | 0, _, h, _, _ => by omega
 | k + 1, i, hk, hi, hg => by
  by_cases hlt : i < s.size
  ·have hw : wrap64 ((i : Int) + 1) = ((i + 1 : Nat) : Int) := by unfold wrap64; omega
   have hb := bt_byte s i
   have ih := fun (q : gd i (byte s i) = true) => name_l0 s hs k (i + 1) (by omega) (by omega) (fun j hj => by
    by_cases e : j < i
    ·exact hg j e
    ·obtain rfl : j = i := by omega
     exact q)
   have hbad := fun q => good_bad (s := s) hlt q
   have hi2 : (i : Int) < (s.size : Int) := by omega
   have h0 : (0 : Int) ≤ (i : Int) := by omega
   rw [reticuleref04_Name.l0, if_pos hi2, if_pos h0, hb, hw]
   unfold gd at ih hbad
   generalize byte s i = b at ih hbad
   by_cases h1 : 97 ≤ b
   ·rw [if_pos (show (b : Int) ≥ 97 by omega), if_pos (show (b : Int) ≥ 48 by omega)]
    by_cases h2 : b ≤ 122
    ·rw [if_pos (show (b : Int) ≤ 122 by omega)]
     exact ih (by simp only [Bool.or_eq_true, decide_eq_true_eq]; omega)
    ·rw [if_neg (show ¬ (b : Int) ≤ 122 by omega), if_neg (show ¬ (b : Int) ≤ 57 by omega), hbad (by simp only [Bool.or_eq_false_iff, decide_eq_false_iff_not]; omega)]
   ·rw [if_neg (show ¬ (b : Int) ≥ 97 by omega)]
    by_cases h3 : 48 ≤ b
    ·rw [if_pos (show (b : Int) ≥ 48 by omega)]
     by_cases h4 : b ≤ 57
     ·rw [if_pos (show (b : Int) ≤ 57 by omega)]
      by_cases h5 : i = 0
      ·rw [if_pos (show (i : Int) = 0 by omega), hbad (by simp only [Bool.or_eq_false_iff, decide_eq_false_iff_not]; omega)]
      ·rw [if_neg (show ¬ (i : Int) = 0 by omega)]
       exact ih (by simp only [Bool.or_eq_true, decide_eq_true_eq]; omega)
     ·rw [if_neg (show ¬ (b : Int) ≤ 57 by omega), hbad (by simp only [Bool.or_eq_false_iff, decide_eq_false_iff_not]; omega)]
    ·rw [if_neg (show ¬ (b : Int) ≥ 48 by omega), hbad (by simp only [Bool.or_eq_false_iff, decide_eq_false_iff_not]; omega)]
  ·rw [reticuleref04_Name.l0, if_neg (by omega), good_all (fun j hj => hg j (by omega))]
theorem rname_f (s : ByteArray) : reticuleref04_Name.f 20 s = some (nmok s) := by
 unfold reticuleref04_Name.f nmok
 by_cases h1 : (s.size : Int) < 1
 ·rw [if_pos h1, reticuleref04_Name.j0, if_pos rfl, decide_eq_false (by omega)]
  rfl
 ·rw [if_neg h1, reticuleref04_Name.j0]
  by_cases h2 : (s.size : Int) > 8
  ·rw [decide_eq_true h2, if_pos rfl, decide_eq_false (by omega)]
   rfl
  ·rw [decide_eq_false h2, if_neg (by simp), decide_eq_true (by omega), Bool.true_and]
   exact name_l0 s (by omega) 19 0 (by omega) (by omega) (fun j hj => absurd hj (by omega))
theorem before_f (x y : S25) : reticuleref04_before.f x.f0 x.f1 y.f0 y.f1 = some (decide (klt x y)) := by
 unfold reticuleref04_before.f klt
 by_cases h1 : x.f1 < y.f1
 ·simp [h1]
 ·by_cases h2 : x.f1 = y.f1
  ·rw [if_neg h1, if_pos h2, bytesLess_eq]
   simp [h1, h2]
  ·rw [if_neg h1, if_neg h2]
   simp [h1, h2]
/-- A column comes to its place. -/
def insk (cs : List Cl) (x : Cl) : List Cl := cs.takeWhile (fun c => decide (klt c.k25 x.k25)) ++ x :: cs.dropWhile (fun c => decide (klt c.k25 x.k25))
def rdeclv (n e : Int) (cs : List Cl) (nm : ByteArray) (sd kd : Int) : Int × List Cl :=
 if nmok nm = false then (3, cs) else if sd < 1 ∨ 3 < sd ∨ kd < 1 ∨ 2 < kd then (2, cs) else if (find cs nm sd).isSome then (6, cs) else if 24 ≤ cs.length then (4, cs) else (0, insk cs ⟨nm, sd, kd, List.replicate (len n e sd).toNat 0⟩)
theorem tw_at {α : Type} {f : α → Bool} : ∀ {l : List α} {i : Nat}, i ≤ l.length → (∀ j a, l[j]? = some a → j < i → f a = true) → (∀ a, l[i]? = some a → f a = false) → l.takeWhile f = l.take i ∧ l.dropWhile f = l.drop i
 | [], i, h, _, _ => by simp
 | a :: l, 0, _, _, h2 => by simp [h2 a rfl]
 | a :: l, i + 1, h, h1, h2 => by
  have ha := h1 0 a rfl (by omega)
  have := tw_at (l := l) (i := i) (by simpa using h) (fun j b hj hji => h1 (j + 1) b (by simpa using hj) (by omega)) (fun b hb => h2 b (by simpa using hb))
  simp [ha, this]
theorem mk33_step {ops : Array Oper} {Q : Exit → Act → World → Prop} {o : Oper} {N : Option Tmp} {a : Act} {w : World} {K : Act → World → Prop} {x y : Operand} (m : Nat) (hm : m ≤ 1000) (hw : Region.wanted o (yielded ops a.tmps) = true) (hN : o.dst = N) (hop : o.op = .makeSlice 42 x y) (hx : a.eval x = I m) (hy : a.eval y = I m)
  (h : ∀ V w', w.heap.size ≤ V → V < w'.heap.size → w'.heap[V]? = some (.cells (List.replicate m (I 0)).toArray 33 (0, 0)) → Below w.heap.size w w' → K (a.put N (.slice (some ⟨V, 0, none⟩) m m)) w') :
  if Region.wanted o (yielded ops a.tmps) = true then Oper.wp Try.prog o a w K Q else K (a.put N undef) w := by
 refine value_ (w1 := w.alloc (.cells (List.replicate m (I 0)).toArray 33)) (v := .slice (some ⟨w.heap.size, 0, none⟩) m m) hw hN ?_ (h _ _ (Nat.le_refl _) (by simp) (by show (w.heap.push _)[w.heap.size]? = _; simp) (below_alloc (Below.refl _ _) _))
 have := make33 m hm w
 unfold execOp
 simp only [hop, hx, hy, Sem.run_bind, Sem.run_pure, this, Result.andThen_ok]
theorem al83_step {ops : Array Oper} {Q : Exit → Act → World → Prop} {o : Oper} {N : Option Tmp} {a : Act} {w : World} {K : Act → World → Prop} (hw : Region.wanted o (yielded ops a.tmps) = true) (hN : o.dst = N) (hop : o.op = .alloc 83)
  (h : ∀ P w', w.heap.size ≤ P → P < w'.heap.size → w'.heap[P]? = some (.cells #[.string ⟨#[]⟩, .int .u8 0, .int .u8 0, .slice none 0 0] 83 (0, 0)) → Below w.heap.size w w' → K (a.put N (.pointer (some ⟨P, 0, none⟩))) w') :
  if Region.wanted o (yielded ops a.tmps) = true then Oper.wp Try.prog o a w K Q else K (a.put N undef) w := by
 refine value_ (w1 := w.alloc (.cells #[.string ⟨#[]⟩, .int .u8 0, .int .u8 0, .slice none 0 0] 83)) (v := .pointer (some ⟨w.heap.size, 0, none⟩)) hw hN ?_ (h _ _ (Nat.le_refl _) (by simp) (by show (w.heap.push _)[w.heap.size]? = _; simp) (below_alloc (Below.refl _ _) _))
 cases o
 simp only at hop
 subst hop
 go_simp
theorem row0_step {ops : Array Oper} {Q : Exit → Act → World → Prop} {o : Oper} {N : Option Tmp} {a : Act} {w : World} {K : Act → World → Prop} (hw : Region.wanted o (yielded ops a.tmps) = true) (hN : o.dst = N) (hop : o.op = .buildSlice 84 0 #[])
  (h : ∀ B w', w.heap.size ≤ B → B < w'.heap.size → Kd.R kR 83 w' w.heap.size (fun _ => True) (.slice (some ⟨B, 0, none⟩) 0 0) [] → Below w.heap.size w w' → K (a.put N (.slice (some ⟨B, 0, none⟩) 0 0)) w') :
  if Region.wanted o (yielded ops a.tmps) = true then Oper.wp Try.prog o a w K Q else K (a.put N undef) w := by
 refine value_ (w1 := w.alloc (.cells #[] 83)) (v := .slice (some ⟨w.heap.size, 0, none⟩) 0 0) hw hN ?_ (h _ _ (Nat.le_refl _) (by simp) (R_empty kR 83 w w.heap.size (Nat.le_refl _)) (below_alloc (Below.refl _ _) _))
 cases o
 simp only at hop
 subst hop
 go_simp
theorem row1_step {ops : Array Oper} {Q : Exit → Act → World → Prop} {o : Oper} {N : Option Tmp} {a : Act} {w : World} {K : Act → World → Prop} {q : Nat} (p : Rw) (hw : Region.wanted o (yielded ops a.tmps) = true) (hN : o.dst = N) (hop : o.op = .buildSlice 84 1 #[(0, .tmp q)]) (hx : a.tmps[q]? = some (.agg #[.string p.1.nm, .int .u8 p.1.sd, .int .u8 p.1.kd, p.2]))
  (h : ∀ B w', w.heap.size ≤ B → B < w'.heap.size → w'.heap[B]? = some (.cells (e4 p).toArray 83 (0, 0)) → Below w.heap.size w w' → K (a.put N (.slice (some ⟨B, 0, none⟩) 1 1)) w') :
  if Region.wanted o (yielded ops a.tmps) = true then Oper.wp Try.prog o a w K Q else K (a.put N undef) w := by
 refine value_ (w1 := w.alloc (.cells (e4 p).toArray 83)) (v := .slice (some ⟨w.heap.size, 0, none⟩) 1 1) hw hN ?_ (h _ _ (Nat.le_refl _) (by simp) (by show (w.heap.push _)[w.heap.size]? = _; simp) (below_alloc (Below.refl _ _) _))
 cases o
 simp only at hop
 subst hop
 unfold e4
 go_simp
theorem one_reads {w : World} {b : Nat} {p : Rw} (h : w.heap[b]? = some (.cells (e4 p).toArray 83 (0, 0))) (h1 : p.2.oneCell' = true) : ReadsRow E4 4 w (some ⟨b, 0, none⟩) 1 [p] := by
 refine ⟨rfl, by omega, fun _ => ⟨_, rfl, fun j q hj => ?_⟩⟩
 have hj0 : j = 0 := by
  have := (List.getElem?_eq_some_iff.1 hj).1
  simp at this; omega
 subst hj0
 simp at hj
 subst hj
 refine ⟨e4 p, rfl, ⟨rfl, h1⟩, fun i u hu => ?_⟩
 rw [add_plain, cell_of h]
 simpa using hu
theorem IsR.part {W : World} {r : Nat} {n e : Int} {ps : List Rw} {b : Nat} {c : Nat} {bad : Nat → Prop} (h : IsR W r n e ps (some ⟨b, 0, none⟩) c bad) (hl : ps.length ≤ 1000) (i : Nat) (hi : i ≤ ps.length) :
  ReadsRow E4 4 W (some ⟨b, 0, none⟩) i (ps.take i) ∧ ReadsRow E4 4 W (some ⟨b, i * 4, none⟩) (ps.length - i) (ps.drop i) := by
 obtain ⟨h1, h2, h3⟩ := h.reads hl
 constructor
 ·refine ⟨by simp; omega, by omega, fun hp => ?_⟩
  obtain ⟨ad, h4, h5⟩ := h3 (by omega)
  exact ⟨ad, h4, fun j p hj => h5 j p (by rw [List.getElem?_take] at hj; split at hj; exact hj; cases hj)⟩
 ·refine ⟨by simp, by omega, fun hp => ?_⟩
  obtain ⟨ad, h4, h5⟩ := h3 (by omega)
  injection h4 with h4
  subst h4
  refine ⟨_, rfl, fun j p hj => ?_⟩
  rw [List.getElem?_drop] at hj
  obtain ⟨c, c1, c2, c3⟩ := h5 (i + j) p hj
  refine ⟨c, c1, c2, fun k u hu => ?_⟩
  have := c3 k u hu
  rw [add_plain] at this
  rw [show (⟨b, i * 4, none⟩ : Addr).add (j * 4 + k) = ⟨b, (i + j) * 4 + k, none⟩ by
   unfold Addr.add
   split
   ·congr 1; omega
   ·simp; omega]
  exact this
theorem IsR.part2 {W : World} {r : Nat} {n e : Int} {ps : List Rw} {b : Nat} {c : Nat} {bad : Nat → Prop} (h : IsR W r n e ps (some ⟨b, 0, none⟩) c bad) (hl : ps.length ≤ 1000) (i : Nat) (hi : i ≤ ps.length) {A2 : Option Addr} (hA : (if c = i then some (⟨b, 0, none⟩ : Addr) else some ⟨b, i * 4, none⟩) = A2) :
  ReadsRow E4 4 W (some ⟨b, 0, none⟩) i (ps.take i) ∧ ReadsRow E4 4 W A2 (ps.length - i) (ps.drop i) := by
 obtain ⟨h1, h2⟩ := h.part hl i hi
 refine ⟨h1, ?_⟩
 by_cases hc : c = i
 ·have := h.cp
  exact ⟨by simp, by omega, fun q => by omega⟩
 ·rw [if_neg hc] at hA
  rw [← hA]
  exact h2
theorem IsR.below' {W W' : World} {r : Nat} {n e : Int} {ps : List Rw} {A : Option Addr} {c : Nat} {bad : Nat → Prop} (h : IsR W r n e ps A c bad) (hb : Below W.heap.size W W') : IsR W' r n e ps A c bad := h.below hb
/-- Behind region 14's first three. -/
structure FD (wz w' : World) (m V P : Nat) : Prop where
 bl : Below wz.heap.size wz w'
 hv : w'.heap[V]? = some (.cells (List.replicate m (I 0)).toArray 33 (0, 0))
 hp : w'.heap[P]? = some (.cells #[.string ⟨#[]⟩, .int .u8 0, .int .u8 0, .slice none 0 0] 83 (0, 0))
 gv : wz.heap.size ≤ V
 gp : wz.heap.size ≤ P
/-- Behind region 15's first three. -/
structure FE (wy w' : World) (t : List Rw) (p : Rw) (v : Value) (b : Nat) : Prop where
 bl : Below wy.heap.size wy w'
 own : Kd.R kR 83 w' wy.heap.size (fun _ => True) v t
 box : w'.heap[b]? = some (.cells (e4 p).toArray 83 (0, 0))
set_option maxRecDepth 100000 in
set_option maxHeartbeats 4000000 in
theorem rdecl_ok (r : Nat) (n e : Int) (ps : List Rw) (A : Option Addr) (c : Nat) (bad : Nat → Prop) (nm : ByteArray) (sd kd : Int) (w : World) (h : IsR w r n e ps A c bad) (hN : inN n e) (hs : 0 ≤ sd ∧ sd ≤ 255) (hkk : 0 ≤ kd ∧ kd ≤ 255) (hcs : ps.length ≤ 24) :
  Calls Try.prog 48 #[.pointer (some ⟨r, 0, none⟩), .agg #[.string nm, .int .u8 sd], .int .u8 kd] w fun e_ w' => e_ = .returned (I (rdeclv n e (cls ps) nm sd kd).1) ∧ ∃ ps' A' c', IsR w' r n e ps' A' c' bad ∧ cls ps' = (rdeclv n e (cls ps) nm sd kd).2 ∧ w.grownBy w' (some r) := by
 have hA : Below w.heap.size w (w.alloc (.cells #[.string nm, .int .u8 sd] 25)) := (Below.refl _ w).alloc (Nat.le_refl _) _
 have H0 := Lib.hid (h.below hA)
 have HT0 := Lib.hid h
 have hlt0 : w.heap.size < (w.alloc (.cells #[.string nm, .int .u8 sd] 25)).heap.size := by simp
 have hkb : (w.alloc (.cells #[.string nm, .int .u8 sd] 25)).heap[w.heap.size]? = some (.cells #[.string nm, .int .u8 sd] 25 (0, 0)) := heap_alloc_new w _
 have HKB := Lib.hid hkb
 have HNM := Lib.hid (reticuleref04_Name.calls 20 nm (nmok nm) (w.alloc (.cells #[.string nm, .int .u8 sd] 25)) (rname_f nm))
 have lr := h.rlt
 have hlen : ps.length ≤ 1000 := by omega
 have hcl : (cls ps).length = ps.length := by unfold cls; simp
 unfold rdeclv
 rw [hcl]
 by_cases hnm : nmok nm = false
 ·rw [if_pos hnm]
  rw [hnm] at HNM
  clear hkb h hnm
  go_enter Try.func48, Try.ntmps48
  go_wp2_with fail
  refine HNM.out.mono ?_
  rintro e w1 ⟨rfl, hd⟩
  have hb : Below (w.alloc (.cells #[.string nm, .int .u8 sd] 25)).heap.size (w.alloc (.cells #[.string nm, .int .u8 sd] 25)) w1 := by
   obtain ⟨k, rfl⟩ := hd
   exact pw_below_drewN (Below.refl _ _) k
  have HB := Lib.hid (below_step hA hb)
  have H1 := Lib.hid (H0.out.below hb)
  have hkb1 := (hb.block _ hlt0).trans HKB.out
  have p3 : w1.cell? ⟨w.heap.size, 1, none⟩ = some (.int .u8 sd) := by rw [cell_of hkb1]; rfl
  have p2 : w1.cell? ⟨w.heap.size, 0, none⟩ = some (.string nm) := by rw [cell_of hkb1]; rfl
  have HKB1 := Lib.hid hkb1
  have hlt1 : w.heap.size < w1.heap.size := Nat.lt_of_lt_of_le hlt0 hb.size
  clear hb hA hkb1 hd
  go_wp2_with fail
  go_ret
  exact ⟨rfl, ⟨ps, _, _, HT0.out.below HB.out, rfl, gr_ofBelow HB.out⟩⟩
 ·rw [if_neg hnm]
  rw [show nmok nm = true by simpa using hnm] at HNM
  by_cases hbad : sd < 1 ∨ 3 < sd ∨ kd < 1 ∨ 2 < kd
  ·rw [if_pos hbad]
   by_cases q0 : sd = 0
   ·have b1 : (sd == 0) = true := by simpa using q0
    subst q0
    clear b1
    clear hkb h hnm
    go_enter Try.func48, Try.ntmps48
    go_wp2_with fail
    refine HNM.out.mono ?_
    rintro e w1 ⟨rfl, hd⟩
    have hb : Below (w.alloc (.cells #[.string nm, .int .u8 0] 25)).heap.size (w.alloc (.cells #[.string nm, .int .u8 0] 25)) w1 := by
     obtain ⟨k, rfl⟩ := hd
     exact pw_below_drewN (Below.refl _ _) k
    have HB := Lib.hid (below_step hA hb)
    have H1 := Lib.hid (H0.out.below hb)
    have hkb1 := (hb.block _ hlt0).trans HKB.out
    have p3 : w1.cell? ⟨w.heap.size, 1, none⟩ = some (.int .u8 0) := by rw [cell_of hkb1]; rfl
    have p2 : w1.cell? ⟨w.heap.size, 0, none⟩ = some (.string nm) := by rw [cell_of hkb1]; rfl
    have HKB1 := Lib.hid hkb1
    have hlt1 : w.heap.size < w1.heap.size := Nat.lt_of_lt_of_le hlt0 hb.size
    clear hb hA hkb1 hd
    go_wp2_with fail
    go_ret
    exact ⟨rfl, ⟨ps, _, _, HT0.out.below HB.out, rfl, gr_ofBelow HB.out⟩⟩
   ·have b1 : (sd == 0) = false := by simpa using q0
    by_cases q1 : sd > 3
    ·have d2 : decide (sd > 3) = true := decide_eq_true q1
     clear hkb h hnm
     go_enter Try.func48, Try.ntmps48
     go_wp2_with fail
     refine HNM.out.mono ?_
     rintro e w1 ⟨rfl, hd⟩
     have hb : Below (w.alloc (.cells #[.string nm, .int .u8 sd] 25)).heap.size (w.alloc (.cells #[.string nm, .int .u8 sd] 25)) w1 := by
      obtain ⟨k, rfl⟩ := hd
      exact pw_below_drewN (Below.refl _ _) k
     have HB := Lib.hid (below_step hA hb)
     have H1 := Lib.hid (H0.out.below hb)
     have hkb1 := (hb.block _ hlt0).trans HKB.out
     have p3 : w1.cell? ⟨w.heap.size, 1, none⟩ = some (.int .u8 sd) := by rw [cell_of hkb1]; rfl
     have p2 : w1.cell? ⟨w.heap.size, 0, none⟩ = some (.string nm) := by rw [cell_of hkb1]; rfl
     have HKB1 := Lib.hid hkb1
     have hlt1 : w.heap.size < w1.heap.size := Nat.lt_of_lt_of_le hlt0 hb.size
     clear hb hA hkb1 hd
     go_wp2_with fail
     go_ret
     exact ⟨rfl, ⟨ps, _, _, HT0.out.below HB.out, rfl, gr_ofBelow HB.out⟩⟩
    ·have d2 : decide (sd > 3) = false := decide_eq_false q1
     by_cases q2 : kd = 0
     ·have b3 : (kd == 0) = true := by simpa using q2
      subst q2
      clear b3
      clear hkb h hnm
      go_enter Try.func48, Try.ntmps48
      go_wp2_with fail
      refine HNM.out.mono ?_
      rintro e w1 ⟨rfl, hd⟩
      have hb : Below (w.alloc (.cells #[.string nm, .int .u8 sd] 25)).heap.size (w.alloc (.cells #[.string nm, .int .u8 sd] 25)) w1 := by
       obtain ⟨k, rfl⟩ := hd
       exact pw_below_drewN (Below.refl _ _) k
      have HB := Lib.hid (below_step hA hb)
      have H1 := Lib.hid (H0.out.below hb)
      have hkb1 := (hb.block _ hlt0).trans HKB.out
      have p3 : w1.cell? ⟨w.heap.size, 1, none⟩ = some (.int .u8 sd) := by rw [cell_of hkb1]; rfl
      have p2 : w1.cell? ⟨w.heap.size, 0, none⟩ = some (.string nm) := by rw [cell_of hkb1]; rfl
      have HKB1 := Lib.hid hkb1
      have hlt1 : w.heap.size < w1.heap.size := Nat.lt_of_lt_of_le hlt0 hb.size
      clear hb hA hkb1 hd
      go_wp2_with fail
      go_ret
      exact ⟨rfl, ⟨ps, _, _, HT0.out.below HB.out, rfl, gr_ofBelow HB.out⟩⟩
     ·have b3 : (kd == 0) = false := by simpa using q2
      have q3' : kd > 2 := by omega
      have d4 : decide (kd > 2) = true := decide_eq_true q3'
      clear hkb h hnm
      go_enter Try.func48, Try.ntmps48
      go_wp2_with fail
      refine HNM.out.mono ?_
      rintro e w1 ⟨rfl, hd⟩
      have hb : Below (w.alloc (.cells #[.string nm, .int .u8 sd] 25)).heap.size (w.alloc (.cells #[.string nm, .int .u8 sd] 25)) w1 := by
       obtain ⟨k, rfl⟩ := hd
       exact pw_below_drewN (Below.refl _ _) k
      have HB := Lib.hid (below_step hA hb)
      have H1 := Lib.hid (H0.out.below hb)
      have hkb1 := (hb.block _ hlt0).trans HKB.out
      have p3 : w1.cell? ⟨w.heap.size, 1, none⟩ = some (.int .u8 sd) := by rw [cell_of hkb1]; rfl
      have p2 : w1.cell? ⟨w.heap.size, 0, none⟩ = some (.string nm) := by rw [cell_of hkb1]; rfl
      have HKB1 := Lib.hid hkb1
      have hlt1 : w.heap.size < w1.heap.size := Nat.lt_of_lt_of_le hlt0 hb.size
      clear hb hA hkb1 hd
      go_wp2_with fail
      go_ret
      exact ⟨rfl, ⟨ps, _, _, HT0.out.below HB.out, rfl, gr_ofBelow HB.out⟩⟩
  ·rw [if_neg hbad]
   have b1 : (sd == 0) = false := by simp; omega
   have d2 : decide (sd > 3) = false := decide_eq_false (by omega)
   have b3 : (kd == 0) = false := by simp; omega
   have d4 : decide (kd > 2) = false := decide_eq_false (by omega)
   have HN := Lib.hid hN
   have hat := fun W (q : IsR W r n e ps A c bad) => at_ok r n e ps A c bad nm sd W q hlen
   cases hf : find (cls ps) nm sd with
   | some j =>
    rw [if_pos (by rfl)]
    rw [at_some hf] at hat
    have HAT1 := hat
    have hge : decide ((j : Int) ≥ 0) = true := decide_eq_true (by omega)
    clear hat hf hkb h hnm hbad
    go_enter Try.func48, Try.ntmps48
    go_wp2_with fail
    refine HNM.out.mono ?_
    rintro e w1 ⟨rfl, hd⟩
    have hb : Below (w.alloc (.cells #[.string nm, .int .u8 sd] 25)).heap.size (w.alloc (.cells #[.string nm, .int .u8 sd] 25)) w1 := by
     obtain ⟨k, rfl⟩ := hd
     exact pw_below_drewN (Below.refl _ _) k
    have HB := Lib.hid (below_step hA hb)
    have H1 := Lib.hid (H0.out.below hb)
    have hkb1 := (hb.block _ hlt0).trans HKB.out
    have p3 : w1.cell? ⟨w.heap.size, 1, none⟩ = some (.int .u8 sd) := by rw [cell_of hkb1]; rfl
    have p2 : w1.cell? ⟨w.heap.size, 0, none⟩ = some (.string nm) := by rw [cell_of hkb1]; rfl
    have HKB1 := Lib.hid hkb1
    have hlt1 : w.heap.size < w1.heap.size := Nat.lt_of_lt_of_le hlt0 hb.size
    clear hb hA hkb1 hd
    go_wp2_with fail
    refine (HAT1 w1 H1.out).mono ?_
    rintro e w2 ⟨rfl, hb2⟩
    have HB2 := Lib.hid (below_then HB.out HB.out.size hb2)
    have H2 := Lib.hid (H1.out.below hb2)
    have hkb2 := (hb2.block _ hlt1).trans HKB1.out
    have q3 : w2.cell? ⟨w.heap.size, 1, none⟩ = some (.int .u8 sd) := by rw [cell_of hkb2]; rfl
    have q2 : w2.cell? ⟨w.heap.size, 0, none⟩ = some (.string nm) := by rw [cell_of hkb2]; rfl
    have pr : w2.cell? ⟨r, 2, none⟩ = some (.slice A ps.length c) := by rw [cell_of H2.out.tb]; rfl
    have HKB2 := Lib.hid hkb2
    have lr2 := H2.out.rlt
    have hlt2 : w.heap.size < w2.heap.size := Nat.lt_of_lt_of_le hlt1 hb2.size
    clear hb2 hkb2 p2 p3
    go_wp2_with fail
    go_ret
    exact ⟨rfl, ⟨ps, _, _, HT0.out.below HB2.out, rfl, gr_ofBelow HB2.out⟩⟩
   | none =>
    rw [if_neg (by simp)]
    rw [at_none hf] at hat
    have HAT1 := hat
    clear hat hf
    by_cases h24 : 24 ≤ ps.length
    ·rw [if_pos h24]
     have d24 : decide ((ps.length : Int) ≥ 24) = true := decide_eq_true (by omega)
     clear hkb h hnm hbad
     go_enter Try.func48, Try.ntmps48
     go_wp2_with fail
     refine HNM.out.mono ?_
     rintro e w1 ⟨rfl, hd⟩
     have hb : Below (w.alloc (.cells #[.string nm, .int .u8 sd] 25)).heap.size (w.alloc (.cells #[.string nm, .int .u8 sd] 25)) w1 := by
      obtain ⟨k, rfl⟩ := hd
      exact pw_below_drewN (Below.refl _ _) k
     have HB := Lib.hid (below_step hA hb)
     have H1 := Lib.hid (H0.out.below hb)
     have hkb1 := (hb.block _ hlt0).trans HKB.out
     have p3 : w1.cell? ⟨w.heap.size, 1, none⟩ = some (.int .u8 sd) := by rw [cell_of hkb1]; rfl
     have p2 : w1.cell? ⟨w.heap.size, 0, none⟩ = some (.string nm) := by rw [cell_of hkb1]; rfl
     have HKB1 := Lib.hid hkb1
     have hlt1 : w.heap.size < w1.heap.size := Nat.lt_of_lt_of_le hlt0 hb.size
     clear hb hA hkb1 hd
     go_wp2_with fail
     refine (HAT1 w1 H1.out).mono ?_
     rintro e w2 ⟨rfl, hb2⟩
     have HB2 := Lib.hid (below_then HB.out HB.out.size hb2)
     have H2 := Lib.hid (H1.out.below hb2)
     have hkb2 := (hb2.block _ hlt1).trans HKB1.out
     have q3 : w2.cell? ⟨w.heap.size, 1, none⟩ = some (.int .u8 sd) := by rw [cell_of hkb2]; rfl
     have q2 : w2.cell? ⟨w.heap.size, 0, none⟩ = some (.string nm) := by rw [cell_of hkb2]; rfl
     have pr : w2.cell? ⟨r, 2, none⟩ = some (.slice A ps.length c) := by rw [cell_of H2.out.tb]; rfl
     have HKB2 := Lib.hid hkb2
     have lr2 := H2.out.rlt
     have hlt2 : w.heap.size < w2.heap.size := Nat.lt_of_lt_of_le hlt1 hb2.size
     clear hb2 hkb2 p2 p3
     go_wp2_with fail
     go_ret
     exact ⟨rfl, ⟨ps, _, _, HT0.out.below HB2.out, rfl, gr_ofBelow HB2.out⟩⟩
    ·rw [if_neg h24]
     have d24 : decide ((ps.length : Int) ≥ 24) = false := decide_eq_false (by omega)
     clear hkb h hnm hbad
     go_enter Try.func48, Try.ntmps48
     go_wp2_with fail
     refine HNM.out.mono ?_
     rintro e w1 ⟨rfl, hd⟩
     have hb : Below (w.alloc (.cells #[.string nm, .int .u8 sd] 25)).heap.size (w.alloc (.cells #[.string nm, .int .u8 sd] 25)) w1 := by
      obtain ⟨k, rfl⟩ := hd
      exact pw_below_drewN (Below.refl _ _) k
     have HB := Lib.hid (below_step hA hb)
     have H1 := Lib.hid (H0.out.below hb)
     have hkb1 := (hb.block _ hlt0).trans HKB.out
     have p3 : w1.cell? ⟨w.heap.size, 1, none⟩ = some (.int .u8 sd) := by rw [cell_of hkb1]; rfl
     have p2 : w1.cell? ⟨w.heap.size, 0, none⟩ = some (.string nm) := by rw [cell_of hkb1]; rfl
     have HKB1 := Lib.hid hkb1
     have hlt1 : w.heap.size < w1.heap.size := Nat.lt_of_lt_of_le hlt0 hb.size
     clear hb hA hkb1 hd
     go_wp2_with fail
     refine (HAT1 w1 H1.out).mono ?_
     rintro e w2 ⟨rfl, hb2⟩
     have HB2 := Lib.hid (below_then HB.out HB.out.size hb2)
     have H2 := Lib.hid (H1.out.below hb2)
     have hkb2 := (hb2.block _ hlt1).trans HKB1.out
     have q3 : w2.cell? ⟨w.heap.size, 1, none⟩ = some (.int .u8 sd) := by rw [cell_of hkb2]; rfl
     have q2 : w2.cell? ⟨w.heap.size, 0, none⟩ = some (.string nm) := by rw [cell_of hkb2]; rfl
     have pr : w2.cell? ⟨r, 2, none⟩ = some (.slice A ps.length c) := by rw [cell_of H2.out.tb]; rfl
     have HKB2 := Lib.hid hkb2
     have lr2 := H2.out.rlt
     have hlt2 : w.heap.size < w2.heap.size := Nat.lt_of_lt_of_le hlt1 hb2.size
     clear hb2 hkb2 p2 p3
     go_wp2_with fail
     have HLT2 := Lib.hid hlt2
     go_loopw [7] (fun v7 wr => ∃ i : Nat, i ≤ ps.length ∧ v7 = I i ∧ Below w2.heap.size w2 wr ∧ ∀ (j : Nat) (p : Rw), ps[j]? = some p → j < i → klt p.1.k25 ⟨nm, sd⟩) (fun v7 _ => ps.length - (intOf v7).toNat)
     case atStart => exact ⟨0, Nat.zero_le _, rfl, Below.refl _ _, fun j _ _ hj => absurd hj (by omega)⟩
     case round =>
      obtain ⟨i, hi, rfl, hbr, hbf⟩ := hrel
      have H3 := Lib.hid (H2.out.below hbr)
      have HBR := Lib.hid hbr
      have HBF := Lib.hid hbf
      have hkb3 := (hbr.block _ hlt2).trans HKB2.out
      have t1 : wr.cell? ⟨w.heap.size, 1, none⟩ = some (.int .u8 sd) := by rw [cell_of hkb3]; rfl
      have t0 : wr.cell? ⟨w.heap.size, 0, none⟩ = some (.string nm) := by rw [cell_of hkb3]; rfl
      have t2 : wr.cell? ⟨r, 2, none⟩ = some (.slice A ps.length c) := by rw [cell_of H3.out.tb]; rfl
      have HKB3 := Lib.hid hkb3
      clear hbr hbf hkb3
      by_cases hlt : i < ps.length
      ·obtain ⟨p, hp⟩ : ∃ p, ps[i]? = some p := ⟨_, List.getElem?_eq_getElem hlt⟩
       obtain ⟨b, rfl, hbl, q0, q1, _, _⟩ := H3.out.cells hp
       have d1 : decide ((i : Int) < (ps.length : Int)) = true := decide_eq_true (by omega)
       have hi2 : (i : Int) < (ps.length : Int) := by omega
       have HP := Lib.hid hp
       obtain ⟨bb, hbb⟩ : ∃ bb, bb = decide (klt p.1.k25 ⟨nm, sd⟩) := ⟨_, rfl⟩
       have HBB := Lib.hid ((before_f p.1.k25 ⟨nm, sd⟩).trans (congrArg some hbb.symm))
       have HBBD := Lib.hid hbb
       obtain ⟨pn, hpn⟩ : ∃ pn, pn = p.1.nm := ⟨_, rfl⟩
       obtain ⟨pd, hpd⟩ : ∃ pd, pd = p.1.sd := ⟨_, rfl⟩
       rw [← hpn] at q0
       rw [← hpd] at q1
       have HBB2 := Lib.hid (show reticuleref04_before.f pn pd nm sd = some bb from by rw [hpn, hpd]; exact HBB.out)
       clear HBB
       have HBB := HBB2
       clear HBB2 hp hbb hpn hpd
       go_wp2_with fail
       refine start_ (n := 19) (S := fun w' => w'.cell? ⟨r, 2, none⟩ = some (.slice (some ⟨b, 0, none⟩) ps.length c) ∧ w'.cell? ⟨b, i * 4, none⟩ = some (.string pn) ∧ w'.cell? ⟨b, i * 4 + 1, none⟩ = some (.int .u8 pd) ∧ w'.cell? ⟨w.heap.size, 0, none⟩ = some (.string nm) ∧ w'.cell? ⟨w.heap.size, 1, none⟩ = some (.int .u8 sd)) (ds := [17]) #[false,false,false,false,false,false,false,false,false,false,false,false,false,false,false,false,false,false,false] (by kernel_rfl) rfl rfl ⟨t2, q0, q1, t0, t1⟩ (fun hHeld => ?_)
       refine pure_ (i := 0) (N := some 46) (v := ?_) (a' := ?_) #[true,false,false,false,false,false,false,false,false,false,false,false,false,false,false,false,false,false,false] rfl rfl (by kernel_rfl) (fun _ _ _ h => h) (Or.inl ⟨by rfl, ?_⟩) ?_ ?_
       rotate_left
       ·intro w'
        go_simp
        with_reducible rfl
       rotate_left
       ·simp only [Act.put, List.setIfInBounds_toArray, List.set_cons_zero, List.set_cons_succ, i64_w, i32_w]
        rfl
       refine pure_ (i := 1) (N := some 47) (v := ?_) (a' := ?_) #[true,true,false,false,false,false,false,false,false,false,false,false,false,false,false,false,false,false,false] rfl rfl (by kernel_rfl) (fun _ _ _ h => h) (Or.inl ⟨by rfl, ?_⟩) ?_ ?_
       rotate_left
       ·intro w'
        go_simp
        with_reducible rfl
       rotate_left
       ·simp only [Act.put, List.setIfInBounds_toArray, List.set_cons_zero, List.set_cons_succ, i64_w, i32_w]
        rfl
       refine pure_ (i := 2) (N := some 48) (v := ?_) (a' := ?_) #[true,true,true,false,false,false,false,false,false,false,false,false,false,false,false,false,false,false,false] rfl rfl (by kernel_rfl) (fun _ _ _ h => h) (Or.inl ⟨by rfl, ?_⟩) ?_ ?_
       rotate_left
       ·intro w'
        go_simp
        with_reducible rfl
       rotate_left
       ·simp only [Act.put, List.setIfInBounds_toArray, List.set_cons_zero, List.set_cons_succ, i64_w, i32_w]
        rfl
       refine pure_ (i := 3) (N := some 49) (v := ?_) (a' := ?_) #[true,true,true,true,false,false,false,false,false,false,false,false,false,false,false,false,false,false,false] rfl rfl (by kernel_rfl) (fun _ _ _ h => h) (Or.inl ⟨by rfl, ?_⟩) ?_ ?_
       rotate_left
       ·intro w'
        go_simp
        with_reducible rfl
       rotate_left
       ·simp only [Act.put, List.setIfInBounds_toArray, List.set_cons_zero, List.set_cons_succ, i64_w, i32_w]
        rfl
       refine take_ (i := 4) (N := some 50) (v := ?_) (a' := ?_) #[true,true,true,true,true,false,false,false,false,false,false,false,false,false,false,false,false,false,false] rfl rfl (by kernel_rfl) (fun _ _ _ h => h) (Or.inl ⟨by rfl, ?_⟩) hHeld ?_ ?_
       rotate_left
       ·rintro w' ⟨s0, s1, s2, s3, s4⟩
        go_simp
        with_reducible rfl
       rotate_left
       ·simp only [Act.put, List.setIfInBounds_toArray, List.set_cons_zero, List.set_cons_succ, i64_w, i32_w]
        rfl
       refine pure_ (i := 5) (N := some 51) (v := ?_) (a' := ?_) #[true,true,true,true,true,true,false,false,false,false,false,false,false,false,false,false,false,false,false] rfl rfl (by kernel_rfl) (fun _ _ _ h => h) (Or.inl ⟨by rfl, ?_⟩) ?_ ?_
       rotate_left
       ·intro w'
        go_simp
        with_reducible rfl
       rotate_left
       ·simp only [Act.put, List.setIfInBounds_toArray, List.set_cons_zero, List.set_cons_succ, i64_w, i32_w]
        rfl
       refine pure_ (i := 6) (N := some 52) (v := ?_) (a' := ?_) #[true,true,true,true,true,true,true,false,false,false,false,false,false,false,false,false,false,false,false] rfl rfl (by kernel_rfl) (fun _ _ _ h => h) (Or.inl ⟨by rfl, ?_⟩) ?_ ?_
       rotate_left
       ·intro w'
        go_simp
        with_reducible rfl
       rotate_left
       ·simp only [Act.put, List.setIfInBounds_toArray, List.set_cons_zero, List.set_cons_succ, i64_w, i32_w]
        rfl
       refine pure_ (i := 7) (N := some 53) (v := ?_) (a' := ?_) #[true,true,true,true,true,true,true,true,false,false,false,false,false,false,false,false,false,false,false] rfl rfl (by kernel_rfl) (fun _ _ _ h => h) (Or.inl ⟨by rfl, ?_⟩) ?_ ?_
       rotate_left
       ·intro w'
        go_simp
        with_reducible rfl
       rotate_left
       ·simp only [Act.put, List.setIfInBounds_toArray, List.set_cons_zero, List.set_cons_succ, i64_w, i32_w]
        rfl
       refine pure_ (i := 8) (N := some 54) (v := ?_) (a' := ?_) #[true,true,true,true,true,true,true,true,true,false,false,false,false,false,false,false,false,false,false] rfl rfl (by kernel_rfl) (fun _ _ _ h => h) (Or.inl ⟨by rfl, ?_⟩) ?_ ?_
       rotate_left
       ·intro w'
        go_simp
        with_reducible rfl
       rotate_left
       ·simp only [Act.put, List.setIfInBounds_toArray, List.set_cons_zero, List.set_cons_succ, i64_w, i32_w]
        rfl
       refine pure_ (i := 9) (N := some 55) (v := ?_) (a' := ?_) #[true,true,true,true,true,true,true,true,true,true,false,false,false,false,false,false,false,false,false] rfl rfl (by kernel_rfl) (fun _ _ _ h => h) (Or.inl ⟨by rfl, ?_⟩) ?_ ?_
       rotate_left
       ·intro w'
        go_simp
        with_reducible rfl
       rotate_left
       ·simp only [Act.put, List.setIfInBounds_toArray, List.set_cons_zero, List.set_cons_succ, i64_w, i32_w]
        rfl
       refine pure_ (i := 10) (N := some 56) (v := ?_) (a' := ?_) #[true,true,true,true,true,true,true,true,true,true,true,false,false,false,false,false,false,false,false] rfl rfl (by kernel_rfl) (fun _ _ _ h => h) (Or.inl ⟨by rfl, ?_⟩) ?_ ?_
       rotate_left
       ·intro w'
        go_simp
        with_reducible rfl
       rotate_left
       ·simp only [Act.put, List.setIfInBounds_toArray, List.set_cons_zero, List.set_cons_succ, i64_w, i32_w]
        rfl
       refine pure_ (i := 12) (N := some 58) (v := ?_) (a' := ?_) #[true,true,true,true,true,true,true,true,true,true,true,false,true,false,false,false,false,false,false] rfl rfl (by kernel_rfl) (fun _ _ _ h => h) (Or.inl ⟨by rfl, ?_⟩) ?_ ?_
       rotate_left
       ·intro w'
        go_simp
        with_reducible rfl
       rotate_left
       ·simp only [Act.put, List.setIfInBounds_toArray, List.set_cons_zero, List.set_cons_succ, i64_w, i32_w]
        rfl
       refine take_ (i := 11) (N := some 57) (v := ?_) (a' := ?_) #[true,true,true,true,true,true,true,true,true,true,true,true,true,false,false,false,false,false,false] rfl rfl (by kernel_rfl) (fun _ _ _ h => h) (Or.inl ⟨by rfl, ?_⟩) hHeld ?_ ?_
       rotate_left
       ·rintro w' ⟨s0, s1, s2, s3, s4⟩
        go_simp
        with_reducible rfl
       rotate_left
       ·simp only [Act.put, List.setIfInBounds_toArray, List.set_cons_zero, List.set_cons_succ, i64_w, i32_w]
        rfl
       refine pure_ (i := 13) (N := some 59) (v := ?_) (a' := ?_) #[true,true,true,true,true,true,true,true,true,true,true,true,true,true,false,false,false,false,false] rfl rfl (by kernel_rfl) (fun _ _ _ h => h) (Or.inl ⟨by rfl, ?_⟩) ?_ ?_
       rotate_left
       ·intro w'
        go_simp
        with_reducible rfl
       rotate_left
       ·simp only [Act.put, List.setIfInBounds_toArray, List.set_cons_zero, List.set_cons_succ, i64_w, i32_w]
        rfl
       refine pure_ (i := 14) (N := some 60) (v := ?_) (a' := ?_) #[true,true,true,true,true,true,true,true,true,true,true,true,true,true,true,false,false,false,false] rfl rfl (by kernel_rfl) (fun _ _ _ h => h) (Or.inl ⟨by rfl, ?_⟩) ?_ ?_
       rotate_left
       ·intro w'
        go_simp
        with_reducible rfl
       rotate_left
       ·simp only [Act.put, List.setIfInBounds_toArray, List.set_cons_zero, List.set_cons_succ, i64_w, i32_w]
        rfl
       refine take_ (i := 15) (N := some 61) (v := ?_) (a' := ?_) #[true,true,true,true,true,true,true,true,true,true,true,true,true,true,true,true,false,false,false] rfl rfl (by kernel_rfl) (fun _ _ _ h => h) (Or.inl ⟨by rfl, ?_⟩) hHeld ?_ ?_
       rotate_left
       ·rintro w' ⟨s0, s1, s2, s3, s4⟩
        go_simp
        with_reducible rfl
       rotate_left
       ·simp only [Act.put, List.setIfInBounds_toArray, List.set_cons_zero, List.set_cons_succ, i64_w, i32_w]
        rfl
       refine take_ (i := 16) (N := some 62) (v := ?_) (a' := ?_) #[true,true,true,true,true,true,true,true,true,true,true,true,true,true,true,true,true,false,false] rfl rfl (by kernel_rfl) (fun _ _ _ h => h) (Or.inl ⟨by rfl, ?_⟩) hHeld ?_ ?_
       rotate_left
       ·rintro w' ⟨s0, s1, s2, s3, s4⟩
        go_simp
        with_reducible rfl
       rotate_left
       ·simp only [Act.put, List.setIfInBounds_toArray, List.set_cons_zero, List.set_cons_succ, i64_w, i32_w]
        rfl
       refine last_ (i := 17) (N := some 63) #[true,true,true,true,true,true,true,true,true,true,true,true,true,true,true,true,true,true,false] rfl rfl (by kernel_rfl) (by decide) (fun K hK => ?_)
       refine goes_ Try.func65 (by kernel_rfl) rfl #[.agg #[.string pn, .int .u8 pd], .agg #[.string nm, .int .u8 sd]] (by rfl) rfl rfl (by simp only [List.map_toArray, List.map_cons, List.map_nil]; rfl) ?_
       with_reducible refine (reticuleref04_before.calls _ _ _ _ bb _ HBB.out).mono ?_
       rintro e w9 ⟨rfl, hb9⟩
       refine ⟨_, rfl, ?_⟩
       refine hK.out _ _ ?_
       clear hK K
       refine norm_ (a' := ?_) ?_ ?_
       rotate_left
       ·show Act.put _ (some 63) _ = _
        simp only [Act.put, List.setIfInBounds_toArray, List.set_cons_zero, List.set_cons_succ, i64_w, i32_w]
        rfl
       refine pure_ (i := 18) (N := some 64) (v := ?_) (a' := ?_) #[true,true,true,true,true,true,true,true,true,true,true,true,true,true,true,true,true,true,true] rfl rfl (by kernel_rfl) (fun _ _ _ h => h) (Or.inl ⟨by rfl, ?_⟩) ?_ ?_
       rotate_left
       ·intro w'
        go_simp
        with_reducible rfl
       rotate_left
       ·simp only [Act.put, List.setIfInBounds_toArray, List.set_cons_zero, List.set_cons_succ, i64_w, i32_w]
        rfl
       refine done_ (by kernel_rfl) ?_
       have HBA := Lib.hid (below_step (below_drew1 (Below.refl wr.heap.size wr)) hb9)
       have HB9 := Lib.hid (below_then HBR.out HBR.out.size (below_step (below_drew1 (Below.refl wr.heap.size wr)) hb9))
       clear hb9 hHeld
       cases bb with
       | true =>
        go_wp2_with fail
        refine ⟨⟨i + 1, by omega, by go_num, HB9.out, fun j p' hp' hj => ?_⟩, by simp [intOf]; omega⟩
        by_cases hji : j < i
        ·exact HBF.out j p' hp' hji
        ·obtain rfl : j = i := by omega
         rw [HP.out] at hp'
         injection hp' with hp'
         subst hp'
         exact of_decide_eq_true HBBD.out.symm
       | false =>
        go_wp2_with fail
        have HZ := Lib.hid (IsR.below' H3.out HBA.out)
        have HBW := Lib.hid (below_then HB2.out HB2.out.size HB9.out)
        have HNX := Lib.hid (show ∀ (q : Rw), ps[i]? = some q → decide (klt q.1.k25 ⟨nm, sd⟩) = false from fun q hq => by
         rw [HP.out] at hq
         injection hq with hq
         subst hq
         exact HBBD.out.symm)
        have HZB := Lib.hid (show ∀ b, bad b → b < w9.heap.size from HZ.out.lt)
        have hkz := (HBA.out.block _ (Array.getElem?_eq_some_iff.1 HKB3.out).1).trans HKB3.out
        generalize w9 = wz at HZ HBW hkz HZB ⊢
        have z0 : wz.cell? ⟨w.heap.size, 0, none⟩ = some (.string nm) := by rw [cell_of hkz]; rfl
        have z1 : wz.cell? ⟨w.heap.size, 1, none⟩ = some (.int .u8 sd) := by rw [cell_of hkz]; rfl
        obtain ⟨m, hm, hm30⟩ := len_nat n e sd HN.out
        have HRL := Lib.hid (fun (W : World) (q : IsR W r n e ps (some ⟨b, 0, none⟩) c bad) => show Calls Try.prog 40 #[.pointer (some ⟨r, 0, none⟩), .int .u8 sd] W fun e_ w' => e_ = .returned (I m) ∧ w' = W from by
         have := rlen_ok r n e ps (some ⟨b, 0, none⟩) c bad sd W q
         rw [hm] at this
         exact this)
        have HM := Lib.hid hm
        clear hm
        refine start_ (n := 10) (S := fun w' => w'.cell? ⟨w.heap.size, 0, none⟩ = some (.string nm) ∧ w'.cell? ⟨w.heap.size, 1, none⟩ = some (.int .u8 sd)) (ds := [9]) #[false,false,false,false,false,false,false,false,false,false] (by kernel_rfl) rfl rfl ⟨z0, z1⟩ (fun hHeld => ?_)
        refine pure_ (i := 1) (N := some 68) (v := ?_) (a' := ?_) #[false,true,false,false,false,false,false,false,false,false] rfl rfl (by kernel_rfl) (fun _ _ _ h => h) (Or.inl ⟨by rfl, ?_⟩) ?_ ?_
        rotate_left
        ·intro w'
         go_simp
         with_reducible rfl
        rotate_left
        ·simp only [Act.put, List.setIfInBounds_toArray, List.set_cons_zero, List.set_cons_succ, i64_w, i32_w]
         rfl
        refine pure_ (i := 2) (N := some 69) (v := ?_) (a' := ?_) #[false,true,true,false,false,false,false,false,false,false] rfl rfl (by kernel_rfl) (fun _ _ _ h => h) (Or.inl ⟨by rfl, ?_⟩) ?_ ?_
        rotate_left
        ·intro w'
         go_simp
         with_reducible rfl
        rotate_left
        ·simp only [Act.put, List.setIfInBounds_toArray, List.set_cons_zero, List.set_cons_succ, i64_w, i32_w]
         rfl
        refine pure_ (i := 3) (N := some 70) (v := ?_) (a' := ?_) #[false,true,true,true,false,false,false,false,false,false] rfl rfl (by kernel_rfl) (fun _ _ _ h => h) (Or.inl ⟨by rfl, ?_⟩) ?_ ?_
        rotate_left
        ·intro w'
         go_simp
         with_reducible rfl
        rotate_left
        ·simp only [Act.put, List.setIfInBounds_toArray, List.set_cons_zero, List.set_cons_succ, i64_w, i32_w]
         rfl
        refine take_ (i := 0) (N := some 67) (v := ?_) (a' := ?_) #[true,true,true,true,false,false,false,false,false,false] rfl rfl (by kernel_rfl) (fun _ _ _ h => h) (Or.inl ⟨by rfl, ?_⟩) hHeld ?_ ?_
        rotate_left
        ·rintro w' ⟨s0, s1⟩
         go_simp
         with_reducible rfl
        rotate_left
        ·simp only [Act.put, List.setIfInBounds_toArray, List.set_cons_zero, List.set_cons_succ, i64_w, i32_w]
         rfl
        refine take_ (i := 4) (N := some 71) (v := ?_) (a' := ?_) #[true,true,true,true,true,false,false,false,false,false] rfl rfl (by kernel_rfl) (fun _ _ _ h => h) (Or.inl ⟨by rfl, ?_⟩) hHeld ?_ ?_
        rotate_left
        ·rintro w' ⟨s0, s1⟩
         go_simp
         with_reducible rfl
        rotate_left
        ·simp only [Act.put, List.setIfInBounds_toArray, List.set_cons_zero, List.set_cons_succ, i64_w, i32_w]
         rfl
        refine join_ (σ := Nat × Nat) 1 #[true,true,true,true,true,true,true,true,true,false] (fun s => [(72, I m), (73, .slice (some ⟨s.1, 0, none⟩) m m), (74, .agg #[.string nm, .int .u8 sd, .int .u8 kd, .slice (some ⟨s.1, 0, none⟩) m m]), (8, .pointer (some ⟨s.2, 0, none⟩))]) (fun s w' => FD wz w' m s.1 s.2) ?_ ?_
        rotate_left
        ·intro hCont
         refine two_ (i := 5) (j := 8) (Ni := some 72) (Nj := some 8) #[true,true,true,true,true,true,false,false,false,false] #[true,true,true,true,true,false,false,false,true,false] rfl rfl rfl rfl (by kernel_rfl) (by decide) (by decide) (fun K hK => ?_) (fun K hK => ?_)
         ·skip
          refine goes_ Try.func40 (by kernel_rfl) rfl #[.pointer (some ⟨r, 0, none⟩), .int .u8 sd] (by rfl) rfl rfl (by simp only [List.map_toArray, List.map_cons, List.map_nil]; rfl) ?_
          with_reducible refine (HRL.out _ (HZ.out.below' (below_drew1 (Below.refl wz.heap.size wz)))).mono ?_
          rintro e w5 ⟨rfl, rfl⟩
          refine ⟨_, rfl, ?_⟩
          refine hK.out _ _ ⟨pw_cell_below (below_drew1 (Below.refl wz.heap.size wz)) z0, pw_cell_below (below_drew1 (Below.refl wz.heap.size wz)) z1⟩ (fun hHeld => ?_)
          clear hK K
          refine norm_ (a' := ?_) ?_ ?_
          rotate_left
          ·show Act.put _ (some 72) _ = _
           simp only [Act.put, List.setIfInBounds_toArray, List.set_cons_zero, List.set_cons_succ, i64_w, i32_w]
           rfl
          refine two_ (i := 6) (j := 8) (Ni := some 73) (Nj := some 8) #[true,true,true,true,true,true,true,false,false,false] #[true,true,true,true,true,true,false,false,true,false] rfl rfl rfl rfl (by kernel_rfl) (by decide) (by decide) (fun K hK => ?_) (fun K hK => ?_)
          ·skip
           refine mk33_step m (by omega) (by rfl) rfl rfl rfl rfl ?_
           intro V y1 hgV hlV hV hS1
           have hZ1 : Below wz.heap.size wz y1 := below_step (below_drew1 (Below.refl wz.heap.size wz)) hS1
           refine hK.out _ _ ⟨pw_cell_below hZ1 z0, pw_cell_below hZ1 z1⟩ (fun hHeld => ?_)
           clear hK K
           refine norm_ (a' := ?_) ?_ ?_
           rotate_left
           ·show Act.put _ (some 73) _ = _
            simp only [Act.put, List.setIfInBounds_toArray, List.set_cons_zero, List.set_cons_succ, i64_w, i32_w]
            rfl
           refine two_ (i := 7) (j := 8) (Ni := some 74) (Nj := some 8) #[true,true,true,true,true,true,true,true,false,false] #[true,true,true,true,true,true,true,false,true,false] rfl rfl rfl rfl (by kernel_rfl) (by decide) (by decide) (fun K hK => ?_) (fun K hK => ?_)
           ·skip
            refine value_ (w1 := ?_) (v := ?_) (by rfl) rfl ?_ ?_
            rotate_left 2
            ·go_simp
             constructor
             ·rfl
             ·rfl
            refine hK.out _ _ ⟨pw_cell_below hZ1 z0, pw_cell_below hZ1 z1⟩ (fun hHeld => ?_)
            clear hK K
            refine norm_ (a' := ?_) ?_ ?_
            rotate_left
            ·show Act.put _ (some 74) _ = _
             simp only [Act.put, List.setIfInBounds_toArray, List.set_cons_zero, List.set_cons_succ, i64_w, i32_w]
             rfl
            refine one_ (i := 8) (N := some 8) #[true,true,true,true,true,true,true,true,true,false] rfl rfl (by kernel_rfl) (by decide) (fun K hK => ?_)
            refine al83_step (by rfl) rfl rfl ?_
            intro P y2 hgP hlP hP hS2
            have hZ2 : Below wz.heap.size wz y2 := below_step hZ1 hS2
            refine hK.out _ _ ⟨pw_cell_below hZ2 z0, pw_cell_below hZ2 z1⟩ (fun hHeld => ?_)
            clear hK K
            refine norm_ (a' := ?_) ?_ ?_
            rotate_left
            ·show Act.put _ (some 8) _ = _
             simp only [Act.put, List.setIfInBounds_toArray, List.set_cons_zero, List.set_cons_succ, i64_w, i32_w]
             rfl
            exact norm_ (by simp only [putAll, Act.put, List.setIfInBounds_toArray, List.set_cons_zero, List.set_cons_succ]) (hCont (V, P) _ ⟨hZ2, ((hS2.block _ hlV).trans hV), hP, hgV, (Nat.le_trans hZ1.size hgP)⟩)
           ·skip
            refine al83_step (by rfl) rfl rfl ?_
            intro P y2 hgP hlP hP hS2
            have hZ2 : Below wz.heap.size wz y2 := below_step hZ1 hS2
            refine hK.out _ _ ⟨pw_cell_below hZ2 z0, pw_cell_below hZ2 z1⟩ (fun hHeld => ?_)
            clear hK K
            refine norm_ (a' := ?_) ?_ ?_
            rotate_left
            ·show Act.put _ (some 8) _ = _
             simp only [Act.put, List.setIfInBounds_toArray, List.set_cons_zero, List.set_cons_succ, i64_w, i32_w]
             rfl
            refine one_ (i := 7) (N := some 74) #[true,true,true,true,true,true,true,true,true,false] rfl rfl (by kernel_rfl) (by decide) (fun K hK => ?_)
            refine value_ (w1 := ?_) (v := ?_) (by rfl) rfl ?_ ?_
            rotate_left 2
            ·go_simp
             constructor
             ·rfl
             ·rfl
            refine hK.out _ _ ⟨pw_cell_below hZ2 z0, pw_cell_below hZ2 z1⟩ (fun hHeld => ?_)
            clear hK K
            refine norm_ (a' := ?_) ?_ ?_
            rotate_left
            ·show Act.put _ (some 74) _ = _
             simp only [Act.put, List.setIfInBounds_toArray, List.set_cons_zero, List.set_cons_succ, i64_w, i32_w]
             rfl
            exact norm_ (by simp only [putAll, Act.put, List.setIfInBounds_toArray, List.set_cons_zero, List.set_cons_succ]) (hCont (V, P) _ ⟨hZ2, ((hS2.block _ hlV).trans hV), hP, hgV, (Nat.le_trans hZ1.size hgP)⟩)
          ·skip
           refine al83_step (by rfl) rfl rfl ?_
           intro P y1 hgP hlP hP hS1
           have hZ1 : Below wz.heap.size wz y1 := below_step (below_drew1 (Below.refl wz.heap.size wz)) hS1
           refine hK.out _ _ ⟨pw_cell_below hZ1 z0, pw_cell_below hZ1 z1⟩ (fun hHeld => ?_)
           clear hK K
           refine norm_ (a' := ?_) ?_ ?_
           rotate_left
           ·show Act.put _ (some 8) _ = _
            simp only [Act.put, List.setIfInBounds_toArray, List.set_cons_zero, List.set_cons_succ, i64_w, i32_w]
            rfl
           refine one_ (i := 6) (N := some 73) #[true,true,true,true,true,true,true,false,true,false] rfl rfl (by kernel_rfl) (by decide) (fun K hK => ?_)
           refine mk33_step m (by omega) (by rfl) rfl rfl rfl rfl ?_
           intro V y2 hgV hlV hV hS2
           have hZ2 : Below wz.heap.size wz y2 := below_step hZ1 hS2
           refine hK.out _ _ ⟨pw_cell_below hZ2 z0, pw_cell_below hZ2 z1⟩ (fun hHeld => ?_)
           clear hK K
           refine norm_ (a' := ?_) ?_ ?_
           rotate_left
           ·show Act.put _ (some 73) _ = _
            simp only [Act.put, List.setIfInBounds_toArray, List.set_cons_zero, List.set_cons_succ, i64_w, i32_w]
            rfl
           refine one_ (i := 7) (N := some 74) #[true,true,true,true,true,true,true,true,true,false] rfl rfl (by kernel_rfl) (by decide) (fun K hK => ?_)
           refine value_ (w1 := ?_) (v := ?_) (by rfl) rfl ?_ ?_
           rotate_left 2
           ·go_simp
            constructor
            ·rfl
            ·rfl
           refine hK.out _ _ ⟨pw_cell_below hZ2 z0, pw_cell_below hZ2 z1⟩ (fun hHeld => ?_)
           clear hK K
           refine norm_ (a' := ?_) ?_ ?_
           rotate_left
           ·show Act.put _ (some 74) _ = _
            simp only [Act.put, List.setIfInBounds_toArray, List.set_cons_zero, List.set_cons_succ, i64_w, i32_w]
            rfl
           exact norm_ (by simp only [putAll, Act.put, List.setIfInBounds_toArray, List.set_cons_zero, List.set_cons_succ]) (hCont (V, P) _ ⟨hZ2, hV, ((hS2.block _ hlP).trans hP), (Nat.le_trans hZ1.size hgV), hgP⟩)
         ·skip
          refine al83_step (by rfl) rfl rfl ?_
          intro P y1 hgP hlP hP hS1
          have hZ1 : Below wz.heap.size wz y1 := below_step (below_drew1 (Below.refl wz.heap.size wz)) hS1
          refine hK.out _ _ ⟨pw_cell_below hZ1 z0, pw_cell_below hZ1 z1⟩ (fun hHeld => ?_)
          clear hK K
          refine norm_ (a' := ?_) ?_ ?_
          rotate_left
          ·show Act.put _ (some 8) _ = _
           simp only [Act.put, List.setIfInBounds_toArray, List.set_cons_zero, List.set_cons_succ, i64_w, i32_w]
           rfl
          refine one_ (i := 5) (N := some 72) #[true,true,true,true,true,true,false,false,true,false] rfl rfl (by kernel_rfl) (by decide) (fun K hK => ?_)
          refine goes_ Try.func40 (by kernel_rfl) rfl #[.pointer (some ⟨r, 0, none⟩), .int .u8 sd] (by rfl) rfl rfl (by simp only [List.map_toArray, List.map_cons, List.map_nil]; rfl) ?_
          with_reducible refine (HRL.out _ (HZ.out.below' hZ1)).mono ?_
          rintro e w5 ⟨rfl, rfl⟩
          refine ⟨_, rfl, ?_⟩
          refine hK.out _ _ ⟨pw_cell_below hZ1 z0, pw_cell_below hZ1 z1⟩ (fun hHeld => ?_)
          clear hK K
          refine norm_ (a' := ?_) ?_ ?_
          rotate_left
          ·show Act.put _ (some 72) _ = _
           simp only [Act.put, List.setIfInBounds_toArray, List.set_cons_zero, List.set_cons_succ, i64_w, i32_w]
           rfl
          refine one_ (i := 6) (N := some 73) #[true,true,true,true,true,true,true,false,true,false] rfl rfl (by kernel_rfl) (by decide) (fun K hK => ?_)
          refine mk33_step m (by omega) (by rfl) rfl rfl rfl rfl ?_
          intro V y2 hgV hlV hV hS2
          have hZ2 : Below wz.heap.size wz y2 := below_step hZ1 hS2
          refine hK.out _ _ ⟨pw_cell_below hZ2 z0, pw_cell_below hZ2 z1⟩ (fun hHeld => ?_)
          clear hK K
          refine norm_ (a' := ?_) ?_ ?_
          rotate_left
          ·show Act.put _ (some 73) _ = _
           simp only [Act.put, List.setIfInBounds_toArray, List.set_cons_zero, List.set_cons_succ, i64_w, i32_w]
           rfl
          refine one_ (i := 7) (N := some 74) #[true,true,true,true,true,true,true,true,true,false] rfl rfl (by kernel_rfl) (by decide) (fun K hK => ?_)
          refine value_ (w1 := ?_) (v := ?_) (by rfl) rfl ?_ ?_
          rotate_left 2
          ·go_simp
           constructor
           ·rfl
           ·rfl
          refine hK.out _ _ ⟨pw_cell_below hZ2 z0, pw_cell_below hZ2 z1⟩ (fun hHeld => ?_)
          clear hK K
          refine norm_ (a' := ?_) ?_ ?_
          rotate_left
          ·show Act.put _ (some 74) _ = _
           simp only [Act.put, List.setIfInBounds_toArray, List.set_cons_zero, List.set_cons_succ, i64_w, i32_w]
           rfl
          exact norm_ (by simp only [putAll, Act.put, List.setIfInBounds_toArray, List.set_cons_zero, List.set_cons_succ]) (hCont (V, P) _ ⟨hZ2, hV, ((hS2.block _ hlP).trans hP), (Nat.le_trans hZ1.size hgV), hgP⟩)
        rintro ⟨V, P⟩ yw hFD
        have hHeld : True := trivial
        refine norm_ (a' := ?_) ?_ ?_
        rotate_left
        ·simp only [putAll, Act.put, List.setIfInBounds_toArray, List.set_cons_zero, List.set_cons_succ]
         rfl
        refine last_ (i := 9) (N := none) #[true,true,true,true,true,true,true,true,true,true] rfl rfl (by kernel_rfl) (by decide) (fun K hK => ?_)
        have c0 : yw.cell? ⟨P, 0, none⟩ = some (.string ⟨#[]⟩) := (cell_of hFD.hp).trans rfl
        have c1 : yw.cell? ⟨P, 1, none⟩ = some (.int .u8 0) := (cell_of hFD.hp).trans rfl
        have c2 : yw.cell? ⟨P, 2, none⟩ = some (.int .u8 0) := (cell_of hFD.hp).trans rfl
        have c3 : yw.cell? ⟨P, 3, none⟩ = some (.slice none 0 0) := (cell_of hFD.hp).trans rfl
        have f0 := free_of hFD.hp 0
        have f1 := free_of hFD.hp 1
        have f2 := free_of hFD.hp 2
        have f3 := free_of hFD.hp 3
        refine skip_ (w1 := ?_) (by rfl) rfl ?_ ?_
        rotate_left
        ·go_simp
         rfl
        refine hK.out _ _ ?_
        clear hK K
        refine done_ (by kernel_rfl) ?_
        have hPs : (((((yw.setCell ⟨P, 0, none⟩ (.string nm)).setCell ⟨P, 1, none⟩ (.int .u8 sd)).setCell ⟨P, 2, none⟩ (.int .u8 kd)).setCell ⟨P, 3, none⟩ (.slice (some ⟨V, 0, none⟩) m m))).heap[P]? = some (.cells #[.string nm, .int .u8 sd, .int .u8 kd, .slice (some ⟨V, 0, none⟩) m m] 83 (0, 0)) := by
         simp [World.setCell, Array.getElem?_modify, hFD.hp]
        have hBs : Below wz.heap.size wz (((((yw.setCell ⟨P, 0, none⟩ (.string nm)).setCell ⟨P, 1, none⟩ (.int .u8 sd)).setCell ⟨P, 2, none⟩ (.int .u8 kd)).setCell ⟨P, 3, none⟩ (.slice (some ⟨V, 0, none⟩) m m))) := (((hFD.bl.setCell (p := ⟨P, 0, none⟩) hFD.gp _).setCell (p := ⟨P, 1, none⟩) hFD.gp _).setCell (p := ⟨P, 2, none⟩) hFD.gp _).setCell (p := ⟨P, 3, none⟩) hFD.gp _
        have hPV : V ≠ P := fun e => by
         have h1 := hFD.hv
         rw [e, hFD.hp] at h1
         injection h1 with h1
         injection h1 with _ h1
         cases h1
        have hVs : (((((yw.setCell ⟨P, 0, none⟩ (.string nm)).setCell ⟨P, 1, none⟩ (.int .u8 sd)).setCell ⟨P, 2, none⟩ (.int .u8 kd)).setCell ⟨P, 3, none⟩ (.slice (some ⟨V, 0, none⟩) m m))).heap[V]? = some (.cells (List.replicate m (I 0)).toArray 33 (0, 0)) := by
         rw [Below.heap_setCell _ _ _ _ (fun e => hPV e), Below.heap_setCell _ _ _ _ (fun e => hPV e), Below.heap_setCell _ _ _ _ (fun e => hPV e), Below.heap_setCell _ _ _ _ (fun e => hPV e)]
         exact hFD.hv
        have hgV := hFD.gv
        clear hFD hHeld z0 z1 c0 c1 c2 c3 f0 f1 f2 f3
        go_wp2_with fail
        generalize ((((yw.setCell ⟨P, 0, none⟩ (.string nm)).setCell ⟨P, 1, none⟩ (.int .u8 sd)).setCell ⟨P, 2, none⟩ (.int .u8 kd)).setCell ⟨P, 3, none⟩ (.slice (some ⟨V, 0, none⟩) m m)) = wy at hPs hBs hVs ⊢
        have HZ2 := Lib.hid (HZ.out.below' hBs)
        have px0 : wy.cell? ⟨P, 0, none⟩ = some (.string nm) := (cell_of hPs).trans rfl
        have px1 : wy.cell? ⟨P, 1, none⟩ = some (.int .u8 sd) := (cell_of hPs).trans rfl
        have px2 : wy.cell? ⟨P, 2, none⟩ = some (.int .u8 kd) := (cell_of hPs).trans rfl
        have px3 : wy.cell? ⟨P, 3, none⟩ = some (.slice (some ⟨V, 0, none⟩) m m) := (cell_of hPs).trans rfl
        have x0 : wy.cell? ⟨r, 2, none⟩ = some (.slice (some ⟨b, 0, none⟩) ps.length c) := (cell_of HZ2.out.tb).trans rfl
        have x1 := px0
        have x2 := px1
        have x3 := px2
        have x4 := px3
        obtain ⟨px, hpx⟩ : ∃ px : Rw, px = (⟨nm, sd, kd, List.replicate m 0⟩, .slice (some ⟨V, 0, none⟩) m m) := ⟨_, rfl⟩
        have HPX := Lib.hid hpx
        have hpx1 : px.2.oneCell' = true := by rw [hpx]; rfl
        obtain ⟨A2, hA2⟩ : ∃ A2, (if c = i then some (⟨b, 0, none⟩ : Addr) else some ⟨b, i * 4, none⟩) = A2 := ⟨_, rfl⟩
        have HT12 := Lib.hid (fun (W : World) (q : Below wy.heap.size wy W) => (HZ2.out.below' q).part2 hlen i (by omega) hA2)
        have HT1 := Lib.hid (fun (W : World) (q : Below wy.heap.size wy W) => (HT12.out W q).1)
        have HT2 := Lib.hid (fun (W : World) (q : Below wy.heap.size wy W) => (HT12.out W q).2)
        have HBY := Lib.hid (below_then HBW.out HBW.out.size hBs)
        have HVs := Lib.hid hVs
        have HGV := Lib.hid hgV
        have hcs2 : ps.length - i ≤ 1000 := by omega
        have hic : i ≤ c := by have := HZ2.out.cp; omega
        clear hPs hBs hVs px0 px1 px2 px3 hpx hgV
        refine start_ (n := 22) (S := fun w' => w'.cell? ⟨r, 2, none⟩ = some (.slice (some ⟨b, 0, none⟩) ps.length c) ∧ w'.cell? ⟨P, 0, none⟩ = some (.string nm) ∧ w'.cell? ⟨P, 1, none⟩ = some (.int .u8 sd) ∧ w'.cell? ⟨P, 2, none⟩ = some (.int .u8 kd) ∧ w'.cell? ⟨P, 3, none⟩ = some (.slice (some ⟨V, 0, none⟩) m m)) (ds := [21]) #[false,false,false,false,false,false,false,false,false,false,false,false,false,false,false,false,false,false,false,false,false,false] (by kernel_rfl) rfl rfl ⟨x0, x1, x2, x3, x4⟩ (fun hHeld => ?_)
        refine pure_ (i := 0) (N := some 75) (v := ?_) (a' := ?_) #[true,false,false,false,false,false,false,false,false,false,false,false,false,false,false,false,false,false,false,false,false,false] rfl rfl (by kernel_rfl) (fun _ _ _ h => h) (Or.inl ⟨by rfl, ?_⟩) ?_ ?_
        rotate_left
        ·intro w'
         go_simp
         with_reducible rfl
        rotate_left
        ·simp only [Act.put, List.setIfInBounds_toArray, List.set_cons_zero, List.set_cons_succ, i64_w, i32_w]
         rfl
        refine pure_ (i := 2) (N := some 77) (v := ?_) (a' := ?_) #[true,false,true,false,false,false,false,false,false,false,false,false,false,false,false,false,false,false,false,false,false,false] rfl rfl (by kernel_rfl) (fun _ _ _ h => h) (Or.inl ⟨by rfl, ?_⟩) ?_ ?_
        rotate_left
        ·intro w'
         go_simp
         with_reducible rfl
        rotate_left
        ·simp only [Act.put, List.setIfInBounds_toArray, List.set_cons_zero, List.set_cons_succ, i64_w, i32_w]
         rfl
        refine pure_ (i := 3) (N := some 78) (v := ?_) (a' := ?_) #[true,false,true,true,false,false,false,false,false,false,false,false,false,false,false,false,false,false,false,false,false,false] rfl rfl (by kernel_rfl) (fun _ _ _ h => h) (Or.inl ⟨by rfl, ?_⟩) ?_ ?_
        rotate_left
        ·intro w'
         go_simp
         with_reducible rfl
        rotate_left
        ·simp only [Act.put, List.setIfInBounds_toArray, List.set_cons_zero, List.set_cons_succ, i64_w, i32_w]
         rfl
        refine pure_ (i := 4) (N := some 79) (v := ?_) (a' := ?_) #[true,false,true,true,true,false,false,false,false,false,false,false,false,false,false,false,false,false,false,false,false,false] rfl rfl (by kernel_rfl) (fun _ _ _ h => h) (Or.inl ⟨by rfl, ?_⟩) ?_ ?_
        rotate_left
        ·intro w'
         go_simp
         with_reducible rfl
        rotate_left
        ·simp only [Act.put, List.setIfInBounds_toArray, List.set_cons_zero, List.set_cons_succ, i64_w, i32_w]
         rfl
        refine pure_ (i := 6) (N := some 81) (v := ?_) (a' := ?_) #[true,false,true,true,true,false,true,false,false,false,false,false,false,false,false,false,false,false,false,false,false,false] rfl rfl (by kernel_rfl) (fun _ _ _ h => h) (Or.inl ⟨by rfl, ?_⟩) ?_ ?_
        rotate_left
        ·intro w'
         go_simp
         with_reducible rfl
        rotate_left
        ·simp only [Act.put, List.setIfInBounds_toArray, List.set_cons_zero, List.set_cons_succ, i64_w, i32_w]
         rfl
        refine pure_ (i := 12) (N := some 87) (v := ?_) (a' := ?_) #[true,false,true,true,true,false,true,false,false,false,false,false,true,false,false,false,false,false,false,false,false,false] rfl rfl (by kernel_rfl) (fun _ _ _ h => h) (Or.inl ⟨by rfl, ?_⟩) ?_ ?_
        rotate_left
        ·intro w'
         go_simp
         with_reducible rfl
        rotate_left
        ·simp only [Act.put, List.setIfInBounds_toArray, List.set_cons_zero, List.set_cons_succ, i64_w, i32_w]
         rfl
        refine pure_ (i := 13) (N := some 88) (v := ?_) (a' := ?_) #[true,false,true,true,true,false,true,false,false,false,false,false,true,true,false,false,false,false,false,false,false,false] rfl rfl (by kernel_rfl) (fun _ _ _ h => h) (Or.inl ⟨by rfl, ?_⟩) ?_ ?_
        rotate_left
        ·intro w'
         go_simp
         with_reducible rfl
        rotate_left
        ·simp only [Act.put, List.setIfInBounds_toArray, List.set_cons_zero, List.set_cons_succ, i64_w, i32_w]
         rfl
        refine pure_ (i := 14) (N := some 89) (v := ?_) (a' := ?_) #[true,false,true,true,true,false,true,false,false,false,false,false,true,true,true,false,false,false,false,false,false,false] rfl rfl (by kernel_rfl) (fun _ _ _ h => h) (Or.inl ⟨by rfl, ?_⟩) ?_ ?_
        rotate_left
        ·intro w'
         go_simp
         with_reducible rfl
        rotate_left
        ·simp only [Act.put, List.setIfInBounds_toArray, List.set_cons_zero, List.set_cons_succ, i64_w, i32_w]
         rfl
        refine pure_ (i := 16) (N := some 91) (v := ?_) (a' := ?_) #[true,false,true,true,true,false,true,false,false,false,false,false,true,true,true,false,true,false,false,false,false,false] rfl rfl (by kernel_rfl) (fun _ _ _ h => h) (Or.inl ⟨by rfl, ?_⟩) ?_ ?_
        rotate_left
        ·intro w'
         go_simp
         with_reducible rfl
        rotate_left
        ·simp only [Act.put, List.setIfInBounds_toArray, List.set_cons_zero, List.set_cons_succ, i64_w, i32_w]
         rfl
        refine take_ (i := 5) (N := some 80) (v := ?_) (a' := ?_) #[true,false,true,true,true,true,true,false,false,false,false,false,true,true,true,false,true,false,false,false,false,false] rfl rfl (by kernel_rfl) (fun _ _ _ h => h) (Or.inl ⟨by rfl, ?_⟩) hHeld ?_ ?_
        rotate_left
        ·rintro w' ⟨s0, s1, s2, s3, s4⟩
         go_simp
         with_reducible rfl
        rotate_left
        ·simp only [Act.put, List.setIfInBounds_toArray, List.set_cons_zero, List.set_cons_succ, i64_w, i32_w]
         rfl
        refine pure_ (i := 7) (N := some 82) (v := ?_) (a' := ?_) #[true,false,true,true,true,true,true,true,false,false,false,false,true,true,true,false,true,false,false,false,false,false] rfl rfl (by kernel_rfl) (fun _ _ _ h => h) (Or.inl ⟨by rfl, ?_⟩) ?_ ?_
        rotate_left
        ·intro w'
         go_simp
         with_reducible rfl
        rotate_left
        ·simp only [Act.put, List.setIfInBounds_toArray, List.set_cons_zero, List.set_cons_succ, i64_w, i32_w]
         rfl
        refine take_ (i := 9) (N := some 84) (v := ?_) (a' := ?_) #[true,false,true,true,true,true,true,true,false,true,false,false,true,true,true,false,true,false,false,false,false,false] rfl rfl (by kernel_rfl) (fun _ _ _ h => h) (Or.inl ⟨by rfl, ?_⟩) hHeld ?_ ?_
        rotate_left
        ·rintro w' ⟨s0, s1, s2, s3, s4⟩
         go_simp
         with_reducible rfl
        rotate_left
        ·simp only [Act.put, List.setIfInBounds_toArray, List.set_cons_zero, List.set_cons_succ, i64_w, i32_w]
         rfl
        refine take_ (i := 15) (N := some 90) (v := ?_) (a' := ?_) #[true,false,true,true,true,true,true,true,false,true,false,false,true,true,true,true,true,false,false,false,false,false] rfl rfl (by kernel_rfl) (fun _ _ _ h => h) (Or.inl ⟨by rfl, ?_⟩) hHeld ?_ ?_
        rotate_left
        ·rintro w' ⟨s0, s1, s2, s3, s4⟩
         go_simp
         with_reducible rfl
        rotate_left
        ·simp only [Act.put, List.setIfInBounds_toArray, List.set_cons_zero, List.set_cons_succ, i64_w, i32_w]
         rfl
        refine pure_ (i := 17) (N := some 92) (v := ?_) (a' := ?_) #[true,false,true,true,true,true,true,true,false,true,false,false,true,true,true,true,true,true,false,false,false,false] rfl rfl (by kernel_rfl) (fun _ _ _ h => h) (Or.inl ⟨by rfl, ?_⟩) ?_ ?_
        rotate_left
        ·intro w'
         go_simp
         with_reducible rfl
        rotate_left
        ·simp only [Act.put, List.setIfInBounds_toArray, List.set_cons_zero, List.set_cons_succ, i64_w, i32_w]
         rfl
        refine join_ (σ := Nat × Value × Nat) 5 #[true,true,true,true,true,true,true,true,true,true,true,false,true,true,true,true,true,true,false,false,false,false] (fun s => [(76, .slice (some ⟨s.1, 0, none⟩) 0 0), (83, s.2.1), (85, .slice (some ⟨s.2.2, 0, none⟩) 1 1)]) (fun s w' => FE wy w' (ps.take i) px s.2.1 s.2.2) ?_ ?_
        rotate_left
        ·intro hCont
         refine two_ (i := 1) (j := 10) (Ni := some 76) (Nj := some 85) #[true,true,true,true,true,true,true,true,false,true,false,false,true,true,true,true,true,true,false,false,false,false] #[true,false,true,true,true,true,true,true,false,true,true,false,true,true,true,true,true,true,false,false,false,false] rfl rfl rfl rfl (by kernel_rfl) (by decide) (by decide) (fun K hK => ?_) (fun K hK => ?_)
         ·skip
          refine row0_step (by rfl) rfl rfl ?_
          intro B1 u1 hb1 hl1 hR1 hS1
          have hY1 : Below wy.heap.size wy u1 := below_step (below_drew1 (Below.refl wy.heap.size wy)) hS1
          refine hK.out _ _ ⟨pw_cell_below hY1 x0, pw_cell_below hY1 x1, pw_cell_below hY1 x2, pw_cell_below hY1 x3, pw_cell_below hY1 x4⟩ (fun hHeld => ?_)
          clear hK K
          refine norm_ (a' := ?_) ?_ ?_
          rotate_left
          ·show Act.put _ (some 76) _ = _
           simp only [Act.put, List.setIfInBounds_toArray, List.set_cons_zero, List.set_cons_succ, i64_w, i32_w]
           rfl
          refine two_ (i := 8) (j := 10) (Ni := some 83) (Nj := some 85) #[true,true,true,true,true,true,true,true,true,true,false,false,true,true,true,true,true,true,false,false,false,false] #[true,true,true,true,true,true,true,true,false,true,true,false,true,true,true,true,true,true,false,false,false,false] rfl rfl rfl rfl (by kernel_rfl) (by decide) (by decide) (fun K hK => ?_) (fun K hK => ?_)
          ·skip
           have hRz : Kd.R kR 83 u1 wy.heap.size (fun _ => True) (.slice (some ⟨B1, 0, none⟩) 0 0) [] := Kd.R_lower hR1 (below_drew1 (Below.refl wy.heap.size wy)).size
           refine Kd.R_append_rows_step kR (Rr := E4) (w0 := wy) wy.heap.size (by rfl) (.tmp 76) (.tmp 82) 84 83 (.agg #[.string ⟨#[]⟩, .int .u8 0, .int .u8 0, .slice none 0 0]) 56 rfl Try.underlying84 info83 rfl (by decide) (by decide) (.slice (some ⟨B1, 0, none⟩) 0 0) [] (ps.take i) (some ⟨b, 0, none⟩) i c (fun _ => True) (fun _ => False) rfl rfl hRz (HT1.out _ hY1) ?aK (fun _ h => h.elim) (fun _ _ => trivial) hY1 hY1.size ?aL ?_
           (case aK => (intro z cs h; exact h))
           (case aL => (simp only [List.length_append, List.length_take, List.length_cons, List.length_nil]; omega))
           intro v2 u2 hV2 hY2 hG2 _
           rw [List.nil_append] at hV2
           have hS2 : u1.grownBy u2 (some B1) := hG2
           refine hK.out _ _ ⟨pw_cell_below hY2 x0, pw_cell_below hY2 x1, pw_cell_below hY2 x2, pw_cell_below hY2 x3, pw_cell_below hY2 x4⟩ (fun hHeld => ?_)
           clear hK K
           refine norm_ (a' := ?_) ?_ ?_
           rotate_left
           ·show Act.put _ (some 83) _ = _
            simp only [Act.put, List.setIfInBounds_toArray, List.set_cons_zero, List.set_cons_succ, i64_w, i32_w]
            rfl
           refine one_ (i := 10) (N := some 85) #[true,true,true,true,true,true,true,true,true,true,true,false,true,true,true,true,true,true,false,false,false,false] rfl rfl (by kernel_rfl) (by decide) (fun K hK => ?_)
           refine row1_step px (by rfl) rfl rfl (by rw [HPX.out]; rfl) ?_
           intro B3 u3 hb3 hl3 hX3 hS3
           have hY3 : Below wy.heap.size wy u3 := below_step hY2 hS3
           refine hK.out _ _ ⟨pw_cell_below hY3 x0, pw_cell_below hY3 x1, pw_cell_below hY3 x2, pw_cell_below hY3 x3, pw_cell_below hY3 x4⟩ (fun hHeld => ?_)
           clear hK K
           refine norm_ (a' := ?_) ?_ ?_
           rotate_left
           ·show Act.put _ (some 85) _ = _
            simp only [Act.put, List.setIfInBounds_toArray, List.set_cons_zero, List.set_cons_succ, i64_w, i32_w]
            rfl
           exact norm_ (by simp only [putAll, Act.put, List.setIfInBounds_toArray, List.set_cons_zero, List.set_cons_succ]) (hCont (B1, v2, B3) _ ⟨hY3, (Kd.R_below hV2 hS3), hX3⟩)
          ·skip
           refine row1_step px (by rfl) rfl rfl (by rw [HPX.out]; rfl) ?_
           intro B2 u2 hb2 hl2 hX2 hS2
           have hY2 : Below wy.heap.size wy u2 := below_step hY1 hS2
           refine hK.out _ _ ⟨pw_cell_below hY2 x0, pw_cell_below hY2 x1, pw_cell_below hY2 x2, pw_cell_below hY2 x3, pw_cell_below hY2 x4⟩ (fun hHeld => ?_)
           clear hK K
           refine norm_ (a' := ?_) ?_ ?_
           rotate_left
           ·show Act.put _ (some 85) _ = _
            simp only [Act.put, List.setIfInBounds_toArray, List.set_cons_zero, List.set_cons_succ, i64_w, i32_w]
            rfl
           refine one_ (i := 8) (N := some 83) #[true,true,true,true,true,true,true,true,true,true,true,false,true,true,true,true,true,true,false,false,false,false] rfl rfl (by kernel_rfl) (by decide) (fun K hK => ?_)
           have hRz : Kd.R kR 83 u2 wy.heap.size (fun _ => True) (.slice (some ⟨B1, 0, none⟩) 0 0) [] := Kd.R_lower (Kd.R_below hR1 hS2) (below_drew1 (Below.refl wy.heap.size wy)).size
           refine Kd.R_append_rows_step kR (Rr := E4) (w0 := wy) wy.heap.size (by rfl) (.tmp 76) (.tmp 82) 84 83 (.agg #[.string ⟨#[]⟩, .int .u8 0, .int .u8 0, .slice none 0 0]) 56 rfl Try.underlying84 info83 rfl (by decide) (by decide) (.slice (some ⟨B1, 0, none⟩) 0 0) [] (ps.take i) (some ⟨b, 0, none⟩) i c (fun _ => True) (fun _ => False) rfl rfl hRz (HT1.out _ hY2) ?aK (fun _ h => h.elim) (fun _ _ => trivial) hY2 hY2.size ?aL ?_
           (case aK => (intro z cs h; exact h))
           (case aL => (simp only [List.length_append, List.length_take, List.length_cons, List.length_nil]; omega))
           intro v3 u3 hV3 hY3 hG3 _
           rw [List.nil_append] at hV3
           have hS3 : u2.grownBy u3 (some B1) := hG3
           refine hK.out _ _ ⟨pw_cell_below hY3 x0, pw_cell_below hY3 x1, pw_cell_below hY3 x2, pw_cell_below hY3 x3, pw_cell_below hY3 x4⟩ (fun hHeld => ?_)
           clear hK K
           refine norm_ (a' := ?_) ?_ ?_
           rotate_left
           ·show Act.put _ (some 83) _ = _
            simp only [Act.put, List.setIfInBounds_toArray, List.set_cons_zero, List.set_cons_succ, i64_w, i32_w]
            rfl
           exact norm_ (by simp only [putAll, Act.put, List.setIfInBounds_toArray, List.set_cons_zero, List.set_cons_succ]) (hCont (B1, v3, B2) _ ⟨hY3, hV3, ((hS3.block _ hl2 (by intro e; injection e with e; have := hl1; omega)).trans hX2)⟩)
         ·skip
          refine row1_step px (by rfl) rfl rfl (by rw [HPX.out]; rfl) ?_
          intro B1 u1 hb1 hl1 hX1 hS1
          have hY1 : Below wy.heap.size wy u1 := below_step (below_drew1 (Below.refl wy.heap.size wy)) hS1
          refine hK.out _ _ ⟨pw_cell_below hY1 x0, pw_cell_below hY1 x1, pw_cell_below hY1 x2, pw_cell_below hY1 x3, pw_cell_below hY1 x4⟩ (fun hHeld => ?_)
          clear hK K
          refine norm_ (a' := ?_) ?_ ?_
          rotate_left
          ·show Act.put _ (some 85) _ = _
           simp only [Act.put, List.setIfInBounds_toArray, List.set_cons_zero, List.set_cons_succ, i64_w, i32_w]
           rfl
          refine one_ (i := 1) (N := some 76) #[true,true,true,true,true,true,true,true,false,true,true,false,true,true,true,true,true,true,false,false,false,false] rfl rfl (by kernel_rfl) (by decide) (fun K hK => ?_)
          refine row0_step (by rfl) rfl rfl ?_
          intro B2 u2 hb2 hl2 hR2 hS2
          have hY2 : Below wy.heap.size wy u2 := below_step hY1 hS2
          refine hK.out _ _ ⟨pw_cell_below hY2 x0, pw_cell_below hY2 x1, pw_cell_below hY2 x2, pw_cell_below hY2 x3, pw_cell_below hY2 x4⟩ (fun hHeld => ?_)
          clear hK K
          refine norm_ (a' := ?_) ?_ ?_
          rotate_left
          ·show Act.put _ (some 76) _ = _
           simp only [Act.put, List.setIfInBounds_toArray, List.set_cons_zero, List.set_cons_succ, i64_w, i32_w]
           rfl
          refine one_ (i := 8) (N := some 83) #[true,true,true,true,true,true,true,true,true,true,true,false,true,true,true,true,true,true,false,false,false,false] rfl rfl (by kernel_rfl) (by decide) (fun K hK => ?_)
          have hRz : Kd.R kR 83 u2 wy.heap.size (fun _ => True) (.slice (some ⟨B2, 0, none⟩) 0 0) [] := Kd.R_lower hR2 hY1.size
          refine Kd.R_append_rows_step kR (Rr := E4) (w0 := wy) wy.heap.size (by rfl) (.tmp 76) (.tmp 82) 84 83 (.agg #[.string ⟨#[]⟩, .int .u8 0, .int .u8 0, .slice none 0 0]) 56 rfl Try.underlying84 info83 rfl (by decide) (by decide) (.slice (some ⟨B2, 0, none⟩) 0 0) [] (ps.take i) (some ⟨b, 0, none⟩) i c (fun _ => True) (fun _ => False) rfl rfl hRz (HT1.out _ hY2) ?aK (fun _ h => h.elim) (fun _ _ => trivial) hY2 hY2.size ?aL ?_
          (case aK => (intro z cs h; exact h))
          (case aL => (simp only [List.length_append, List.length_take, List.length_cons, List.length_nil]; omega))
          intro v3 u3 hV3 hY3 hG3 _
          rw [List.nil_append] at hV3
          have hS3 : u2.grownBy u3 (some B2) := hG3
          refine hK.out _ _ ⟨pw_cell_below hY3 x0, pw_cell_below hY3 x1, pw_cell_below hY3 x2, pw_cell_below hY3 x3, pw_cell_below hY3 x4⟩ (fun hHeld => ?_)
          clear hK K
          refine norm_ (a' := ?_) ?_ ?_
          rotate_left
          ·show Act.put _ (some 83) _ = _
           simp only [Act.put, List.setIfInBounds_toArray, List.set_cons_zero, List.set_cons_succ, i64_w, i32_w]
           rfl
          exact norm_ (by simp only [putAll, Act.put, List.setIfInBounds_toArray, List.set_cons_zero, List.set_cons_succ]) (hCont (B2, v3, B1) _ ⟨hY3, hV3, ((hS3.block _ (Nat.lt_of_lt_of_le hl1 hS2.size) (by intro e; injection e with e; omega)).trans ((hS2.block _ hl1).trans hX1))⟩)
        rintro ⟨B0, v, Bx⟩ u hF
        have hHeld : True := trivial
        refine norm_ (a' := ?_) ?_ ?_
        rotate_left
        ·simp only [putAll, Act.put, List.setIfInBounds_toArray, List.set_cons_zero, List.set_cons_succ]
         rfl
        refine one_ (i := 11) (N := some 86) #[true,true,true,true,true,true,true,true,true,true,true,true,true,true,true,true,true,true,false,false,false,false] rfl rfl (by kernel_rfl) (by decide) (fun K hK => ?_)
        refine Kd.R_append_rows_step kR (Rr := E4) (w0 := wy) wy.heap.size (by rfl) (.tmp 83) (.tmp 85) 84 83 (.agg #[.string ⟨#[]⟩, .int .u8 0, .int .u8 0, .slice none 0 0]) 56 rfl Try.underlying84 info83 rfl (by decide) (by decide) v (ps.take i) [px] (some ⟨Bx, 0, none⟩) 1 1 (fun _ => True) (fun k => some k ≠ v.ownBlock) rfl rfl hF.own (one_reads hF.box hpx1) ?aK (fun _ h => ⟨trivial, h⟩) (fun _ _ => trivial) hF.bl hF.bl.size ?aL ?_
        (case aK => (intro z cs h; exact h))
        (case aL => (simp only [List.length_append, List.length_take, List.length_cons, List.length_nil]; omega))
        intro v9 u9 hV9 hY9 hG9 _
        refine hK.out _ _ ⟨pw_cell_below hY9 x0, pw_cell_below hY9 x1, pw_cell_below hY9 x2, pw_cell_below hY9 x3, pw_cell_below hY9 x4⟩ (fun hHeld => ?_)
        clear hK K
        refine norm_ (a' := ?_) ?_ ?_
        rotate_left
        ·show Act.put _ (some 86) _ = _
         simp only [Act.put, List.setIfInBounds_toArray, List.set_cons_zero, List.set_cons_succ, i64_w, i32_w]
         rfl
        refine one_ (i := 18) (N := some 93) #[true,true,true,true,true,true,true,true,true,true,true,true,true,true,true,true,true,true,true,false,false,false] rfl rfl (by kernel_rfl) (by decide) (fun K hK => ?_)
        refine Kd.R_append_rows_step kR (Rr := E4) (w0 := wy) wy.heap.size (by rfl) (.tmp 86) (.tmp 92) 84 83 (.agg #[.string ⟨#[]⟩, .int .u8 0, .int .u8 0, .slice none 0 0]) 56 rfl Try.underlying84 info83 rfl (by decide) (by decide) v9 (ps.take i ++ [px]) (ps.drop i) A2 (ps.length - i) (c - i) (fun _ => True) (fun _ => False) rfl rfl hV9 (HT2.out _ hY9) ?aK (fun _ h => h.elim) (fun _ _ => trivial) hY9 hY9.size ?aL ?_
        (case aK => (intro z cs h; exact h))
        (case aL => (simp only [List.length_append, List.length_take, List.length_cons, List.length_nil]; omega))
        intro v18 u18 hV18 hY18 hG18 _
        obtain ⟨A9, c9, rfl⟩ := Kd.R_slice hV18
        have hr18 := (hY18.block _ HZ2.out.rlt).trans HZ2.out.tb
        have c9' : u18.cell? ⟨r, 2, none⟩ = some (.slice (some ⟨b, 0, none⟩) ps.length c) := (cell_of hr18).trans rfl
        have f9' := free_of hr18 2
        refine hK.out _ _ ⟨pw_cell_below hY18 x0, pw_cell_below hY18 x1, pw_cell_below hY18 x2, pw_cell_below hY18 x3, pw_cell_below hY18 x4⟩ (fun hHeld => ?_)
        clear hK K
        refine norm_ (a' := ?_) ?_ ?_
        rotate_left
        ·show Act.put _ (some 93) _ = _
         simp only [Act.put, List.setIfInBounds_toArray, List.set_cons_zero, List.set_cons_succ, i64_w, i32_w]
         rfl
        refine pure_ (i := 19) (N := some 94) (v := ?_) (a' := ?_) #[true,true,true,true,true,true,true,true,true,true,true,true,true,true,true,true,true,true,true,true,false,false] rfl rfl (by kernel_rfl) (fun _ _ _ h => h) (Or.inl ⟨by rfl, ?_⟩) ?_ ?_
        rotate_left
        ·intro w'
         go_simp
         with_reducible rfl
        rotate_left
        ·simp only [Act.put, List.setIfInBounds_toArray, List.set_cons_zero, List.set_cons_succ, i64_w, i32_w]
         rfl
        refine pure_ (i := 20) (N := some 95) (v := ?_) (a' := ?_) #[true,true,true,true,true,true,true,true,true,true,true,true,true,true,true,true,true,true,true,true,true,false] rfl rfl (by kernel_rfl) (fun _ _ _ h => h) (Or.inl ⟨by rfl, ?_⟩) ?_ ?_
        rotate_left
        ·intro w'
         go_simp
         with_reducible rfl
        rotate_left
        ·simp only [Act.put, List.setIfInBounds_toArray, List.set_cons_zero, List.set_cons_succ, i64_w, i32_w]
         rfl
        refine last_ (i := 21) (N := none) #[true,true,true,true,true,true,true,true,true,true,true,true,true,true,true,true,true,true,true,true,true,true] rfl rfl (by kernel_rfl) (by decide) (fun K hK => ?_)
        refine skip_ (w1 := ?_) (by rfl) rfl ?_ ?_
        rotate_left
        ·go_simp
         rfl
        refine hK.out _ _ ?_
        clear hK K
        refine done_ (by kernel_rfl) ?_
        have hin : ∀ (p : Rw), p ∈ ps.take i ++ [px] ++ ps.drop i → InRow bad u18 p := fun p hp => by
         have hold : p ∈ ps → InRow bad u18 p := fun q => (HZ2.out.inn p q).mono hY18.size (fun b hb _ => hY18.block b hb) (fun _ _ z => z)
         rcases List.mem_append.1 hp with hp | hp
         ·rcases List.mem_append.1 hp with hp | hp
          ·exact hold (List.mem_of_mem_take hp)
          ·rw [List.mem_singleton.1 hp, HPX.out]
           refine ⟨some ⟨V, 0, none⟩, m, by simp, by simp, .inr ⟨V, rfl, fun q => by have := HZ.out.lt V q; have := HGV.out; have := HZB.out V q; omega, ?_, fun j v hj => ?_⟩⟩
           ·exact Nat.lt_of_lt_of_le (Array.getElem?_eq_some_iff.1 HVs.out).1 hY18.size
           ·rw [cell_of ((hY18.block _ (Array.getElem?_eq_some_iff.1 HVs.out).1).trans HVs.out)]
            simp only [List.map_replicate] at hj
            rw [List.getElem?_toArray]
            exact hj
         ·exact hold (List.mem_of_mem_drop hp)
        obtain ⟨A7, c7, e1, e2, e3⟩ := IsR.put (ps' := ps.take i ++ [px] ++ ps.drop i) HT0.out (below_then HBY.out HBY.out.size hY18) (v := .slice A9 (ps.take i ++ [px] ++ ps.drop i).length c9) (R_rows (Kd.R_lower hV18 HBY.out.size)) hin
        have hlx : (ps.take i ++ [px] ++ ps.drop i).length = i + (ps.length - i + 1) := by simp; omega
        rw [hlx] at e2 e3
        have HE2 := Lib.hid e2
        have HE3 := Lib.hid e3
        clear hlx hV18 hin e1 e2 e3 hY18 hr18 c9' f9' hHeld
        go_wp2_with fail
        go_ret
        first | refine ⟨rfl, _, ⟨_, _, HE2.out⟩, ?_, HE3.out⟩ | refine ⟨rfl, _, _, _, HE2.out, ?_, HE3.out⟩
        rw [HPX.out, HM.out, Int.toNat_natCast]
        unfold insk
        have htd := tw_at (f := fun c : Cl => decide (klt c.k25 (⟨nm, sd, kd, List.replicate m 0⟩ : Cl).k25)) (l := cls ps) (i := i) (by rw [hcl]; omega) (fun j a ha hj => by
         unfold cls at ha
         rw [List.getElem?_map] at ha
         obtain ⟨q, hq, rfl⟩ := Option.map_eq_some_iff.1 ha
         exact decide_eq_true (HBF.out j q hq hj)) (fun a ha => by
         unfold cls at ha
         rw [List.getElem?_map] at ha
         obtain ⟨q, hq, rfl⟩ := Option.map_eq_some_iff.1 ha
         exact HNX.out q hq)
        rw [htd.1, htd.2]
        unfold cls
        simp [List.map_take, List.map_drop]
      ·have hil : i = ps.length := by omega
       have d1 : decide ((i : Int) < (ps.length : Int)) = false := decide_eq_false (by omega)
       have HIL := Lib.hid hil
       clear hil
       go_wp2_with fail
       refine start_ (n := 19) (S := fun w' => w'.cell? ⟨r, 2, none⟩ = some (.slice A ps.length c)) (ds := []) #[false,false,false,false,false,false,false,false,false,false,false,false,false,false,false,false,false,false,false] (by kernel_rfl) rfl rfl (t2) (fun hHeld => ?_)
       refine pure_ (i := 0) (N := some 46) (v := ?_) (a' := ?_) #[true,false,false,false,false,false,false,false,false,false,false,false,false,false,false,false,false,false,false] rfl rfl (by kernel_rfl) (fun _ _ _ h => h) (Or.inl ⟨by rfl, ?_⟩) ?_ ?_
       rotate_left
       ·intro w'
        go_simp
        with_reducible rfl
       rotate_left
       ·simp only [Act.put, List.setIfInBounds_toArray, List.set_cons_zero, List.set_cons_succ, i64_w, i32_w]
        rfl
       refine pure_ (i := 1) (N := some 47) (v := ?_) (a' := ?_) #[true,true,false,false,false,false,false,false,false,false,false,false,false,false,false,false,false,false,false] rfl rfl (by kernel_rfl) (fun _ _ _ h => h) (Or.inl ⟨by rfl, ?_⟩) ?_ ?_
       rotate_left
       ·intro w'
        go_simp
        with_reducible rfl
       rotate_left
       ·simp only [Act.put, List.setIfInBounds_toArray, List.set_cons_zero, List.set_cons_succ, i64_w, i32_w]
        rfl
       refine pure_ (i := 2) (N := some 48) (v := ?_) (a' := ?_) #[true,true,true,false,false,false,false,false,false,false,false,false,false,false,false,false,false,false,false] rfl rfl (by kernel_rfl) (fun _ _ _ h => h) (Or.inl ⟨by rfl, ?_⟩) ?_ ?_
       rotate_left
       ·intro w'
        go_simp
        with_reducible rfl
       rotate_left
       ·simp only [Act.put, List.setIfInBounds_toArray, List.set_cons_zero, List.set_cons_succ, i64_w, i32_w]
        rfl
       refine pure_ (i := 3) (N := some 49) (v := ?_) (a' := ?_) #[true,true,true,true,false,false,false,false,false,false,false,false,false,false,false,false,false,false,false] rfl rfl (by kernel_rfl) (fun _ _ _ h => h) (Or.inl ⟨by rfl, ?_⟩) ?_ ?_
       rotate_left
       ·intro w'
        go_simp
        with_reducible rfl
       rotate_left
       ·simp only [Act.put, List.setIfInBounds_toArray, List.set_cons_zero, List.set_cons_succ, i64_w, i32_w]
        rfl
       refine take_ (i := 4) (N := some 50) (v := ?_) (a' := ?_) #[true,true,true,true,true,false,false,false,false,false,false,false,false,false,false,false,false,false,false] rfl rfl (by kernel_rfl) (fun _ _ _ h => h) (Or.inl ⟨by rfl, ?_⟩) hHeld ?_ ?_
       rotate_left
       ·intro w' s0
        go_simp
        with_reducible rfl
       rotate_left
       ·simp only [Act.put, List.setIfInBounds_toArray, List.set_cons_zero, List.set_cons_succ, i64_w, i32_w]
        rfl
       refine pure_ (i := 5) (N := some 51) (v := ?_) (a' := ?_) #[true,true,true,true,true,true,false,false,false,false,false,false,false,false,false,false,false,false,false] rfl rfl (by kernel_rfl) (fun _ _ _ h => h) (Or.inl ⟨by rfl, ?_⟩) ?_ ?_
       rotate_left
       ·intro w'
        go_simp
        with_reducible rfl
       rotate_left
       ·simp only [Act.put, List.setIfInBounds_toArray, List.set_cons_zero, List.set_cons_succ, i64_w, i32_w]
        rfl
       refine pure_ (i := 6) (N := some 52) (v := ?_) (a' := ?_) #[true,true,true,true,true,true,true,false,false,false,false,false,false,false,false,false,false,false,false] rfl rfl (by kernel_rfl) (fun _ _ _ h => h) (Or.inl ⟨by rfl, ?_⟩) ?_ ?_
       rotate_left
       ·intro w'
        go_simp
        with_reducible rfl
       rotate_left
       ·simp only [Act.put, List.setIfInBounds_toArray, List.set_cons_zero, List.set_cons_succ, i64_w, i32_w]
        rfl
       refine pure_ (i := 7) (N := some 53) (v := ?_) (a' := ?_) #[true,true,true,true,true,true,true,true,false,false,false,false,false,false,false,false,false,false,false] rfl rfl (by kernel_rfl) (fun _ _ _ h => h) (Or.inl ⟨by rfl, ?_⟩) ?_ ?_
       rotate_left
       ·intro w'
        go_simp
        with_reducible rfl
       rotate_left
       ·simp only [Act.put, List.setIfInBounds_toArray, List.set_cons_zero, List.set_cons_succ, i64_w, i32_w]
        rfl
       refine pure_ (i := 8) (N := some 54) (v := undef) (a' := ?_) #[true,true,true,true,true,true,true,true,true,false,false,false,false,false,false,false,false,false,false] rfl rfl (by kernel_rfl) (fun _ _ _ h => h) (Or.inr ⟨by rfl, rfl⟩) ?_ ?_
       rotate_left
       ·simp only [Act.put, List.setIfInBounds_toArray, List.set_cons_zero, List.set_cons_succ, i64_w, i32_w]
        rfl
       refine pure_ (i := 9) (N := some 55) (v := undef) (a' := ?_) #[true,true,true,true,true,true,true,true,true,true,false,false,false,false,false,false,false,false,false] rfl rfl (by kernel_rfl) (fun _ _ _ h => h) (Or.inr ⟨by rfl, rfl⟩) ?_ ?_
       rotate_left
       ·simp only [Act.put, List.setIfInBounds_toArray, List.set_cons_zero, List.set_cons_succ, i64_w, i32_w]
        rfl
       refine pure_ (i := 10) (N := some 56) (v := undef) (a' := ?_) #[true,true,true,true,true,true,true,true,true,true,true,false,false,false,false,false,false,false,false] rfl rfl (by kernel_rfl) (fun _ _ _ h => h) (Or.inr ⟨by rfl, rfl⟩) ?_ ?_
       rotate_left
       ·simp only [Act.put, List.setIfInBounds_toArray, List.set_cons_zero, List.set_cons_succ, i64_w, i32_w]
        rfl
       refine pure_ (i := 11) (N := some 57) (v := undef) (a' := ?_) #[true,true,true,true,true,true,true,true,true,true,true,true,false,false,false,false,false,false,false] rfl rfl (by kernel_rfl) (fun _ _ _ h => h) (Or.inr ⟨by rfl, rfl⟩) ?_ ?_
       rotate_left
       ·simp only [Act.put, List.setIfInBounds_toArray, List.set_cons_zero, List.set_cons_succ, i64_w, i32_w]
        rfl
       refine pure_ (i := 12) (N := some 58) (v := undef) (a' := ?_) #[true,true,true,true,true,true,true,true,true,true,true,true,true,false,false,false,false,false,false] rfl rfl (by kernel_rfl) (fun _ _ _ h => h) (Or.inr ⟨by rfl, rfl⟩) ?_ ?_
       rotate_left
       ·simp only [Act.put, List.setIfInBounds_toArray, List.set_cons_zero, List.set_cons_succ, i64_w, i32_w]
        rfl
       refine pure_ (i := 13) (N := some 59) (v := undef) (a' := ?_) #[true,true,true,true,true,true,true,true,true,true,true,true,true,true,false,false,false,false,false] rfl rfl (by kernel_rfl) (fun _ _ _ h => h) (Or.inr ⟨by rfl, rfl⟩) ?_ ?_
       rotate_left
       ·simp only [Act.put, List.setIfInBounds_toArray, List.set_cons_zero, List.set_cons_succ, i64_w, i32_w]
        rfl
       refine pure_ (i := 14) (N := some 60) (v := undef) (a' := ?_) #[true,true,true,true,true,true,true,true,true,true,true,true,true,true,true,false,false,false,false] rfl rfl (by kernel_rfl) (fun _ _ _ h => h) (Or.inr ⟨by rfl, rfl⟩) ?_ ?_
       rotate_left
       ·simp only [Act.put, List.setIfInBounds_toArray, List.set_cons_zero, List.set_cons_succ, i64_w, i32_w]
        rfl
       refine pure_ (i := 15) (N := some 61) (v := undef) (a' := ?_) #[true,true,true,true,true,true,true,true,true,true,true,true,true,true,true,true,false,false,false] rfl rfl (by kernel_rfl) (fun _ _ _ h => h) (Or.inr ⟨by rfl, rfl⟩) ?_ ?_
       rotate_left
       ·simp only [Act.put, List.setIfInBounds_toArray, List.set_cons_zero, List.set_cons_succ, i64_w, i32_w]
        rfl
       refine pure_ (i := 16) (N := some 62) (v := undef) (a' := ?_) #[true,true,true,true,true,true,true,true,true,true,true,true,true,true,true,true,true,false,false] rfl rfl (by kernel_rfl) (fun _ _ _ h => h) (Or.inr ⟨by rfl, rfl⟩) ?_ ?_
       rotate_left
       ·simp only [Act.put, List.setIfInBounds_toArray, List.set_cons_zero, List.set_cons_succ, i64_w, i32_w]
        rfl
       refine pure_ (i := 17) (N := some 63) (v := undef) (a' := ?_) #[true,true,true,true,true,true,true,true,true,true,true,true,true,true,true,true,true,true,false] rfl rfl (by kernel_rfl) (fun _ _ _ h => h) (Or.inr ⟨by rfl, rfl⟩) ?_ ?_
       rotate_left
       ·simp only [Act.put, List.setIfInBounds_toArray, List.set_cons_zero, List.set_cons_succ, i64_w, i32_w]
        rfl
       refine pure_ (i := 18) (N := some 64) (v := ?_) (a' := ?_) #[true,true,true,true,true,true,true,true,true,true,true,true,true,true,true,true,true,true,true] rfl rfl (by kernel_rfl) (fun _ _ _ h => h) (Or.inl ⟨by rfl, ?_⟩) ?_ ?_
       rotate_left
       ·intro w'
        go_simp
        with_reducible rfl
       rotate_left
       ·simp only [Act.put, List.setIfInBounds_toArray, List.set_cons_zero, List.set_cons_succ, i64_w, i32_w]
        rfl
       refine done_ (by kernel_rfl) ?_
       clear hHeld
       go_wp2_with fail
       have hba : Below wr.heap.size wr wr.drew := below_drew1 (Below.refl wr.heap.size wr)
       have HZ := Lib.hid (IsR.below' H3.out hba)
       have HBW := Lib.hid (below_then HB2.out HB2.out.size (below_then HBR.out HBR.out.size hba))
       have hkz := (hba.block _ (Array.getElem?_eq_some_iff.1 HKB3.out).1).trans HKB3.out
       have HNX := Lib.hid (show ∀ (q : Rw), ps[i]? = some q → decide (klt q.1.k25 ⟨nm, sd⟩) = false from fun q hq => by
        have := (List.getElem?_eq_some_iff.1 hq).1
        have := HIL.out
        omega)
       have HZB := Lib.hid (show ∀ b, bad b → b < wr.drew.heap.size from HZ.out.lt)
       clear hba t0 t1 t2
       generalize wr.drew = wz at HZ HBW hkz HZB ⊢
       rcases H3.out.fm with ⟨rfl, hps, hc0⟩ | ⟨b, rfl⟩
       ·have HPS := Lib.hid hps
        clear hps hc0
        have z0 : wz.cell? ⟨w.heap.size, 0, none⟩ = some (.string nm) := by rw [cell_of hkz]; rfl
        have z1 : wz.cell? ⟨w.heap.size, 1, none⟩ = some (.int .u8 sd) := by rw [cell_of hkz]; rfl
        obtain ⟨m, hm, hm30⟩ := len_nat n e sd HN.out
        have HRL := Lib.hid (fun (W : World) (q : IsR W r n e ps none c bad) => show Calls Try.prog 40 #[.pointer (some ⟨r, 0, none⟩), .int .u8 sd] W fun e_ w' => e_ = .returned (I m) ∧ w' = W from by
         have := rlen_ok r n e ps none c bad sd W q
         rw [hm] at this
         exact this)
        have HM := Lib.hid hm
        clear hm
        refine start_ (n := 10) (S := fun w' => w'.cell? ⟨w.heap.size, 0, none⟩ = some (.string nm) ∧ w'.cell? ⟨w.heap.size, 1, none⟩ = some (.int .u8 sd)) (ds := [9]) #[false,false,false,false,false,false,false,false,false,false] (by kernel_rfl) rfl rfl ⟨z0, z1⟩ (fun hHeld => ?_)
        refine pure_ (i := 1) (N := some 68) (v := ?_) (a' := ?_) #[false,true,false,false,false,false,false,false,false,false] rfl rfl (by kernel_rfl) (fun _ _ _ h => h) (Or.inl ⟨by rfl, ?_⟩) ?_ ?_
        rotate_left
        ·intro w'
         go_simp
         with_reducible rfl
        rotate_left
        ·simp only [Act.put, List.setIfInBounds_toArray, List.set_cons_zero, List.set_cons_succ, i64_w, i32_w]
         rfl
        refine pure_ (i := 2) (N := some 69) (v := ?_) (a' := ?_) #[false,true,true,false,false,false,false,false,false,false] rfl rfl (by kernel_rfl) (fun _ _ _ h => h) (Or.inl ⟨by rfl, ?_⟩) ?_ ?_
        rotate_left
        ·intro w'
         go_simp
         with_reducible rfl
        rotate_left
        ·simp only [Act.put, List.setIfInBounds_toArray, List.set_cons_zero, List.set_cons_succ, i64_w, i32_w]
         rfl
        refine pure_ (i := 3) (N := some 70) (v := ?_) (a' := ?_) #[false,true,true,true,false,false,false,false,false,false] rfl rfl (by kernel_rfl) (fun _ _ _ h => h) (Or.inl ⟨by rfl, ?_⟩) ?_ ?_
        rotate_left
        ·intro w'
         go_simp
         with_reducible rfl
        rotate_left
        ·simp only [Act.put, List.setIfInBounds_toArray, List.set_cons_zero, List.set_cons_succ, i64_w, i32_w]
         rfl
        refine take_ (i := 0) (N := some 67) (v := ?_) (a' := ?_) #[true,true,true,true,false,false,false,false,false,false] rfl rfl (by kernel_rfl) (fun _ _ _ h => h) (Or.inl ⟨by rfl, ?_⟩) hHeld ?_ ?_
        rotate_left
        ·rintro w' ⟨s0, s1⟩
         go_simp
         with_reducible rfl
        rotate_left
        ·simp only [Act.put, List.setIfInBounds_toArray, List.set_cons_zero, List.set_cons_succ, i64_w, i32_w]
         rfl
        refine take_ (i := 4) (N := some 71) (v := ?_) (a' := ?_) #[true,true,true,true,true,false,false,false,false,false] rfl rfl (by kernel_rfl) (fun _ _ _ h => h) (Or.inl ⟨by rfl, ?_⟩) hHeld ?_ ?_
        rotate_left
        ·rintro w' ⟨s0, s1⟩
         go_simp
         with_reducible rfl
        rotate_left
        ·simp only [Act.put, List.setIfInBounds_toArray, List.set_cons_zero, List.set_cons_succ, i64_w, i32_w]
         rfl
        refine join_ (σ := Nat × Nat) 1 #[true,true,true,true,true,true,true,true,true,false] (fun s => [(72, I m), (73, .slice (some ⟨s.1, 0, none⟩) m m), (74, .agg #[.string nm, .int .u8 sd, .int .u8 kd, .slice (some ⟨s.1, 0, none⟩) m m]), (8, .pointer (some ⟨s.2, 0, none⟩))]) (fun s w' => FD wz w' m s.1 s.2) ?_ ?_
        rotate_left
        ·intro hCont
         refine two_ (i := 5) (j := 8) (Ni := some 72) (Nj := some 8) #[true,true,true,true,true,true,false,false,false,false] #[true,true,true,true,true,false,false,false,true,false] rfl rfl rfl rfl (by kernel_rfl) (by decide) (by decide) (fun K hK => ?_) (fun K hK => ?_)
         ·skip
          refine goes_ Try.func40 (by kernel_rfl) rfl #[.pointer (some ⟨r, 0, none⟩), .int .u8 sd] (by rfl) rfl rfl (by simp only [List.map_toArray, List.map_cons, List.map_nil]; rfl) ?_
          with_reducible refine (HRL.out _ (HZ.out.below' (below_drew1 (Below.refl wz.heap.size wz)))).mono ?_
          rintro e w5 ⟨rfl, rfl⟩
          refine ⟨_, rfl, ?_⟩
          refine hK.out _ _ ⟨pw_cell_below (below_drew1 (Below.refl wz.heap.size wz)) z0, pw_cell_below (below_drew1 (Below.refl wz.heap.size wz)) z1⟩ (fun hHeld => ?_)
          clear hK K
          refine norm_ (a' := ?_) ?_ ?_
          rotate_left
          ·show Act.put _ (some 72) _ = _
           simp only [Act.put, List.setIfInBounds_toArray, List.set_cons_zero, List.set_cons_succ, i64_w, i32_w]
           rfl
          refine two_ (i := 6) (j := 8) (Ni := some 73) (Nj := some 8) #[true,true,true,true,true,true,true,false,false,false] #[true,true,true,true,true,true,false,false,true,false] rfl rfl rfl rfl (by kernel_rfl) (by decide) (by decide) (fun K hK => ?_) (fun K hK => ?_)
          ·skip
           refine mk33_step m (by omega) (by rfl) rfl rfl rfl rfl ?_
           intro V y1 hgV hlV hV hS1
           have hZ1 : Below wz.heap.size wz y1 := below_step (below_drew1 (Below.refl wz.heap.size wz)) hS1
           refine hK.out _ _ ⟨pw_cell_below hZ1 z0, pw_cell_below hZ1 z1⟩ (fun hHeld => ?_)
           clear hK K
           refine norm_ (a' := ?_) ?_ ?_
           rotate_left
           ·show Act.put _ (some 73) _ = _
            simp only [Act.put, List.setIfInBounds_toArray, List.set_cons_zero, List.set_cons_succ, i64_w, i32_w]
            rfl
           refine two_ (i := 7) (j := 8) (Ni := some 74) (Nj := some 8) #[true,true,true,true,true,true,true,true,false,false] #[true,true,true,true,true,true,true,false,true,false] rfl rfl rfl rfl (by kernel_rfl) (by decide) (by decide) (fun K hK => ?_) (fun K hK => ?_)
           ·skip
            refine value_ (w1 := ?_) (v := ?_) (by rfl) rfl ?_ ?_
            rotate_left 2
            ·go_simp
             constructor
             ·rfl
             ·rfl
            refine hK.out _ _ ⟨pw_cell_below hZ1 z0, pw_cell_below hZ1 z1⟩ (fun hHeld => ?_)
            clear hK K
            refine norm_ (a' := ?_) ?_ ?_
            rotate_left
            ·show Act.put _ (some 74) _ = _
             simp only [Act.put, List.setIfInBounds_toArray, List.set_cons_zero, List.set_cons_succ, i64_w, i32_w]
             rfl
            refine one_ (i := 8) (N := some 8) #[true,true,true,true,true,true,true,true,true,false] rfl rfl (by kernel_rfl) (by decide) (fun K hK => ?_)
            refine al83_step (by rfl) rfl rfl ?_
            intro P y2 hgP hlP hP hS2
            have hZ2 : Below wz.heap.size wz y2 := below_step hZ1 hS2
            refine hK.out _ _ ⟨pw_cell_below hZ2 z0, pw_cell_below hZ2 z1⟩ (fun hHeld => ?_)
            clear hK K
            refine norm_ (a' := ?_) ?_ ?_
            rotate_left
            ·show Act.put _ (some 8) _ = _
             simp only [Act.put, List.setIfInBounds_toArray, List.set_cons_zero, List.set_cons_succ, i64_w, i32_w]
             rfl
            exact norm_ (by simp only [putAll, Act.put, List.setIfInBounds_toArray, List.set_cons_zero, List.set_cons_succ]) (hCont (V, P) _ ⟨hZ2, ((hS2.block _ hlV).trans hV), hP, hgV, (Nat.le_trans hZ1.size hgP)⟩)
           ·skip
            refine al83_step (by rfl) rfl rfl ?_
            intro P y2 hgP hlP hP hS2
            have hZ2 : Below wz.heap.size wz y2 := below_step hZ1 hS2
            refine hK.out _ _ ⟨pw_cell_below hZ2 z0, pw_cell_below hZ2 z1⟩ (fun hHeld => ?_)
            clear hK K
            refine norm_ (a' := ?_) ?_ ?_
            rotate_left
            ·show Act.put _ (some 8) _ = _
             simp only [Act.put, List.setIfInBounds_toArray, List.set_cons_zero, List.set_cons_succ, i64_w, i32_w]
             rfl
            refine one_ (i := 7) (N := some 74) #[true,true,true,true,true,true,true,true,true,false] rfl rfl (by kernel_rfl) (by decide) (fun K hK => ?_)
            refine value_ (w1 := ?_) (v := ?_) (by rfl) rfl ?_ ?_
            rotate_left 2
            ·go_simp
             constructor
             ·rfl
             ·rfl
            refine hK.out _ _ ⟨pw_cell_below hZ2 z0, pw_cell_below hZ2 z1⟩ (fun hHeld => ?_)
            clear hK K
            refine norm_ (a' := ?_) ?_ ?_
            rotate_left
            ·show Act.put _ (some 74) _ = _
             simp only [Act.put, List.setIfInBounds_toArray, List.set_cons_zero, List.set_cons_succ, i64_w, i32_w]
             rfl
            exact norm_ (by simp only [putAll, Act.put, List.setIfInBounds_toArray, List.set_cons_zero, List.set_cons_succ]) (hCont (V, P) _ ⟨hZ2, ((hS2.block _ hlV).trans hV), hP, hgV, (Nat.le_trans hZ1.size hgP)⟩)
          ·skip
           refine al83_step (by rfl) rfl rfl ?_
           intro P y1 hgP hlP hP hS1
           have hZ1 : Below wz.heap.size wz y1 := below_step (below_drew1 (Below.refl wz.heap.size wz)) hS1
           refine hK.out _ _ ⟨pw_cell_below hZ1 z0, pw_cell_below hZ1 z1⟩ (fun hHeld => ?_)
           clear hK K
           refine norm_ (a' := ?_) ?_ ?_
           rotate_left
           ·show Act.put _ (some 8) _ = _
            simp only [Act.put, List.setIfInBounds_toArray, List.set_cons_zero, List.set_cons_succ, i64_w, i32_w]
            rfl
           refine one_ (i := 6) (N := some 73) #[true,true,true,true,true,true,true,false,true,false] rfl rfl (by kernel_rfl) (by decide) (fun K hK => ?_)
           refine mk33_step m (by omega) (by rfl) rfl rfl rfl rfl ?_
           intro V y2 hgV hlV hV hS2
           have hZ2 : Below wz.heap.size wz y2 := below_step hZ1 hS2
           refine hK.out _ _ ⟨pw_cell_below hZ2 z0, pw_cell_below hZ2 z1⟩ (fun hHeld => ?_)
           clear hK K
           refine norm_ (a' := ?_) ?_ ?_
           rotate_left
           ·show Act.put _ (some 73) _ = _
            simp only [Act.put, List.setIfInBounds_toArray, List.set_cons_zero, List.set_cons_succ, i64_w, i32_w]
            rfl
           refine one_ (i := 7) (N := some 74) #[true,true,true,true,true,true,true,true,true,false] rfl rfl (by kernel_rfl) (by decide) (fun K hK => ?_)
           refine value_ (w1 := ?_) (v := ?_) (by rfl) rfl ?_ ?_
           rotate_left 2
           ·go_simp
            constructor
            ·rfl
            ·rfl
           refine hK.out _ _ ⟨pw_cell_below hZ2 z0, pw_cell_below hZ2 z1⟩ (fun hHeld => ?_)
           clear hK K
           refine norm_ (a' := ?_) ?_ ?_
           rotate_left
           ·show Act.put _ (some 74) _ = _
            simp only [Act.put, List.setIfInBounds_toArray, List.set_cons_zero, List.set_cons_succ, i64_w, i32_w]
            rfl
           exact norm_ (by simp only [putAll, Act.put, List.setIfInBounds_toArray, List.set_cons_zero, List.set_cons_succ]) (hCont (V, P) _ ⟨hZ2, hV, ((hS2.block _ hlP).trans hP), (Nat.le_trans hZ1.size hgV), hgP⟩)
         ·skip
          refine al83_step (by rfl) rfl rfl ?_
          intro P y1 hgP hlP hP hS1
          have hZ1 : Below wz.heap.size wz y1 := below_step (below_drew1 (Below.refl wz.heap.size wz)) hS1
          refine hK.out _ _ ⟨pw_cell_below hZ1 z0, pw_cell_below hZ1 z1⟩ (fun hHeld => ?_)
          clear hK K
          refine norm_ (a' := ?_) ?_ ?_
          rotate_left
          ·show Act.put _ (some 8) _ = _
           simp only [Act.put, List.setIfInBounds_toArray, List.set_cons_zero, List.set_cons_succ, i64_w, i32_w]
           rfl
          refine one_ (i := 5) (N := some 72) #[true,true,true,true,true,true,false,false,true,false] rfl rfl (by kernel_rfl) (by decide) (fun K hK => ?_)
          refine goes_ Try.func40 (by kernel_rfl) rfl #[.pointer (some ⟨r, 0, none⟩), .int .u8 sd] (by rfl) rfl rfl (by simp only [List.map_toArray, List.map_cons, List.map_nil]; rfl) ?_
          with_reducible refine (HRL.out _ (HZ.out.below' hZ1)).mono ?_
          rintro e w5 ⟨rfl, rfl⟩
          refine ⟨_, rfl, ?_⟩
          refine hK.out _ _ ⟨pw_cell_below hZ1 z0, pw_cell_below hZ1 z1⟩ (fun hHeld => ?_)
          clear hK K
          refine norm_ (a' := ?_) ?_ ?_
          rotate_left
          ·show Act.put _ (some 72) _ = _
           simp only [Act.put, List.setIfInBounds_toArray, List.set_cons_zero, List.set_cons_succ, i64_w, i32_w]
           rfl
          refine one_ (i := 6) (N := some 73) #[true,true,true,true,true,true,true,false,true,false] rfl rfl (by kernel_rfl) (by decide) (fun K hK => ?_)
          refine mk33_step m (by omega) (by rfl) rfl rfl rfl rfl ?_
          intro V y2 hgV hlV hV hS2
          have hZ2 : Below wz.heap.size wz y2 := below_step hZ1 hS2
          refine hK.out _ _ ⟨pw_cell_below hZ2 z0, pw_cell_below hZ2 z1⟩ (fun hHeld => ?_)
          clear hK K
          refine norm_ (a' := ?_) ?_ ?_
          rotate_left
          ·show Act.put _ (some 73) _ = _
           simp only [Act.put, List.setIfInBounds_toArray, List.set_cons_zero, List.set_cons_succ, i64_w, i32_w]
           rfl
          refine one_ (i := 7) (N := some 74) #[true,true,true,true,true,true,true,true,true,false] rfl rfl (by kernel_rfl) (by decide) (fun K hK => ?_)
          refine value_ (w1 := ?_) (v := ?_) (by rfl) rfl ?_ ?_
          rotate_left 2
          ·go_simp
           constructor
           ·rfl
           ·rfl
          refine hK.out _ _ ⟨pw_cell_below hZ2 z0, pw_cell_below hZ2 z1⟩ (fun hHeld => ?_)
          clear hK K
          refine norm_ (a' := ?_) ?_ ?_
          rotate_left
          ·show Act.put _ (some 74) _ = _
           simp only [Act.put, List.setIfInBounds_toArray, List.set_cons_zero, List.set_cons_succ, i64_w, i32_w]
           rfl
          exact norm_ (by simp only [putAll, Act.put, List.setIfInBounds_toArray, List.set_cons_zero, List.set_cons_succ]) (hCont (V, P) _ ⟨hZ2, hV, ((hS2.block _ hlP).trans hP), (Nat.le_trans hZ1.size hgV), hgP⟩)
        rintro ⟨V, P⟩ yw hFD
        have hHeld : True := trivial
        refine norm_ (a' := ?_) ?_ ?_
        rotate_left
        ·simp only [putAll, Act.put, List.setIfInBounds_toArray, List.set_cons_zero, List.set_cons_succ]
         rfl
        refine last_ (i := 9) (N := none) #[true,true,true,true,true,true,true,true,true,true] rfl rfl (by kernel_rfl) (by decide) (fun K hK => ?_)
        have c0 : yw.cell? ⟨P, 0, none⟩ = some (.string ⟨#[]⟩) := (cell_of hFD.hp).trans rfl
        have c1 : yw.cell? ⟨P, 1, none⟩ = some (.int .u8 0) := (cell_of hFD.hp).trans rfl
        have c2 : yw.cell? ⟨P, 2, none⟩ = some (.int .u8 0) := (cell_of hFD.hp).trans rfl
        have c3 : yw.cell? ⟨P, 3, none⟩ = some (.slice none 0 0) := (cell_of hFD.hp).trans rfl
        have f0 := free_of hFD.hp 0
        have f1 := free_of hFD.hp 1
        have f2 := free_of hFD.hp 2
        have f3 := free_of hFD.hp 3
        refine skip_ (w1 := ?_) (by rfl) rfl ?_ ?_
        rotate_left
        ·go_simp
         rfl
        refine hK.out _ _ ?_
        clear hK K
        refine done_ (by kernel_rfl) ?_
        have hPs : (((((yw.setCell ⟨P, 0, none⟩ (.string nm)).setCell ⟨P, 1, none⟩ (.int .u8 sd)).setCell ⟨P, 2, none⟩ (.int .u8 kd)).setCell ⟨P, 3, none⟩ (.slice (some ⟨V, 0, none⟩) m m))).heap[P]? = some (.cells #[.string nm, .int .u8 sd, .int .u8 kd, .slice (some ⟨V, 0, none⟩) m m] 83 (0, 0)) := by
         simp [World.setCell, Array.getElem?_modify, hFD.hp]
        have hBs : Below wz.heap.size wz (((((yw.setCell ⟨P, 0, none⟩ (.string nm)).setCell ⟨P, 1, none⟩ (.int .u8 sd)).setCell ⟨P, 2, none⟩ (.int .u8 kd)).setCell ⟨P, 3, none⟩ (.slice (some ⟨V, 0, none⟩) m m))) := (((hFD.bl.setCell (p := ⟨P, 0, none⟩) hFD.gp _).setCell (p := ⟨P, 1, none⟩) hFD.gp _).setCell (p := ⟨P, 2, none⟩) hFD.gp _).setCell (p := ⟨P, 3, none⟩) hFD.gp _
        have hPV : V ≠ P := fun e => by
         have h1 := hFD.hv
         rw [e, hFD.hp] at h1
         injection h1 with h1
         injection h1 with _ h1
         cases h1
        have hVs : (((((yw.setCell ⟨P, 0, none⟩ (.string nm)).setCell ⟨P, 1, none⟩ (.int .u8 sd)).setCell ⟨P, 2, none⟩ (.int .u8 kd)).setCell ⟨P, 3, none⟩ (.slice (some ⟨V, 0, none⟩) m m))).heap[V]? = some (.cells (List.replicate m (I 0)).toArray 33 (0, 0)) := by
         rw [Below.heap_setCell _ _ _ _ (fun e => hPV e), Below.heap_setCell _ _ _ _ (fun e => hPV e), Below.heap_setCell _ _ _ _ (fun e => hPV e), Below.heap_setCell _ _ _ _ (fun e => hPV e)]
         exact hFD.hv
        have hgV := hFD.gv
        clear hFD hHeld z0 z1 c0 c1 c2 c3 f0 f1 f2 f3
        go_wp2_with fail
        generalize ((((yw.setCell ⟨P, 0, none⟩ (.string nm)).setCell ⟨P, 1, none⟩ (.int .u8 sd)).setCell ⟨P, 2, none⟩ (.int .u8 kd)).setCell ⟨P, 3, none⟩ (.slice (some ⟨V, 0, none⟩) m m)) = wy at hPs hBs hVs ⊢
        have HZ2 := Lib.hid (HZ.out.below' hBs)
        have px0 : wy.cell? ⟨P, 0, none⟩ = some (.string nm) := (cell_of hPs).trans rfl
        have px1 : wy.cell? ⟨P, 1, none⟩ = some (.int .u8 sd) := (cell_of hPs).trans rfl
        have px2 : wy.cell? ⟨P, 2, none⟩ = some (.int .u8 kd) := (cell_of hPs).trans rfl
        have px3 : wy.cell? ⟨P, 3, none⟩ = some (.slice (some ⟨V, 0, none⟩) m m) := (cell_of hPs).trans rfl
        have x0 : wy.cell? ⟨r, 2, none⟩ = some (.slice none ps.length c) := (cell_of HZ2.out.tb).trans rfl
        have x1 := px0
        have x2 := px1
        have x3 := px2
        have x4 := px3
        obtain ⟨px, hpx⟩ : ∃ px : Rw, px = (⟨nm, sd, kd, List.replicate m 0⟩, .slice (some ⟨V, 0, none⟩) m m) := ⟨_, rfl⟩
        have HPX := Lib.hid hpx
        have hpx1 : px.2.oneCell' = true := by rw [hpx]; rfl
        have HT12 := Lib.hid (fun (W : World) (q : Below wy.heap.size wy W) => show ReadsRow E4 4 W none i (ps.take i) ∧ ReadsRow E4 4 W none (ps.length - i) (ps.drop i) from ⟨⟨by simp; omega, by omega, fun q => by have h1 := HIL.out; rw [HPS.out] at h1; simp at h1; omega⟩, ⟨by simp, by omega, fun q => by have h1 := HIL.out; omega⟩⟩)
        have HT1 := Lib.hid (fun (W : World) (q : Below wy.heap.size wy W) => (HT12.out W q).1)
        have HT2 := Lib.hid (fun (W : World) (q : Below wy.heap.size wy W) => (HT12.out W q).2)
        have HBY := Lib.hid (below_then HBW.out HBW.out.size hBs)
        have HVs := Lib.hid hVs
        have HGV := Lib.hid hgV
        have hcs2 : ps.length - i ≤ 1000 := by omega
        have hic : i ≤ c := by have := HZ2.out.cp; omega
        clear hPs hBs hVs px0 px1 px2 px3 hpx hgV
        refine start_ (n := 22) (S := fun w' => w'.cell? ⟨r, 2, none⟩ = some (.slice none ps.length c) ∧ w'.cell? ⟨P, 0, none⟩ = some (.string nm) ∧ w'.cell? ⟨P, 1, none⟩ = some (.int .u8 sd) ∧ w'.cell? ⟨P, 2, none⟩ = some (.int .u8 kd) ∧ w'.cell? ⟨P, 3, none⟩ = some (.slice (some ⟨V, 0, none⟩) m m)) (ds := [21]) #[false,false,false,false,false,false,false,false,false,false,false,false,false,false,false,false,false,false,false,false,false,false] (by kernel_rfl) rfl rfl ⟨x0, x1, x2, x3, x4⟩ (fun hHeld => ?_)
        refine pure_ (i := 0) (N := some 75) (v := ?_) (a' := ?_) #[true,false,false,false,false,false,false,false,false,false,false,false,false,false,false,false,false,false,false,false,false,false] rfl rfl (by kernel_rfl) (fun _ _ _ h => h) (Or.inl ⟨by rfl, ?_⟩) ?_ ?_
        rotate_left
        ·intro w'
         go_simp
         with_reducible rfl
        rotate_left
        ·simp only [Act.put, List.setIfInBounds_toArray, List.set_cons_zero, List.set_cons_succ, i64_w, i32_w]
         rfl
        refine pure_ (i := 2) (N := some 77) (v := ?_) (a' := ?_) #[true,false,true,false,false,false,false,false,false,false,false,false,false,false,false,false,false,false,false,false,false,false] rfl rfl (by kernel_rfl) (fun _ _ _ h => h) (Or.inl ⟨by rfl, ?_⟩) ?_ ?_
        rotate_left
        ·intro w'
         go_simp
         with_reducible rfl
        rotate_left
        ·simp only [Act.put, List.setIfInBounds_toArray, List.set_cons_zero, List.set_cons_succ, i64_w, i32_w]
         rfl
        refine pure_ (i := 3) (N := some 78) (v := ?_) (a' := ?_) #[true,false,true,true,false,false,false,false,false,false,false,false,false,false,false,false,false,false,false,false,false,false] rfl rfl (by kernel_rfl) (fun _ _ _ h => h) (Or.inl ⟨by rfl, ?_⟩) ?_ ?_
        rotate_left
        ·intro w'
         go_simp
         with_reducible rfl
        rotate_left
        ·simp only [Act.put, List.setIfInBounds_toArray, List.set_cons_zero, List.set_cons_succ, i64_w, i32_w]
         rfl
        refine pure_ (i := 4) (N := some 79) (v := ?_) (a' := ?_) #[true,false,true,true,true,false,false,false,false,false,false,false,false,false,false,false,false,false,false,false,false,false] rfl rfl (by kernel_rfl) (fun _ _ _ h => h) (Or.inl ⟨by rfl, ?_⟩) ?_ ?_
        rotate_left
        ·intro w'
         go_simp
         with_reducible rfl
        rotate_left
        ·simp only [Act.put, List.setIfInBounds_toArray, List.set_cons_zero, List.set_cons_succ, i64_w, i32_w]
         rfl
        refine pure_ (i := 6) (N := some 81) (v := ?_) (a' := ?_) #[true,false,true,true,true,false,true,false,false,false,false,false,false,false,false,false,false,false,false,false,false,false] rfl rfl (by kernel_rfl) (fun _ _ _ h => h) (Or.inl ⟨by rfl, ?_⟩) ?_ ?_
        rotate_left
        ·intro w'
         go_simp
         with_reducible rfl
        rotate_left
        ·simp only [Act.put, List.setIfInBounds_toArray, List.set_cons_zero, List.set_cons_succ, i64_w, i32_w]
         rfl
        refine pure_ (i := 12) (N := some 87) (v := ?_) (a' := ?_) #[true,false,true,true,true,false,true,false,false,false,false,false,true,false,false,false,false,false,false,false,false,false] rfl rfl (by kernel_rfl) (fun _ _ _ h => h) (Or.inl ⟨by rfl, ?_⟩) ?_ ?_
        rotate_left
        ·intro w'
         go_simp
         with_reducible rfl
        rotate_left
        ·simp only [Act.put, List.setIfInBounds_toArray, List.set_cons_zero, List.set_cons_succ, i64_w, i32_w]
         rfl
        refine pure_ (i := 13) (N := some 88) (v := ?_) (a' := ?_) #[true,false,true,true,true,false,true,false,false,false,false,false,true,true,false,false,false,false,false,false,false,false] rfl rfl (by kernel_rfl) (fun _ _ _ h => h) (Or.inl ⟨by rfl, ?_⟩) ?_ ?_
        rotate_left
        ·intro w'
         go_simp
         with_reducible rfl
        rotate_left
        ·simp only [Act.put, List.setIfInBounds_toArray, List.set_cons_zero, List.set_cons_succ, i64_w, i32_w]
         rfl
        refine pure_ (i := 14) (N := some 89) (v := ?_) (a' := ?_) #[true,false,true,true,true,false,true,false,false,false,false,false,true,true,true,false,false,false,false,false,false,false] rfl rfl (by kernel_rfl) (fun _ _ _ h => h) (Or.inl ⟨by rfl, ?_⟩) ?_ ?_
        rotate_left
        ·intro w'
         go_simp
         with_reducible rfl
        rotate_left
        ·simp only [Act.put, List.setIfInBounds_toArray, List.set_cons_zero, List.set_cons_succ, i64_w, i32_w]
         rfl
        refine pure_ (i := 16) (N := some 91) (v := ?_) (a' := ?_) #[true,false,true,true,true,false,true,false,false,false,false,false,true,true,true,false,true,false,false,false,false,false] rfl rfl (by kernel_rfl) (fun _ _ _ h => h) (Or.inl ⟨by rfl, ?_⟩) ?_ ?_
        rotate_left
        ·intro w'
         go_simp
         with_reducible rfl
        rotate_left
        ·simp only [Act.put, List.setIfInBounds_toArray, List.set_cons_zero, List.set_cons_succ, i64_w, i32_w]
         rfl
        refine take_ (i := 5) (N := some 80) (v := ?_) (a' := ?_) #[true,false,true,true,true,true,true,false,false,false,false,false,true,true,true,false,true,false,false,false,false,false] rfl rfl (by kernel_rfl) (fun _ _ _ h => h) (Or.inl ⟨by rfl, ?_⟩) hHeld ?_ ?_
        rotate_left
        ·rintro w' ⟨s0, s1, s2, s3, s4⟩
         go_simp
         with_reducible rfl
        rotate_left
        ·simp only [Act.put, List.setIfInBounds_toArray, List.set_cons_zero, List.set_cons_succ, i64_w, i32_w]
         rfl
        refine pure_ (i := 7) (N := some 82) (v := ?_) (a' := ?_) #[true,false,true,true,true,true,true,true,false,false,false,false,true,true,true,false,true,false,false,false,false,false] rfl rfl (by kernel_rfl) (fun _ _ _ h => h) (Or.inl ⟨by rfl, ?_⟩) ?_ ?_
        rotate_left
        ·intro w'
         go_simp
         with_reducible rfl
        rotate_left
        ·simp only [Act.put, List.setIfInBounds_toArray, List.set_cons_zero, List.set_cons_succ, i64_w, i32_w]
         rfl
        refine take_ (i := 9) (N := some 84) (v := ?_) (a' := ?_) #[true,false,true,true,true,true,true,true,false,true,false,false,true,true,true,false,true,false,false,false,false,false] rfl rfl (by kernel_rfl) (fun _ _ _ h => h) (Or.inl ⟨by rfl, ?_⟩) hHeld ?_ ?_
        rotate_left
        ·rintro w' ⟨s0, s1, s2, s3, s4⟩
         go_simp
         with_reducible rfl
        rotate_left
        ·simp only [Act.put, List.setIfInBounds_toArray, List.set_cons_zero, List.set_cons_succ, i64_w, i32_w]
         rfl
        refine take_ (i := 15) (N := some 90) (v := ?_) (a' := ?_) #[true,false,true,true,true,true,true,true,false,true,false,false,true,true,true,true,true,false,false,false,false,false] rfl rfl (by kernel_rfl) (fun _ _ _ h => h) (Or.inl ⟨by rfl, ?_⟩) hHeld ?_ ?_
        rotate_left
        ·rintro w' ⟨s0, s1, s2, s3, s4⟩
         go_simp
         with_reducible rfl
        rotate_left
        ·simp only [Act.put, List.setIfInBounds_toArray, List.set_cons_zero, List.set_cons_succ, i64_w, i32_w]
         rfl
        refine pure_ (i := 17) (N := some 92) (v := ?_) (a' := ?_) #[true,false,true,true,true,true,true,true,false,true,false,false,true,true,true,true,true,true,false,false,false,false] rfl rfl (by kernel_rfl) (fun _ _ _ h => h) (Or.inl ⟨by rfl, ?_⟩) ?_ ?_
        rotate_left
        ·intro w'
         go_simp
         with_reducible rfl
        rotate_left
        ·simp only [Act.put, List.setIfInBounds_toArray, List.set_cons_zero, List.set_cons_succ, i64_w, i32_w]
         rfl
        refine join_ (σ := Nat × Value × Nat) 5 #[true,true,true,true,true,true,true,true,true,true,true,false,true,true,true,true,true,true,false,false,false,false] (fun s => [(76, .slice (some ⟨s.1, 0, none⟩) 0 0), (83, s.2.1), (85, .slice (some ⟨s.2.2, 0, none⟩) 1 1)]) (fun s w' => FE wy w' (ps.take i) px s.2.1 s.2.2) ?_ ?_
        rotate_left
        ·intro hCont
         refine two_ (i := 1) (j := 10) (Ni := some 76) (Nj := some 85) #[true,true,true,true,true,true,true,true,false,true,false,false,true,true,true,true,true,true,false,false,false,false] #[true,false,true,true,true,true,true,true,false,true,true,false,true,true,true,true,true,true,false,false,false,false] rfl rfl rfl rfl (by kernel_rfl) (by decide) (by decide) (fun K hK => ?_) (fun K hK => ?_)
         ·skip
          refine row0_step (by rfl) rfl rfl ?_
          intro B1 u1 hb1 hl1 hR1 hS1
          have hY1 : Below wy.heap.size wy u1 := below_step (below_drew1 (Below.refl wy.heap.size wy)) hS1
          refine hK.out _ _ ⟨pw_cell_below hY1 x0, pw_cell_below hY1 x1, pw_cell_below hY1 x2, pw_cell_below hY1 x3, pw_cell_below hY1 x4⟩ (fun hHeld => ?_)
          clear hK K
          refine norm_ (a' := ?_) ?_ ?_
          rotate_left
          ·show Act.put _ (some 76) _ = _
           simp only [Act.put, List.setIfInBounds_toArray, List.set_cons_zero, List.set_cons_succ, i64_w, i32_w]
           rfl
          refine two_ (i := 8) (j := 10) (Ni := some 83) (Nj := some 85) #[true,true,true,true,true,true,true,true,true,true,false,false,true,true,true,true,true,true,false,false,false,false] #[true,true,true,true,true,true,true,true,false,true,true,false,true,true,true,true,true,true,false,false,false,false] rfl rfl rfl rfl (by kernel_rfl) (by decide) (by decide) (fun K hK => ?_) (fun K hK => ?_)
          ·skip
           have hRz : Kd.R kR 83 u1 wy.heap.size (fun _ => True) (.slice (some ⟨B1, 0, none⟩) 0 0) [] := Kd.R_lower hR1 (below_drew1 (Below.refl wy.heap.size wy)).size
           refine Kd.R_append_rows_step kR (Rr := E4) (w0 := wy) wy.heap.size (by rfl) (.tmp 76) (.tmp 82) 84 83 (.agg #[.string ⟨#[]⟩, .int .u8 0, .int .u8 0, .slice none 0 0]) 56 rfl Try.underlying84 info83 rfl (by decide) (by decide) (.slice (some ⟨B1, 0, none⟩) 0 0) [] (ps.take i) none i c (fun _ => True) (fun _ => False) rfl rfl hRz (HT1.out _ hY1) ?aK (fun _ h => h.elim) (fun _ _ => trivial) hY1 hY1.size ?aL ?_
           (case aK => (intro z cs h; exact h))
           (case aL => (simp only [List.length_append, List.length_take, List.length_cons, List.length_nil]; omega))
           intro v2 u2 hV2 hY2 hG2 _
           rw [List.nil_append] at hV2
           have hS2 : u1.grownBy u2 (some B1) := hG2
           refine hK.out _ _ ⟨pw_cell_below hY2 x0, pw_cell_below hY2 x1, pw_cell_below hY2 x2, pw_cell_below hY2 x3, pw_cell_below hY2 x4⟩ (fun hHeld => ?_)
           clear hK K
           refine norm_ (a' := ?_) ?_ ?_
           rotate_left
           ·show Act.put _ (some 83) _ = _
            simp only [Act.put, List.setIfInBounds_toArray, List.set_cons_zero, List.set_cons_succ, i64_w, i32_w]
            rfl
           refine one_ (i := 10) (N := some 85) #[true,true,true,true,true,true,true,true,true,true,true,false,true,true,true,true,true,true,false,false,false,false] rfl rfl (by kernel_rfl) (by decide) (fun K hK => ?_)
           refine row1_step px (by rfl) rfl rfl (by rw [HPX.out]; rfl) ?_
           intro B3 u3 hb3 hl3 hX3 hS3
           have hY3 : Below wy.heap.size wy u3 := below_step hY2 hS3
           refine hK.out _ _ ⟨pw_cell_below hY3 x0, pw_cell_below hY3 x1, pw_cell_below hY3 x2, pw_cell_below hY3 x3, pw_cell_below hY3 x4⟩ (fun hHeld => ?_)
           clear hK K
           refine norm_ (a' := ?_) ?_ ?_
           rotate_left
           ·show Act.put _ (some 85) _ = _
            simp only [Act.put, List.setIfInBounds_toArray, List.set_cons_zero, List.set_cons_succ, i64_w, i32_w]
            rfl
           exact norm_ (by simp only [putAll, Act.put, List.setIfInBounds_toArray, List.set_cons_zero, List.set_cons_succ]) (hCont (B1, v2, B3) _ ⟨hY3, (Kd.R_below hV2 hS3), hX3⟩)
          ·skip
           refine row1_step px (by rfl) rfl rfl (by rw [HPX.out]; rfl) ?_
           intro B2 u2 hb2 hl2 hX2 hS2
           have hY2 : Below wy.heap.size wy u2 := below_step hY1 hS2
           refine hK.out _ _ ⟨pw_cell_below hY2 x0, pw_cell_below hY2 x1, pw_cell_below hY2 x2, pw_cell_below hY2 x3, pw_cell_below hY2 x4⟩ (fun hHeld => ?_)
           clear hK K
           refine norm_ (a' := ?_) ?_ ?_
           rotate_left
           ·show Act.put _ (some 85) _ = _
            simp only [Act.put, List.setIfInBounds_toArray, List.set_cons_zero, List.set_cons_succ, i64_w, i32_w]
            rfl
           refine one_ (i := 8) (N := some 83) #[true,true,true,true,true,true,true,true,true,true,true,false,true,true,true,true,true,true,false,false,false,false] rfl rfl (by kernel_rfl) (by decide) (fun K hK => ?_)
           have hRz : Kd.R kR 83 u2 wy.heap.size (fun _ => True) (.slice (some ⟨B1, 0, none⟩) 0 0) [] := Kd.R_lower (Kd.R_below hR1 hS2) (below_drew1 (Below.refl wy.heap.size wy)).size
           refine Kd.R_append_rows_step kR (Rr := E4) (w0 := wy) wy.heap.size (by rfl) (.tmp 76) (.tmp 82) 84 83 (.agg #[.string ⟨#[]⟩, .int .u8 0, .int .u8 0, .slice none 0 0]) 56 rfl Try.underlying84 info83 rfl (by decide) (by decide) (.slice (some ⟨B1, 0, none⟩) 0 0) [] (ps.take i) none i c (fun _ => True) (fun _ => False) rfl rfl hRz (HT1.out _ hY2) ?aK (fun _ h => h.elim) (fun _ _ => trivial) hY2 hY2.size ?aL ?_
           (case aK => (intro z cs h; exact h))
           (case aL => (simp only [List.length_append, List.length_take, List.length_cons, List.length_nil]; omega))
           intro v3 u3 hV3 hY3 hG3 _
           rw [List.nil_append] at hV3
           have hS3 : u2.grownBy u3 (some B1) := hG3
           refine hK.out _ _ ⟨pw_cell_below hY3 x0, pw_cell_below hY3 x1, pw_cell_below hY3 x2, pw_cell_below hY3 x3, pw_cell_below hY3 x4⟩ (fun hHeld => ?_)
           clear hK K
           refine norm_ (a' := ?_) ?_ ?_
           rotate_left
           ·show Act.put _ (some 83) _ = _
            simp only [Act.put, List.setIfInBounds_toArray, List.set_cons_zero, List.set_cons_succ, i64_w, i32_w]
            rfl
           exact norm_ (by simp only [putAll, Act.put, List.setIfInBounds_toArray, List.set_cons_zero, List.set_cons_succ]) (hCont (B1, v3, B2) _ ⟨hY3, hV3, ((hS3.block _ hl2 (by intro e; injection e with e; have := hl1; omega)).trans hX2)⟩)
         ·skip
          refine row1_step px (by rfl) rfl rfl (by rw [HPX.out]; rfl) ?_
          intro B1 u1 hb1 hl1 hX1 hS1
          have hY1 : Below wy.heap.size wy u1 := below_step (below_drew1 (Below.refl wy.heap.size wy)) hS1
          refine hK.out _ _ ⟨pw_cell_below hY1 x0, pw_cell_below hY1 x1, pw_cell_below hY1 x2, pw_cell_below hY1 x3, pw_cell_below hY1 x4⟩ (fun hHeld => ?_)
          clear hK K
          refine norm_ (a' := ?_) ?_ ?_
          rotate_left
          ·show Act.put _ (some 85) _ = _
           simp only [Act.put, List.setIfInBounds_toArray, List.set_cons_zero, List.set_cons_succ, i64_w, i32_w]
           rfl
          refine one_ (i := 1) (N := some 76) #[true,true,true,true,true,true,true,true,false,true,true,false,true,true,true,true,true,true,false,false,false,false] rfl rfl (by kernel_rfl) (by decide) (fun K hK => ?_)
          refine row0_step (by rfl) rfl rfl ?_
          intro B2 u2 hb2 hl2 hR2 hS2
          have hY2 : Below wy.heap.size wy u2 := below_step hY1 hS2
          refine hK.out _ _ ⟨pw_cell_below hY2 x0, pw_cell_below hY2 x1, pw_cell_below hY2 x2, pw_cell_below hY2 x3, pw_cell_below hY2 x4⟩ (fun hHeld => ?_)
          clear hK K
          refine norm_ (a' := ?_) ?_ ?_
          rotate_left
          ·show Act.put _ (some 76) _ = _
           simp only [Act.put, List.setIfInBounds_toArray, List.set_cons_zero, List.set_cons_succ, i64_w, i32_w]
           rfl
          refine one_ (i := 8) (N := some 83) #[true,true,true,true,true,true,true,true,true,true,true,false,true,true,true,true,true,true,false,false,false,false] rfl rfl (by kernel_rfl) (by decide) (fun K hK => ?_)
          have hRz : Kd.R kR 83 u2 wy.heap.size (fun _ => True) (.slice (some ⟨B2, 0, none⟩) 0 0) [] := Kd.R_lower hR2 hY1.size
          refine Kd.R_append_rows_step kR (Rr := E4) (w0 := wy) wy.heap.size (by rfl) (.tmp 76) (.tmp 82) 84 83 (.agg #[.string ⟨#[]⟩, .int .u8 0, .int .u8 0, .slice none 0 0]) 56 rfl Try.underlying84 info83 rfl (by decide) (by decide) (.slice (some ⟨B2, 0, none⟩) 0 0) [] (ps.take i) none i c (fun _ => True) (fun _ => False) rfl rfl hRz (HT1.out _ hY2) ?aK (fun _ h => h.elim) (fun _ _ => trivial) hY2 hY2.size ?aL ?_
          (case aK => (intro z cs h; exact h))
          (case aL => (simp only [List.length_append, List.length_take, List.length_cons, List.length_nil]; omega))
          intro v3 u3 hV3 hY3 hG3 _
          rw [List.nil_append] at hV3
          have hS3 : u2.grownBy u3 (some B2) := hG3
          refine hK.out _ _ ⟨pw_cell_below hY3 x0, pw_cell_below hY3 x1, pw_cell_below hY3 x2, pw_cell_below hY3 x3, pw_cell_below hY3 x4⟩ (fun hHeld => ?_)
          clear hK K
          refine norm_ (a' := ?_) ?_ ?_
          rotate_left
          ·show Act.put _ (some 83) _ = _
           simp only [Act.put, List.setIfInBounds_toArray, List.set_cons_zero, List.set_cons_succ, i64_w, i32_w]
           rfl
          exact norm_ (by simp only [putAll, Act.put, List.setIfInBounds_toArray, List.set_cons_zero, List.set_cons_succ]) (hCont (B2, v3, B1) _ ⟨hY3, hV3, ((hS3.block _ (Nat.lt_of_lt_of_le hl1 hS2.size) (by intro e; injection e with e; omega)).trans ((hS2.block _ hl1).trans hX1))⟩)
        rintro ⟨B0, v, Bx⟩ u hF
        have hHeld : True := trivial
        refine norm_ (a' := ?_) ?_ ?_
        rotate_left
        ·simp only [putAll, Act.put, List.setIfInBounds_toArray, List.set_cons_zero, List.set_cons_succ]
         rfl
        refine one_ (i := 11) (N := some 86) #[true,true,true,true,true,true,true,true,true,true,true,true,true,true,true,true,true,true,false,false,false,false] rfl rfl (by kernel_rfl) (by decide) (fun K hK => ?_)
        refine Kd.R_append_rows_step kR (Rr := E4) (w0 := wy) wy.heap.size (by rfl) (.tmp 83) (.tmp 85) 84 83 (.agg #[.string ⟨#[]⟩, .int .u8 0, .int .u8 0, .slice none 0 0]) 56 rfl Try.underlying84 info83 rfl (by decide) (by decide) v (ps.take i) [px] (some ⟨Bx, 0, none⟩) 1 1 (fun _ => True) (fun k => some k ≠ v.ownBlock) rfl rfl hF.own (one_reads hF.box hpx1) ?aK (fun _ h => ⟨trivial, h⟩) (fun _ _ => trivial) hF.bl hF.bl.size ?aL ?_
        (case aK => (intro z cs h; exact h))
        (case aL => (simp only [List.length_append, List.length_take, List.length_cons, List.length_nil]; omega))
        intro v9 u9 hV9 hY9 hG9 _
        refine hK.out _ _ ⟨pw_cell_below hY9 x0, pw_cell_below hY9 x1, pw_cell_below hY9 x2, pw_cell_below hY9 x3, pw_cell_below hY9 x4⟩ (fun hHeld => ?_)
        clear hK K
        refine norm_ (a' := ?_) ?_ ?_
        rotate_left
        ·show Act.put _ (some 86) _ = _
         simp only [Act.put, List.setIfInBounds_toArray, List.set_cons_zero, List.set_cons_succ, i64_w, i32_w]
         rfl
        refine one_ (i := 18) (N := some 93) #[true,true,true,true,true,true,true,true,true,true,true,true,true,true,true,true,true,true,true,false,false,false] rfl rfl (by kernel_rfl) (by decide) (fun K hK => ?_)
        refine Kd.R_append_rows_step kR (Rr := E4) (w0 := wy) wy.heap.size (by rfl) (.tmp 86) (.tmp 92) 84 83 (.agg #[.string ⟨#[]⟩, .int .u8 0, .int .u8 0, .slice none 0 0]) 56 rfl Try.underlying84 info83 rfl (by decide) (by decide) v9 (ps.take i ++ [px]) (ps.drop i) none (ps.length - i) (c - i) (fun _ => True) (fun _ => False) rfl rfl hV9 (HT2.out _ hY9) ?aK (fun _ h => h.elim) (fun _ _ => trivial) hY9 hY9.size ?aL ?_
        (case aK => (intro z cs h; exact h))
        (case aL => (simp only [List.length_append, List.length_take, List.length_cons, List.length_nil]; omega))
        intro v18 u18 hV18 hY18 hG18 _
        obtain ⟨A9, c9, rfl⟩ := Kd.R_slice hV18
        have hr18 := (hY18.block _ HZ2.out.rlt).trans HZ2.out.tb
        have c9' : u18.cell? ⟨r, 2, none⟩ = some (.slice none ps.length c) := (cell_of hr18).trans rfl
        have f9' := free_of hr18 2
        refine hK.out _ _ ⟨pw_cell_below hY18 x0, pw_cell_below hY18 x1, pw_cell_below hY18 x2, pw_cell_below hY18 x3, pw_cell_below hY18 x4⟩ (fun hHeld => ?_)
        clear hK K
        refine norm_ (a' := ?_) ?_ ?_
        rotate_left
        ·show Act.put _ (some 93) _ = _
         simp only [Act.put, List.setIfInBounds_toArray, List.set_cons_zero, List.set_cons_succ, i64_w, i32_w]
         rfl
        refine pure_ (i := 19) (N := some 94) (v := ?_) (a' := ?_) #[true,true,true,true,true,true,true,true,true,true,true,true,true,true,true,true,true,true,true,true,false,false] rfl rfl (by kernel_rfl) (fun _ _ _ h => h) (Or.inl ⟨by rfl, ?_⟩) ?_ ?_
        rotate_left
        ·intro w'
         go_simp
         with_reducible rfl
        rotate_left
        ·simp only [Act.put, List.setIfInBounds_toArray, List.set_cons_zero, List.set_cons_succ, i64_w, i32_w]
         rfl
        refine pure_ (i := 20) (N := some 95) (v := ?_) (a' := ?_) #[true,true,true,true,true,true,true,true,true,true,true,true,true,true,true,true,true,true,true,true,true,false] rfl rfl (by kernel_rfl) (fun _ _ _ h => h) (Or.inl ⟨by rfl, ?_⟩) ?_ ?_
        rotate_left
        ·intro w'
         go_simp
         with_reducible rfl
        rotate_left
        ·simp only [Act.put, List.setIfInBounds_toArray, List.set_cons_zero, List.set_cons_succ, i64_w, i32_w]
         rfl
        refine last_ (i := 21) (N := none) #[true,true,true,true,true,true,true,true,true,true,true,true,true,true,true,true,true,true,true,true,true,true] rfl rfl (by kernel_rfl) (by decide) (fun K hK => ?_)
        refine skip_ (w1 := ?_) (by rfl) rfl ?_ ?_
        rotate_left
        ·go_simp
         rfl
        refine hK.out _ _ ?_
        clear hK K
        refine done_ (by kernel_rfl) ?_
        have hin : ∀ (p : Rw), p ∈ ps.take i ++ [px] ++ ps.drop i → InRow bad u18 p := fun p hp => by
         have hold : p ∈ ps → InRow bad u18 p := fun q => (HZ2.out.inn p q).mono hY18.size (fun b hb _ => hY18.block b hb) (fun _ _ z => z)
         rcases List.mem_append.1 hp with hp | hp
         ·rcases List.mem_append.1 hp with hp | hp
          ·exact hold (List.mem_of_mem_take hp)
          ·rw [List.mem_singleton.1 hp, HPX.out]
           refine ⟨some ⟨V, 0, none⟩, m, by simp, by simp, .inr ⟨V, rfl, fun q => by have := HZ.out.lt V q; have := HGV.out; have := HZB.out V q; omega, ?_, fun j v hj => ?_⟩⟩
           ·exact Nat.lt_of_lt_of_le (Array.getElem?_eq_some_iff.1 HVs.out).1 hY18.size
           ·rw [cell_of ((hY18.block _ (Array.getElem?_eq_some_iff.1 HVs.out).1).trans HVs.out)]
            simp only [List.map_replicate] at hj
            rw [List.getElem?_toArray]
            exact hj
         ·exact hold (List.mem_of_mem_drop hp)
        obtain ⟨A7, c7, e1, e2, e3⟩ := IsR.put (ps' := ps.take i ++ [px] ++ ps.drop i) HT0.out (below_then HBY.out HBY.out.size hY18) (v := .slice A9 (ps.take i ++ [px] ++ ps.drop i).length c9) (R_rows (Kd.R_lower hV18 HBY.out.size)) hin
        have hlx : (ps.take i ++ [px] ++ ps.drop i).length = i + (ps.length - i + 1) := by simp; omega
        rw [hlx] at e2 e3
        have HE2 := Lib.hid e2
        have HE3 := Lib.hid e3
        clear hlx hV18 hin e1 e2 e3 hY18 hr18 c9' f9' hHeld
        go_wp2_with fail
        go_ret
        first | refine ⟨rfl, _, ⟨_, _, HE2.out⟩, ?_, HE3.out⟩ | refine ⟨rfl, _, _, _, HE2.out, ?_, HE3.out⟩
        rw [HPX.out, HM.out, Int.toNat_natCast]
        unfold insk
        have htd := tw_at (f := fun c : Cl => decide (klt c.k25 (⟨nm, sd, kd, List.replicate m 0⟩ : Cl).k25)) (l := cls ps) (i := i) (by rw [hcl]; omega) (fun j a ha hj => by
         unfold cls at ha
         rw [List.getElem?_map] at ha
         obtain ⟨q, hq, rfl⟩ := Option.map_eq_some_iff.1 ha
         exact decide_eq_true (HBF.out j q hq hj)) (fun a ha => by
         unfold cls at ha
         rw [List.getElem?_map] at ha
         obtain ⟨q, hq, rfl⟩ := Option.map_eq_some_iff.1 ha
         exact HNX.out q hq)
        rw [htd.1, htd.2]
        unfold cls
        simp [List.map_take, List.map_drop]
       ·skip
        have z0 : wz.cell? ⟨w.heap.size, 0, none⟩ = some (.string nm) := by rw [cell_of hkz]; rfl
        have z1 : wz.cell? ⟨w.heap.size, 1, none⟩ = some (.int .u8 sd) := by rw [cell_of hkz]; rfl
        obtain ⟨m, hm, hm30⟩ := len_nat n e sd HN.out
        have HRL := Lib.hid (fun (W : World) (q : IsR W r n e ps (some ⟨b, 0, none⟩) c bad) => show Calls Try.prog 40 #[.pointer (some ⟨r, 0, none⟩), .int .u8 sd] W fun e_ w' => e_ = .returned (I m) ∧ w' = W from by
         have := rlen_ok r n e ps (some ⟨b, 0, none⟩) c bad sd W q
         rw [hm] at this
         exact this)
        have HM := Lib.hid hm
        clear hm
        refine start_ (n := 10) (S := fun w' => w'.cell? ⟨w.heap.size, 0, none⟩ = some (.string nm) ∧ w'.cell? ⟨w.heap.size, 1, none⟩ = some (.int .u8 sd)) (ds := [9]) #[false,false,false,false,false,false,false,false,false,false] (by kernel_rfl) rfl rfl ⟨z0, z1⟩ (fun hHeld => ?_)
        refine pure_ (i := 1) (N := some 68) (v := ?_) (a' := ?_) #[false,true,false,false,false,false,false,false,false,false] rfl rfl (by kernel_rfl) (fun _ _ _ h => h) (Or.inl ⟨by rfl, ?_⟩) ?_ ?_
        rotate_left
        ·intro w'
         go_simp
         with_reducible rfl
        rotate_left
        ·simp only [Act.put, List.setIfInBounds_toArray, List.set_cons_zero, List.set_cons_succ, i64_w, i32_w]
         rfl
        refine pure_ (i := 2) (N := some 69) (v := ?_) (a' := ?_) #[false,true,true,false,false,false,false,false,false,false] rfl rfl (by kernel_rfl) (fun _ _ _ h => h) (Or.inl ⟨by rfl, ?_⟩) ?_ ?_
        rotate_left
        ·intro w'
         go_simp
         with_reducible rfl
        rotate_left
        ·simp only [Act.put, List.setIfInBounds_toArray, List.set_cons_zero, List.set_cons_succ, i64_w, i32_w]
         rfl
        refine pure_ (i := 3) (N := some 70) (v := ?_) (a' := ?_) #[false,true,true,true,false,false,false,false,false,false] rfl rfl (by kernel_rfl) (fun _ _ _ h => h) (Or.inl ⟨by rfl, ?_⟩) ?_ ?_
        rotate_left
        ·intro w'
         go_simp
         with_reducible rfl
        rotate_left
        ·simp only [Act.put, List.setIfInBounds_toArray, List.set_cons_zero, List.set_cons_succ, i64_w, i32_w]
         rfl
        refine take_ (i := 0) (N := some 67) (v := ?_) (a' := ?_) #[true,true,true,true,false,false,false,false,false,false] rfl rfl (by kernel_rfl) (fun _ _ _ h => h) (Or.inl ⟨by rfl, ?_⟩) hHeld ?_ ?_
        rotate_left
        ·rintro w' ⟨s0, s1⟩
         go_simp
         with_reducible rfl
        rotate_left
        ·simp only [Act.put, List.setIfInBounds_toArray, List.set_cons_zero, List.set_cons_succ, i64_w, i32_w]
         rfl
        refine take_ (i := 4) (N := some 71) (v := ?_) (a' := ?_) #[true,true,true,true,true,false,false,false,false,false] rfl rfl (by kernel_rfl) (fun _ _ _ h => h) (Or.inl ⟨by rfl, ?_⟩) hHeld ?_ ?_
        rotate_left
        ·rintro w' ⟨s0, s1⟩
         go_simp
         with_reducible rfl
        rotate_left
        ·simp only [Act.put, List.setIfInBounds_toArray, List.set_cons_zero, List.set_cons_succ, i64_w, i32_w]
         rfl
        refine join_ (σ := Nat × Nat) 1 #[true,true,true,true,true,true,true,true,true,false] (fun s => [(72, I m), (73, .slice (some ⟨s.1, 0, none⟩) m m), (74, .agg #[.string nm, .int .u8 sd, .int .u8 kd, .slice (some ⟨s.1, 0, none⟩) m m]), (8, .pointer (some ⟨s.2, 0, none⟩))]) (fun s w' => FD wz w' m s.1 s.2) ?_ ?_
        rotate_left
        ·intro hCont
         refine two_ (i := 5) (j := 8) (Ni := some 72) (Nj := some 8) #[true,true,true,true,true,true,false,false,false,false] #[true,true,true,true,true,false,false,false,true,false] rfl rfl rfl rfl (by kernel_rfl) (by decide) (by decide) (fun K hK => ?_) (fun K hK => ?_)
         ·skip
          refine goes_ Try.func40 (by kernel_rfl) rfl #[.pointer (some ⟨r, 0, none⟩), .int .u8 sd] (by rfl) rfl rfl (by simp only [List.map_toArray, List.map_cons, List.map_nil]; rfl) ?_
          with_reducible refine (HRL.out _ (HZ.out.below' (below_drew1 (Below.refl wz.heap.size wz)))).mono ?_
          rintro e w5 ⟨rfl, rfl⟩
          refine ⟨_, rfl, ?_⟩
          refine hK.out _ _ ⟨pw_cell_below (below_drew1 (Below.refl wz.heap.size wz)) z0, pw_cell_below (below_drew1 (Below.refl wz.heap.size wz)) z1⟩ (fun hHeld => ?_)
          clear hK K
          refine norm_ (a' := ?_) ?_ ?_
          rotate_left
          ·show Act.put _ (some 72) _ = _
           simp only [Act.put, List.setIfInBounds_toArray, List.set_cons_zero, List.set_cons_succ, i64_w, i32_w]
           rfl
          refine two_ (i := 6) (j := 8) (Ni := some 73) (Nj := some 8) #[true,true,true,true,true,true,true,false,false,false] #[true,true,true,true,true,true,false,false,true,false] rfl rfl rfl rfl (by kernel_rfl) (by decide) (by decide) (fun K hK => ?_) (fun K hK => ?_)
          ·skip
           refine mk33_step m (by omega) (by rfl) rfl rfl rfl rfl ?_
           intro V y1 hgV hlV hV hS1
           have hZ1 : Below wz.heap.size wz y1 := below_step (below_drew1 (Below.refl wz.heap.size wz)) hS1
           refine hK.out _ _ ⟨pw_cell_below hZ1 z0, pw_cell_below hZ1 z1⟩ (fun hHeld => ?_)
           clear hK K
           refine norm_ (a' := ?_) ?_ ?_
           rotate_left
           ·show Act.put _ (some 73) _ = _
            simp only [Act.put, List.setIfInBounds_toArray, List.set_cons_zero, List.set_cons_succ, i64_w, i32_w]
            rfl
           refine two_ (i := 7) (j := 8) (Ni := some 74) (Nj := some 8) #[true,true,true,true,true,true,true,true,false,false] #[true,true,true,true,true,true,true,false,true,false] rfl rfl rfl rfl (by kernel_rfl) (by decide) (by decide) (fun K hK => ?_) (fun K hK => ?_)
           ·skip
            refine value_ (w1 := ?_) (v := ?_) (by rfl) rfl ?_ ?_
            rotate_left 2
            ·go_simp
             constructor
             ·rfl
             ·rfl
            refine hK.out _ _ ⟨pw_cell_below hZ1 z0, pw_cell_below hZ1 z1⟩ (fun hHeld => ?_)
            clear hK K
            refine norm_ (a' := ?_) ?_ ?_
            rotate_left
            ·show Act.put _ (some 74) _ = _
             simp only [Act.put, List.setIfInBounds_toArray, List.set_cons_zero, List.set_cons_succ, i64_w, i32_w]
             rfl
            refine one_ (i := 8) (N := some 8) #[true,true,true,true,true,true,true,true,true,false] rfl rfl (by kernel_rfl) (by decide) (fun K hK => ?_)
            refine al83_step (by rfl) rfl rfl ?_
            intro P y2 hgP hlP hP hS2
            have hZ2 : Below wz.heap.size wz y2 := below_step hZ1 hS2
            refine hK.out _ _ ⟨pw_cell_below hZ2 z0, pw_cell_below hZ2 z1⟩ (fun hHeld => ?_)
            clear hK K
            refine norm_ (a' := ?_) ?_ ?_
            rotate_left
            ·show Act.put _ (some 8) _ = _
             simp only [Act.put, List.setIfInBounds_toArray, List.set_cons_zero, List.set_cons_succ, i64_w, i32_w]
             rfl
            exact norm_ (by simp only [putAll, Act.put, List.setIfInBounds_toArray, List.set_cons_zero, List.set_cons_succ]) (hCont (V, P) _ ⟨hZ2, ((hS2.block _ hlV).trans hV), hP, hgV, (Nat.le_trans hZ1.size hgP)⟩)
           ·skip
            refine al83_step (by rfl) rfl rfl ?_
            intro P y2 hgP hlP hP hS2
            have hZ2 : Below wz.heap.size wz y2 := below_step hZ1 hS2
            refine hK.out _ _ ⟨pw_cell_below hZ2 z0, pw_cell_below hZ2 z1⟩ (fun hHeld => ?_)
            clear hK K
            refine norm_ (a' := ?_) ?_ ?_
            rotate_left
            ·show Act.put _ (some 8) _ = _
             simp only [Act.put, List.setIfInBounds_toArray, List.set_cons_zero, List.set_cons_succ, i64_w, i32_w]
             rfl
            refine one_ (i := 7) (N := some 74) #[true,true,true,true,true,true,true,true,true,false] rfl rfl (by kernel_rfl) (by decide) (fun K hK => ?_)
            refine value_ (w1 := ?_) (v := ?_) (by rfl) rfl ?_ ?_
            rotate_left 2
            ·go_simp
             constructor
             ·rfl
             ·rfl
            refine hK.out _ _ ⟨pw_cell_below hZ2 z0, pw_cell_below hZ2 z1⟩ (fun hHeld => ?_)
            clear hK K
            refine norm_ (a' := ?_) ?_ ?_
            rotate_left
            ·show Act.put _ (some 74) _ = _
             simp only [Act.put, List.setIfInBounds_toArray, List.set_cons_zero, List.set_cons_succ, i64_w, i32_w]
             rfl
            exact norm_ (by simp only [putAll, Act.put, List.setIfInBounds_toArray, List.set_cons_zero, List.set_cons_succ]) (hCont (V, P) _ ⟨hZ2, ((hS2.block _ hlV).trans hV), hP, hgV, (Nat.le_trans hZ1.size hgP)⟩)
          ·skip
           refine al83_step (by rfl) rfl rfl ?_
           intro P y1 hgP hlP hP hS1
           have hZ1 : Below wz.heap.size wz y1 := below_step (below_drew1 (Below.refl wz.heap.size wz)) hS1
           refine hK.out _ _ ⟨pw_cell_below hZ1 z0, pw_cell_below hZ1 z1⟩ (fun hHeld => ?_)
           clear hK K
           refine norm_ (a' := ?_) ?_ ?_
           rotate_left
           ·show Act.put _ (some 8) _ = _
            simp only [Act.put, List.setIfInBounds_toArray, List.set_cons_zero, List.set_cons_succ, i64_w, i32_w]
            rfl
           refine one_ (i := 6) (N := some 73) #[true,true,true,true,true,true,true,false,true,false] rfl rfl (by kernel_rfl) (by decide) (fun K hK => ?_)
           refine mk33_step m (by omega) (by rfl) rfl rfl rfl rfl ?_
           intro V y2 hgV hlV hV hS2
           have hZ2 : Below wz.heap.size wz y2 := below_step hZ1 hS2
           refine hK.out _ _ ⟨pw_cell_below hZ2 z0, pw_cell_below hZ2 z1⟩ (fun hHeld => ?_)
           clear hK K
           refine norm_ (a' := ?_) ?_ ?_
           rotate_left
           ·show Act.put _ (some 73) _ = _
            simp only [Act.put, List.setIfInBounds_toArray, List.set_cons_zero, List.set_cons_succ, i64_w, i32_w]
            rfl
           refine one_ (i := 7) (N := some 74) #[true,true,true,true,true,true,true,true,true,false] rfl rfl (by kernel_rfl) (by decide) (fun K hK => ?_)
           refine value_ (w1 := ?_) (v := ?_) (by rfl) rfl ?_ ?_
           rotate_left 2
           ·go_simp
            constructor
            ·rfl
            ·rfl
           refine hK.out _ _ ⟨pw_cell_below hZ2 z0, pw_cell_below hZ2 z1⟩ (fun hHeld => ?_)
           clear hK K
           refine norm_ (a' := ?_) ?_ ?_
           rotate_left
           ·show Act.put _ (some 74) _ = _
            simp only [Act.put, List.setIfInBounds_toArray, List.set_cons_zero, List.set_cons_succ, i64_w, i32_w]
            rfl
           exact norm_ (by simp only [putAll, Act.put, List.setIfInBounds_toArray, List.set_cons_zero, List.set_cons_succ]) (hCont (V, P) _ ⟨hZ2, hV, ((hS2.block _ hlP).trans hP), (Nat.le_trans hZ1.size hgV), hgP⟩)
         ·skip
          refine al83_step (by rfl) rfl rfl ?_
          intro P y1 hgP hlP hP hS1
          have hZ1 : Below wz.heap.size wz y1 := below_step (below_drew1 (Below.refl wz.heap.size wz)) hS1
          refine hK.out _ _ ⟨pw_cell_below hZ1 z0, pw_cell_below hZ1 z1⟩ (fun hHeld => ?_)
          clear hK K
          refine norm_ (a' := ?_) ?_ ?_
          rotate_left
          ·show Act.put _ (some 8) _ = _
           simp only [Act.put, List.setIfInBounds_toArray, List.set_cons_zero, List.set_cons_succ, i64_w, i32_w]
           rfl
          refine one_ (i := 5) (N := some 72) #[true,true,true,true,true,true,false,false,true,false] rfl rfl (by kernel_rfl) (by decide) (fun K hK => ?_)
          refine goes_ Try.func40 (by kernel_rfl) rfl #[.pointer (some ⟨r, 0, none⟩), .int .u8 sd] (by rfl) rfl rfl (by simp only [List.map_toArray, List.map_cons, List.map_nil]; rfl) ?_
          with_reducible refine (HRL.out _ (HZ.out.below' hZ1)).mono ?_
          rintro e w5 ⟨rfl, rfl⟩
          refine ⟨_, rfl, ?_⟩
          refine hK.out _ _ ⟨pw_cell_below hZ1 z0, pw_cell_below hZ1 z1⟩ (fun hHeld => ?_)
          clear hK K
          refine norm_ (a' := ?_) ?_ ?_
          rotate_left
          ·show Act.put _ (some 72) _ = _
           simp only [Act.put, List.setIfInBounds_toArray, List.set_cons_zero, List.set_cons_succ, i64_w, i32_w]
           rfl
          refine one_ (i := 6) (N := some 73) #[true,true,true,true,true,true,true,false,true,false] rfl rfl (by kernel_rfl) (by decide) (fun K hK => ?_)
          refine mk33_step m (by omega) (by rfl) rfl rfl rfl rfl ?_
          intro V y2 hgV hlV hV hS2
          have hZ2 : Below wz.heap.size wz y2 := below_step hZ1 hS2
          refine hK.out _ _ ⟨pw_cell_below hZ2 z0, pw_cell_below hZ2 z1⟩ (fun hHeld => ?_)
          clear hK K
          refine norm_ (a' := ?_) ?_ ?_
          rotate_left
          ·show Act.put _ (some 73) _ = _
           simp only [Act.put, List.setIfInBounds_toArray, List.set_cons_zero, List.set_cons_succ, i64_w, i32_w]
           rfl
          refine one_ (i := 7) (N := some 74) #[true,true,true,true,true,true,true,true,true,false] rfl rfl (by kernel_rfl) (by decide) (fun K hK => ?_)
          refine value_ (w1 := ?_) (v := ?_) (by rfl) rfl ?_ ?_
          rotate_left 2
          ·go_simp
           constructor
           ·rfl
           ·rfl
          refine hK.out _ _ ⟨pw_cell_below hZ2 z0, pw_cell_below hZ2 z1⟩ (fun hHeld => ?_)
          clear hK K
          refine norm_ (a' := ?_) ?_ ?_
          rotate_left
          ·show Act.put _ (some 74) _ = _
           simp only [Act.put, List.setIfInBounds_toArray, List.set_cons_zero, List.set_cons_succ, i64_w, i32_w]
           rfl
          exact norm_ (by simp only [putAll, Act.put, List.setIfInBounds_toArray, List.set_cons_zero, List.set_cons_succ]) (hCont (V, P) _ ⟨hZ2, hV, ((hS2.block _ hlP).trans hP), (Nat.le_trans hZ1.size hgV), hgP⟩)
        rintro ⟨V, P⟩ yw hFD
        have hHeld : True := trivial
        refine norm_ (a' := ?_) ?_ ?_
        rotate_left
        ·simp only [putAll, Act.put, List.setIfInBounds_toArray, List.set_cons_zero, List.set_cons_succ]
         rfl
        refine last_ (i := 9) (N := none) #[true,true,true,true,true,true,true,true,true,true] rfl rfl (by kernel_rfl) (by decide) (fun K hK => ?_)
        have c0 : yw.cell? ⟨P, 0, none⟩ = some (.string ⟨#[]⟩) := (cell_of hFD.hp).trans rfl
        have c1 : yw.cell? ⟨P, 1, none⟩ = some (.int .u8 0) := (cell_of hFD.hp).trans rfl
        have c2 : yw.cell? ⟨P, 2, none⟩ = some (.int .u8 0) := (cell_of hFD.hp).trans rfl
        have c3 : yw.cell? ⟨P, 3, none⟩ = some (.slice none 0 0) := (cell_of hFD.hp).trans rfl
        have f0 := free_of hFD.hp 0
        have f1 := free_of hFD.hp 1
        have f2 := free_of hFD.hp 2
        have f3 := free_of hFD.hp 3
        refine skip_ (w1 := ?_) (by rfl) rfl ?_ ?_
        rotate_left
        ·go_simp
         rfl
        refine hK.out _ _ ?_
        clear hK K
        refine done_ (by kernel_rfl) ?_
        have hPs : (((((yw.setCell ⟨P, 0, none⟩ (.string nm)).setCell ⟨P, 1, none⟩ (.int .u8 sd)).setCell ⟨P, 2, none⟩ (.int .u8 kd)).setCell ⟨P, 3, none⟩ (.slice (some ⟨V, 0, none⟩) m m))).heap[P]? = some (.cells #[.string nm, .int .u8 sd, .int .u8 kd, .slice (some ⟨V, 0, none⟩) m m] 83 (0, 0)) := by
         simp [World.setCell, Array.getElem?_modify, hFD.hp]
        have hBs : Below wz.heap.size wz (((((yw.setCell ⟨P, 0, none⟩ (.string nm)).setCell ⟨P, 1, none⟩ (.int .u8 sd)).setCell ⟨P, 2, none⟩ (.int .u8 kd)).setCell ⟨P, 3, none⟩ (.slice (some ⟨V, 0, none⟩) m m))) := (((hFD.bl.setCell (p := ⟨P, 0, none⟩) hFD.gp _).setCell (p := ⟨P, 1, none⟩) hFD.gp _).setCell (p := ⟨P, 2, none⟩) hFD.gp _).setCell (p := ⟨P, 3, none⟩) hFD.gp _
        have hPV : V ≠ P := fun e => by
         have h1 := hFD.hv
         rw [e, hFD.hp] at h1
         injection h1 with h1
         injection h1 with _ h1
         cases h1
        have hVs : (((((yw.setCell ⟨P, 0, none⟩ (.string nm)).setCell ⟨P, 1, none⟩ (.int .u8 sd)).setCell ⟨P, 2, none⟩ (.int .u8 kd)).setCell ⟨P, 3, none⟩ (.slice (some ⟨V, 0, none⟩) m m))).heap[V]? = some (.cells (List.replicate m (I 0)).toArray 33 (0, 0)) := by
         rw [Below.heap_setCell _ _ _ _ (fun e => hPV e), Below.heap_setCell _ _ _ _ (fun e => hPV e), Below.heap_setCell _ _ _ _ (fun e => hPV e), Below.heap_setCell _ _ _ _ (fun e => hPV e)]
         exact hFD.hv
        have hgV := hFD.gv
        clear hFD hHeld z0 z1 c0 c1 c2 c3 f0 f1 f2 f3
        go_wp2_with fail
        generalize ((((yw.setCell ⟨P, 0, none⟩ (.string nm)).setCell ⟨P, 1, none⟩ (.int .u8 sd)).setCell ⟨P, 2, none⟩ (.int .u8 kd)).setCell ⟨P, 3, none⟩ (.slice (some ⟨V, 0, none⟩) m m)) = wy at hPs hBs hVs ⊢
        have HZ2 := Lib.hid (HZ.out.below' hBs)
        have px0 : wy.cell? ⟨P, 0, none⟩ = some (.string nm) := (cell_of hPs).trans rfl
        have px1 : wy.cell? ⟨P, 1, none⟩ = some (.int .u8 sd) := (cell_of hPs).trans rfl
        have px2 : wy.cell? ⟨P, 2, none⟩ = some (.int .u8 kd) := (cell_of hPs).trans rfl
        have px3 : wy.cell? ⟨P, 3, none⟩ = some (.slice (some ⟨V, 0, none⟩) m m) := (cell_of hPs).trans rfl
        have x0 : wy.cell? ⟨r, 2, none⟩ = some (.slice (some ⟨b, 0, none⟩) ps.length c) := (cell_of HZ2.out.tb).trans rfl
        have x1 := px0
        have x2 := px1
        have x3 := px2
        have x4 := px3
        obtain ⟨px, hpx⟩ : ∃ px : Rw, px = (⟨nm, sd, kd, List.replicate m 0⟩, .slice (some ⟨V, 0, none⟩) m m) := ⟨_, rfl⟩
        have HPX := Lib.hid hpx
        have hpx1 : px.2.oneCell' = true := by rw [hpx]; rfl
        obtain ⟨A2, hA2⟩ : ∃ A2, (if c = i then some (⟨b, 0, none⟩ : Addr) else some ⟨b, i * 4, none⟩) = A2 := ⟨_, rfl⟩
        have HT12 := Lib.hid (fun (W : World) (q : Below wy.heap.size wy W) => (HZ2.out.below' q).part2 hlen i (by omega) hA2)
        have HT1 := Lib.hid (fun (W : World) (q : Below wy.heap.size wy W) => (HT12.out W q).1)
        have HT2 := Lib.hid (fun (W : World) (q : Below wy.heap.size wy W) => (HT12.out W q).2)
        have HBY := Lib.hid (below_then HBW.out HBW.out.size hBs)
        have HVs := Lib.hid hVs
        have HGV := Lib.hid hgV
        have hcs2 : ps.length - i ≤ 1000 := by omega
        have hic : i ≤ c := by have := HZ2.out.cp; omega
        clear hPs hBs hVs px0 px1 px2 px3 hpx hgV
        refine start_ (n := 22) (S := fun w' => w'.cell? ⟨r, 2, none⟩ = some (.slice (some ⟨b, 0, none⟩) ps.length c) ∧ w'.cell? ⟨P, 0, none⟩ = some (.string nm) ∧ w'.cell? ⟨P, 1, none⟩ = some (.int .u8 sd) ∧ w'.cell? ⟨P, 2, none⟩ = some (.int .u8 kd) ∧ w'.cell? ⟨P, 3, none⟩ = some (.slice (some ⟨V, 0, none⟩) m m)) (ds := [21]) #[false,false,false,false,false,false,false,false,false,false,false,false,false,false,false,false,false,false,false,false,false,false] (by kernel_rfl) rfl rfl ⟨x0, x1, x2, x3, x4⟩ (fun hHeld => ?_)
        refine pure_ (i := 0) (N := some 75) (v := ?_) (a' := ?_) #[true,false,false,false,false,false,false,false,false,false,false,false,false,false,false,false,false,false,false,false,false,false] rfl rfl (by kernel_rfl) (fun _ _ _ h => h) (Or.inl ⟨by rfl, ?_⟩) ?_ ?_
        rotate_left
        ·intro w'
         go_simp
         with_reducible rfl
        rotate_left
        ·simp only [Act.put, List.setIfInBounds_toArray, List.set_cons_zero, List.set_cons_succ, i64_w, i32_w]
         rfl
        refine pure_ (i := 2) (N := some 77) (v := ?_) (a' := ?_) #[true,false,true,false,false,false,false,false,false,false,false,false,false,false,false,false,false,false,false,false,false,false] rfl rfl (by kernel_rfl) (fun _ _ _ h => h) (Or.inl ⟨by rfl, ?_⟩) ?_ ?_
        rotate_left
        ·intro w'
         go_simp
         with_reducible rfl
        rotate_left
        ·simp only [Act.put, List.setIfInBounds_toArray, List.set_cons_zero, List.set_cons_succ, i64_w, i32_w]
         rfl
        refine pure_ (i := 3) (N := some 78) (v := ?_) (a' := ?_) #[true,false,true,true,false,false,false,false,false,false,false,false,false,false,false,false,false,false,false,false,false,false] rfl rfl (by kernel_rfl) (fun _ _ _ h => h) (Or.inl ⟨by rfl, ?_⟩) ?_ ?_
        rotate_left
        ·intro w'
         go_simp
         with_reducible rfl
        rotate_left
        ·simp only [Act.put, List.setIfInBounds_toArray, List.set_cons_zero, List.set_cons_succ, i64_w, i32_w]
         rfl
        refine pure_ (i := 4) (N := some 79) (v := ?_) (a' := ?_) #[true,false,true,true,true,false,false,false,false,false,false,false,false,false,false,false,false,false,false,false,false,false] rfl rfl (by kernel_rfl) (fun _ _ _ h => h) (Or.inl ⟨by rfl, ?_⟩) ?_ ?_
        rotate_left
        ·intro w'
         go_simp
         with_reducible rfl
        rotate_left
        ·simp only [Act.put, List.setIfInBounds_toArray, List.set_cons_zero, List.set_cons_succ, i64_w, i32_w]
         rfl
        refine pure_ (i := 6) (N := some 81) (v := ?_) (a' := ?_) #[true,false,true,true,true,false,true,false,false,false,false,false,false,false,false,false,false,false,false,false,false,false] rfl rfl (by kernel_rfl) (fun _ _ _ h => h) (Or.inl ⟨by rfl, ?_⟩) ?_ ?_
        rotate_left
        ·intro w'
         go_simp
         with_reducible rfl
        rotate_left
        ·simp only [Act.put, List.setIfInBounds_toArray, List.set_cons_zero, List.set_cons_succ, i64_w, i32_w]
         rfl
        refine pure_ (i := 12) (N := some 87) (v := ?_) (a' := ?_) #[true,false,true,true,true,false,true,false,false,false,false,false,true,false,false,false,false,false,false,false,false,false] rfl rfl (by kernel_rfl) (fun _ _ _ h => h) (Or.inl ⟨by rfl, ?_⟩) ?_ ?_
        rotate_left
        ·intro w'
         go_simp
         with_reducible rfl
        rotate_left
        ·simp only [Act.put, List.setIfInBounds_toArray, List.set_cons_zero, List.set_cons_succ, i64_w, i32_w]
         rfl
        refine pure_ (i := 13) (N := some 88) (v := ?_) (a' := ?_) #[true,false,true,true,true,false,true,false,false,false,false,false,true,true,false,false,false,false,false,false,false,false] rfl rfl (by kernel_rfl) (fun _ _ _ h => h) (Or.inl ⟨by rfl, ?_⟩) ?_ ?_
        rotate_left
        ·intro w'
         go_simp
         with_reducible rfl
        rotate_left
        ·simp only [Act.put, List.setIfInBounds_toArray, List.set_cons_zero, List.set_cons_succ, i64_w, i32_w]
         rfl
        refine pure_ (i := 14) (N := some 89) (v := ?_) (a' := ?_) #[true,false,true,true,true,false,true,false,false,false,false,false,true,true,true,false,false,false,false,false,false,false] rfl rfl (by kernel_rfl) (fun _ _ _ h => h) (Or.inl ⟨by rfl, ?_⟩) ?_ ?_
        rotate_left
        ·intro w'
         go_simp
         with_reducible rfl
        rotate_left
        ·simp only [Act.put, List.setIfInBounds_toArray, List.set_cons_zero, List.set_cons_succ, i64_w, i32_w]
         rfl
        refine pure_ (i := 16) (N := some 91) (v := ?_) (a' := ?_) #[true,false,true,true,true,false,true,false,false,false,false,false,true,true,true,false,true,false,false,false,false,false] rfl rfl (by kernel_rfl) (fun _ _ _ h => h) (Or.inl ⟨by rfl, ?_⟩) ?_ ?_
        rotate_left
        ·intro w'
         go_simp
         with_reducible rfl
        rotate_left
        ·simp only [Act.put, List.setIfInBounds_toArray, List.set_cons_zero, List.set_cons_succ, i64_w, i32_w]
         rfl
        refine take_ (i := 5) (N := some 80) (v := ?_) (a' := ?_) #[true,false,true,true,true,true,true,false,false,false,false,false,true,true,true,false,true,false,false,false,false,false] rfl rfl (by kernel_rfl) (fun _ _ _ h => h) (Or.inl ⟨by rfl, ?_⟩) hHeld ?_ ?_
        rotate_left
        ·rintro w' ⟨s0, s1, s2, s3, s4⟩
         go_simp
         with_reducible rfl
        rotate_left
        ·simp only [Act.put, List.setIfInBounds_toArray, List.set_cons_zero, List.set_cons_succ, i64_w, i32_w]
         rfl
        refine pure_ (i := 7) (N := some 82) (v := ?_) (a' := ?_) #[true,false,true,true,true,true,true,true,false,false,false,false,true,true,true,false,true,false,false,false,false,false] rfl rfl (by kernel_rfl) (fun _ _ _ h => h) (Or.inl ⟨by rfl, ?_⟩) ?_ ?_
        rotate_left
        ·intro w'
         go_simp
         with_reducible rfl
        rotate_left
        ·simp only [Act.put, List.setIfInBounds_toArray, List.set_cons_zero, List.set_cons_succ, i64_w, i32_w]
         rfl
        refine take_ (i := 9) (N := some 84) (v := ?_) (a' := ?_) #[true,false,true,true,true,true,true,true,false,true,false,false,true,true,true,false,true,false,false,false,false,false] rfl rfl (by kernel_rfl) (fun _ _ _ h => h) (Or.inl ⟨by rfl, ?_⟩) hHeld ?_ ?_
        rotate_left
        ·rintro w' ⟨s0, s1, s2, s3, s4⟩
         go_simp
         with_reducible rfl
        rotate_left
        ·simp only [Act.put, List.setIfInBounds_toArray, List.set_cons_zero, List.set_cons_succ, i64_w, i32_w]
         rfl
        refine take_ (i := 15) (N := some 90) (v := ?_) (a' := ?_) #[true,false,true,true,true,true,true,true,false,true,false,false,true,true,true,true,true,false,false,false,false,false] rfl rfl (by kernel_rfl) (fun _ _ _ h => h) (Or.inl ⟨by rfl, ?_⟩) hHeld ?_ ?_
        rotate_left
        ·rintro w' ⟨s0, s1, s2, s3, s4⟩
         go_simp
         with_reducible rfl
        rotate_left
        ·simp only [Act.put, List.setIfInBounds_toArray, List.set_cons_zero, List.set_cons_succ, i64_w, i32_w]
         rfl
        refine pure_ (i := 17) (N := some 92) (v := ?_) (a' := ?_) #[true,false,true,true,true,true,true,true,false,true,false,false,true,true,true,true,true,true,false,false,false,false] rfl rfl (by kernel_rfl) (fun _ _ _ h => h) (Or.inl ⟨by rfl, ?_⟩) ?_ ?_
        rotate_left
        ·intro w'
         go_simp
         with_reducible rfl
        rotate_left
        ·simp only [Act.put, List.setIfInBounds_toArray, List.set_cons_zero, List.set_cons_succ, i64_w, i32_w]
         rfl
        refine join_ (σ := Nat × Value × Nat) 5 #[true,true,true,true,true,true,true,true,true,true,true,false,true,true,true,true,true,true,false,false,false,false] (fun s => [(76, .slice (some ⟨s.1, 0, none⟩) 0 0), (83, s.2.1), (85, .slice (some ⟨s.2.2, 0, none⟩) 1 1)]) (fun s w' => FE wy w' (ps.take i) px s.2.1 s.2.2) ?_ ?_
        rotate_left
        ·intro hCont
         refine two_ (i := 1) (j := 10) (Ni := some 76) (Nj := some 85) #[true,true,true,true,true,true,true,true,false,true,false,false,true,true,true,true,true,true,false,false,false,false] #[true,false,true,true,true,true,true,true,false,true,true,false,true,true,true,true,true,true,false,false,false,false] rfl rfl rfl rfl (by kernel_rfl) (by decide) (by decide) (fun K hK => ?_) (fun K hK => ?_)
         ·skip
          refine row0_step (by rfl) rfl rfl ?_
          intro B1 u1 hb1 hl1 hR1 hS1
          have hY1 : Below wy.heap.size wy u1 := below_step (below_drew1 (Below.refl wy.heap.size wy)) hS1
          refine hK.out _ _ ⟨pw_cell_below hY1 x0, pw_cell_below hY1 x1, pw_cell_below hY1 x2, pw_cell_below hY1 x3, pw_cell_below hY1 x4⟩ (fun hHeld => ?_)
          clear hK K
          refine norm_ (a' := ?_) ?_ ?_
          rotate_left
          ·show Act.put _ (some 76) _ = _
           simp only [Act.put, List.setIfInBounds_toArray, List.set_cons_zero, List.set_cons_succ, i64_w, i32_w]
           rfl
          refine two_ (i := 8) (j := 10) (Ni := some 83) (Nj := some 85) #[true,true,true,true,true,true,true,true,true,true,false,false,true,true,true,true,true,true,false,false,false,false] #[true,true,true,true,true,true,true,true,false,true,true,false,true,true,true,true,true,true,false,false,false,false] rfl rfl rfl rfl (by kernel_rfl) (by decide) (by decide) (fun K hK => ?_) (fun K hK => ?_)
          ·skip
           have hRz : Kd.R kR 83 u1 wy.heap.size (fun _ => True) (.slice (some ⟨B1, 0, none⟩) 0 0) [] := Kd.R_lower hR1 (below_drew1 (Below.refl wy.heap.size wy)).size
           refine Kd.R_append_rows_step kR (Rr := E4) (w0 := wy) wy.heap.size (by rfl) (.tmp 76) (.tmp 82) 84 83 (.agg #[.string ⟨#[]⟩, .int .u8 0, .int .u8 0, .slice none 0 0]) 56 rfl Try.underlying84 info83 rfl (by decide) (by decide) (.slice (some ⟨B1, 0, none⟩) 0 0) [] (ps.take i) (some ⟨b, 0, none⟩) i c (fun _ => True) (fun _ => False) rfl rfl hRz (HT1.out _ hY1) ?aK (fun _ h => h.elim) (fun _ _ => trivial) hY1 hY1.size ?aL ?_
           (case aK => (intro z cs h; exact h))
           (case aL => (simp only [List.length_append, List.length_take, List.length_cons, List.length_nil]; omega))
           intro v2 u2 hV2 hY2 hG2 _
           rw [List.nil_append] at hV2
           have hS2 : u1.grownBy u2 (some B1) := hG2
           refine hK.out _ _ ⟨pw_cell_below hY2 x0, pw_cell_below hY2 x1, pw_cell_below hY2 x2, pw_cell_below hY2 x3, pw_cell_below hY2 x4⟩ (fun hHeld => ?_)
           clear hK K
           refine norm_ (a' := ?_) ?_ ?_
           rotate_left
           ·show Act.put _ (some 83) _ = _
            simp only [Act.put, List.setIfInBounds_toArray, List.set_cons_zero, List.set_cons_succ, i64_w, i32_w]
            rfl
           refine one_ (i := 10) (N := some 85) #[true,true,true,true,true,true,true,true,true,true,true,false,true,true,true,true,true,true,false,false,false,false] rfl rfl (by kernel_rfl) (by decide) (fun K hK => ?_)
           refine row1_step px (by rfl) rfl rfl (by rw [HPX.out]; rfl) ?_
           intro B3 u3 hb3 hl3 hX3 hS3
           have hY3 : Below wy.heap.size wy u3 := below_step hY2 hS3
           refine hK.out _ _ ⟨pw_cell_below hY3 x0, pw_cell_below hY3 x1, pw_cell_below hY3 x2, pw_cell_below hY3 x3, pw_cell_below hY3 x4⟩ (fun hHeld => ?_)
           clear hK K
           refine norm_ (a' := ?_) ?_ ?_
           rotate_left
           ·show Act.put _ (some 85) _ = _
            simp only [Act.put, List.setIfInBounds_toArray, List.set_cons_zero, List.set_cons_succ, i64_w, i32_w]
            rfl
           exact norm_ (by simp only [putAll, Act.put, List.setIfInBounds_toArray, List.set_cons_zero, List.set_cons_succ]) (hCont (B1, v2, B3) _ ⟨hY3, (Kd.R_below hV2 hS3), hX3⟩)
          ·skip
           refine row1_step px (by rfl) rfl rfl (by rw [HPX.out]; rfl) ?_
           intro B2 u2 hb2 hl2 hX2 hS2
           have hY2 : Below wy.heap.size wy u2 := below_step hY1 hS2
           refine hK.out _ _ ⟨pw_cell_below hY2 x0, pw_cell_below hY2 x1, pw_cell_below hY2 x2, pw_cell_below hY2 x3, pw_cell_below hY2 x4⟩ (fun hHeld => ?_)
           clear hK K
           refine norm_ (a' := ?_) ?_ ?_
           rotate_left
           ·show Act.put _ (some 85) _ = _
            simp only [Act.put, List.setIfInBounds_toArray, List.set_cons_zero, List.set_cons_succ, i64_w, i32_w]
            rfl
           refine one_ (i := 8) (N := some 83) #[true,true,true,true,true,true,true,true,true,true,true,false,true,true,true,true,true,true,false,false,false,false] rfl rfl (by kernel_rfl) (by decide) (fun K hK => ?_)
           have hRz : Kd.R kR 83 u2 wy.heap.size (fun _ => True) (.slice (some ⟨B1, 0, none⟩) 0 0) [] := Kd.R_lower (Kd.R_below hR1 hS2) (below_drew1 (Below.refl wy.heap.size wy)).size
           refine Kd.R_append_rows_step kR (Rr := E4) (w0 := wy) wy.heap.size (by rfl) (.tmp 76) (.tmp 82) 84 83 (.agg #[.string ⟨#[]⟩, .int .u8 0, .int .u8 0, .slice none 0 0]) 56 rfl Try.underlying84 info83 rfl (by decide) (by decide) (.slice (some ⟨B1, 0, none⟩) 0 0) [] (ps.take i) (some ⟨b, 0, none⟩) i c (fun _ => True) (fun _ => False) rfl rfl hRz (HT1.out _ hY2) ?aK (fun _ h => h.elim) (fun _ _ => trivial) hY2 hY2.size ?aL ?_
           (case aK => (intro z cs h; exact h))
           (case aL => (simp only [List.length_append, List.length_take, List.length_cons, List.length_nil]; omega))
           intro v3 u3 hV3 hY3 hG3 _
           rw [List.nil_append] at hV3
           have hS3 : u2.grownBy u3 (some B1) := hG3
           refine hK.out _ _ ⟨pw_cell_below hY3 x0, pw_cell_below hY3 x1, pw_cell_below hY3 x2, pw_cell_below hY3 x3, pw_cell_below hY3 x4⟩ (fun hHeld => ?_)
           clear hK K
           refine norm_ (a' := ?_) ?_ ?_
           rotate_left
           ·show Act.put _ (some 83) _ = _
            simp only [Act.put, List.setIfInBounds_toArray, List.set_cons_zero, List.set_cons_succ, i64_w, i32_w]
            rfl
           exact norm_ (by simp only [putAll, Act.put, List.setIfInBounds_toArray, List.set_cons_zero, List.set_cons_succ]) (hCont (B1, v3, B2) _ ⟨hY3, hV3, ((hS3.block _ hl2 (by intro e; injection e with e; have := hl1; omega)).trans hX2)⟩)
         ·skip
          refine row1_step px (by rfl) rfl rfl (by rw [HPX.out]; rfl) ?_
          intro B1 u1 hb1 hl1 hX1 hS1
          have hY1 : Below wy.heap.size wy u1 := below_step (below_drew1 (Below.refl wy.heap.size wy)) hS1
          refine hK.out _ _ ⟨pw_cell_below hY1 x0, pw_cell_below hY1 x1, pw_cell_below hY1 x2, pw_cell_below hY1 x3, pw_cell_below hY1 x4⟩ (fun hHeld => ?_)
          clear hK K
          refine norm_ (a' := ?_) ?_ ?_
          rotate_left
          ·show Act.put _ (some 85) _ = _
           simp only [Act.put, List.setIfInBounds_toArray, List.set_cons_zero, List.set_cons_succ, i64_w, i32_w]
           rfl
          refine one_ (i := 1) (N := some 76) #[true,true,true,true,true,true,true,true,false,true,true,false,true,true,true,true,true,true,false,false,false,false] rfl rfl (by kernel_rfl) (by decide) (fun K hK => ?_)
          refine row0_step (by rfl) rfl rfl ?_
          intro B2 u2 hb2 hl2 hR2 hS2
          have hY2 : Below wy.heap.size wy u2 := below_step hY1 hS2
          refine hK.out _ _ ⟨pw_cell_below hY2 x0, pw_cell_below hY2 x1, pw_cell_below hY2 x2, pw_cell_below hY2 x3, pw_cell_below hY2 x4⟩ (fun hHeld => ?_)
          clear hK K
          refine norm_ (a' := ?_) ?_ ?_
          rotate_left
          ·show Act.put _ (some 76) _ = _
           simp only [Act.put, List.setIfInBounds_toArray, List.set_cons_zero, List.set_cons_succ, i64_w, i32_w]
           rfl
          refine one_ (i := 8) (N := some 83) #[true,true,true,true,true,true,true,true,true,true,true,false,true,true,true,true,true,true,false,false,false,false] rfl rfl (by kernel_rfl) (by decide) (fun K hK => ?_)
          have hRz : Kd.R kR 83 u2 wy.heap.size (fun _ => True) (.slice (some ⟨B2, 0, none⟩) 0 0) [] := Kd.R_lower hR2 hY1.size
          refine Kd.R_append_rows_step kR (Rr := E4) (w0 := wy) wy.heap.size (by rfl) (.tmp 76) (.tmp 82) 84 83 (.agg #[.string ⟨#[]⟩, .int .u8 0, .int .u8 0, .slice none 0 0]) 56 rfl Try.underlying84 info83 rfl (by decide) (by decide) (.slice (some ⟨B2, 0, none⟩) 0 0) [] (ps.take i) (some ⟨b, 0, none⟩) i c (fun _ => True) (fun _ => False) rfl rfl hRz (HT1.out _ hY2) ?aK (fun _ h => h.elim) (fun _ _ => trivial) hY2 hY2.size ?aL ?_
          (case aK => (intro z cs h; exact h))
          (case aL => (simp only [List.length_append, List.length_take, List.length_cons, List.length_nil]; omega))
          intro v3 u3 hV3 hY3 hG3 _
          rw [List.nil_append] at hV3
          have hS3 : u2.grownBy u3 (some B2) := hG3
          refine hK.out _ _ ⟨pw_cell_below hY3 x0, pw_cell_below hY3 x1, pw_cell_below hY3 x2, pw_cell_below hY3 x3, pw_cell_below hY3 x4⟩ (fun hHeld => ?_)
          clear hK K
          refine norm_ (a' := ?_) ?_ ?_
          rotate_left
          ·show Act.put _ (some 83) _ = _
           simp only [Act.put, List.setIfInBounds_toArray, List.set_cons_zero, List.set_cons_succ, i64_w, i32_w]
           rfl
          exact norm_ (by simp only [putAll, Act.put, List.setIfInBounds_toArray, List.set_cons_zero, List.set_cons_succ]) (hCont (B2, v3, B1) _ ⟨hY3, hV3, ((hS3.block _ (Nat.lt_of_lt_of_le hl1 hS2.size) (by intro e; injection e with e; omega)).trans ((hS2.block _ hl1).trans hX1))⟩)
        rintro ⟨B0, v, Bx⟩ u hF
        have hHeld : True := trivial
        refine norm_ (a' := ?_) ?_ ?_
        rotate_left
        ·simp only [putAll, Act.put, List.setIfInBounds_toArray, List.set_cons_zero, List.set_cons_succ]
         rfl
        refine one_ (i := 11) (N := some 86) #[true,true,true,true,true,true,true,true,true,true,true,true,true,true,true,true,true,true,false,false,false,false] rfl rfl (by kernel_rfl) (by decide) (fun K hK => ?_)
        refine Kd.R_append_rows_step kR (Rr := E4) (w0 := wy) wy.heap.size (by rfl) (.tmp 83) (.tmp 85) 84 83 (.agg #[.string ⟨#[]⟩, .int .u8 0, .int .u8 0, .slice none 0 0]) 56 rfl Try.underlying84 info83 rfl (by decide) (by decide) v (ps.take i) [px] (some ⟨Bx, 0, none⟩) 1 1 (fun _ => True) (fun k => some k ≠ v.ownBlock) rfl rfl hF.own (one_reads hF.box hpx1) ?aK (fun _ h => ⟨trivial, h⟩) (fun _ _ => trivial) hF.bl hF.bl.size ?aL ?_
        (case aK => (intro z cs h; exact h))
        (case aL => (simp only [List.length_append, List.length_take, List.length_cons, List.length_nil]; omega))
        intro v9 u9 hV9 hY9 hG9 _
        refine hK.out _ _ ⟨pw_cell_below hY9 x0, pw_cell_below hY9 x1, pw_cell_below hY9 x2, pw_cell_below hY9 x3, pw_cell_below hY9 x4⟩ (fun hHeld => ?_)
        clear hK K
        refine norm_ (a' := ?_) ?_ ?_
        rotate_left
        ·show Act.put _ (some 86) _ = _
         simp only [Act.put, List.setIfInBounds_toArray, List.set_cons_zero, List.set_cons_succ, i64_w, i32_w]
         rfl
        refine one_ (i := 18) (N := some 93) #[true,true,true,true,true,true,true,true,true,true,true,true,true,true,true,true,true,true,true,false,false,false] rfl rfl (by kernel_rfl) (by decide) (fun K hK => ?_)
        refine Kd.R_append_rows_step kR (Rr := E4) (w0 := wy) wy.heap.size (by rfl) (.tmp 86) (.tmp 92) 84 83 (.agg #[.string ⟨#[]⟩, .int .u8 0, .int .u8 0, .slice none 0 0]) 56 rfl Try.underlying84 info83 rfl (by decide) (by decide) v9 (ps.take i ++ [px]) (ps.drop i) A2 (ps.length - i) (c - i) (fun _ => True) (fun _ => False) rfl rfl hV9 (HT2.out _ hY9) ?aK (fun _ h => h.elim) (fun _ _ => trivial) hY9 hY9.size ?aL ?_
        (case aK => (intro z cs h; exact h))
        (case aL => (simp only [List.length_append, List.length_take, List.length_cons, List.length_nil]; omega))
        intro v18 u18 hV18 hY18 hG18 _
        obtain ⟨A9, c9, rfl⟩ := Kd.R_slice hV18
        have hr18 := (hY18.block _ HZ2.out.rlt).trans HZ2.out.tb
        have c9' : u18.cell? ⟨r, 2, none⟩ = some (.slice (some ⟨b, 0, none⟩) ps.length c) := (cell_of hr18).trans rfl
        have f9' := free_of hr18 2
        refine hK.out _ _ ⟨pw_cell_below hY18 x0, pw_cell_below hY18 x1, pw_cell_below hY18 x2, pw_cell_below hY18 x3, pw_cell_below hY18 x4⟩ (fun hHeld => ?_)
        clear hK K
        refine norm_ (a' := ?_) ?_ ?_
        rotate_left
        ·show Act.put _ (some 93) _ = _
         simp only [Act.put, List.setIfInBounds_toArray, List.set_cons_zero, List.set_cons_succ, i64_w, i32_w]
         rfl
        refine pure_ (i := 19) (N := some 94) (v := ?_) (a' := ?_) #[true,true,true,true,true,true,true,true,true,true,true,true,true,true,true,true,true,true,true,true,false,false] rfl rfl (by kernel_rfl) (fun _ _ _ h => h) (Or.inl ⟨by rfl, ?_⟩) ?_ ?_
        rotate_left
        ·intro w'
         go_simp
         with_reducible rfl
        rotate_left
        ·simp only [Act.put, List.setIfInBounds_toArray, List.set_cons_zero, List.set_cons_succ, i64_w, i32_w]
         rfl
        refine pure_ (i := 20) (N := some 95) (v := ?_) (a' := ?_) #[true,true,true,true,true,true,true,true,true,true,true,true,true,true,true,true,true,true,true,true,true,false] rfl rfl (by kernel_rfl) (fun _ _ _ h => h) (Or.inl ⟨by rfl, ?_⟩) ?_ ?_
        rotate_left
        ·intro w'
         go_simp
         with_reducible rfl
        rotate_left
        ·simp only [Act.put, List.setIfInBounds_toArray, List.set_cons_zero, List.set_cons_succ, i64_w, i32_w]
         rfl
        refine last_ (i := 21) (N := none) #[true,true,true,true,true,true,true,true,true,true,true,true,true,true,true,true,true,true,true,true,true,true] rfl rfl (by kernel_rfl) (by decide) (fun K hK => ?_)
        refine skip_ (w1 := ?_) (by rfl) rfl ?_ ?_
        rotate_left
        ·go_simp
         rfl
        refine hK.out _ _ ?_
        clear hK K
        refine done_ (by kernel_rfl) ?_
        have hin : ∀ (p : Rw), p ∈ ps.take i ++ [px] ++ ps.drop i → InRow bad u18 p := fun p hp => by
         have hold : p ∈ ps → InRow bad u18 p := fun q => (HZ2.out.inn p q).mono hY18.size (fun b hb _ => hY18.block b hb) (fun _ _ z => z)
         rcases List.mem_append.1 hp with hp | hp
         ·rcases List.mem_append.1 hp with hp | hp
          ·exact hold (List.mem_of_mem_take hp)
          ·rw [List.mem_singleton.1 hp, HPX.out]
           refine ⟨some ⟨V, 0, none⟩, m, by simp, by simp, .inr ⟨V, rfl, fun q => by have := HZ.out.lt V q; have := HGV.out; have := HZB.out V q; omega, ?_, fun j v hj => ?_⟩⟩
           ·exact Nat.lt_of_lt_of_le (Array.getElem?_eq_some_iff.1 HVs.out).1 hY18.size
           ·rw [cell_of ((hY18.block _ (Array.getElem?_eq_some_iff.1 HVs.out).1).trans HVs.out)]
            simp only [List.map_replicate] at hj
            rw [List.getElem?_toArray]
            exact hj
         ·exact hold (List.mem_of_mem_drop hp)
        obtain ⟨A7, c7, e1, e2, e3⟩ := IsR.put (ps' := ps.take i ++ [px] ++ ps.drop i) HT0.out (below_then HBY.out HBY.out.size hY18) (v := .slice A9 (ps.take i ++ [px] ++ ps.drop i).length c9) (R_rows (Kd.R_lower hV18 HBY.out.size)) hin
        have hlx : (ps.take i ++ [px] ++ ps.drop i).length = i + (ps.length - i + 1) := by simp; omega
        rw [hlx] at e2 e3
        have HE2 := Lib.hid e2
        have HE3 := Lib.hid e3
        clear hlx hV18 hin e1 e2 e3 hY18 hr18 c9' f9' hHeld
        go_wp2_with fail
        go_ret
        first | refine ⟨rfl, _, ⟨_, _, HE2.out⟩, ?_, HE3.out⟩ | refine ⟨rfl, _, _, _, HE2.out, ?_, HE3.out⟩
        rw [HPX.out, HM.out, Int.toNat_natCast]
        unfold insk
        have htd := tw_at (f := fun c : Cl => decide (klt c.k25 (⟨nm, sd, kd, List.replicate m 0⟩ : Cl).k25)) (l := cls ps) (i := i) (by rw [hcl]; omega) (fun j a ha hj => by
         unfold cls at ha
         rw [List.getElem?_map] at ha
         obtain ⟨q, hq, rfl⟩ := Option.map_eq_some_iff.1 ha
         exact decide_eq_true (HBF.out j q hq hj)) (fun a ha => by
         unfold cls at ha
         rw [List.getElem?_map] at ha
         obtain ⟨q, hq, rfl⟩ := Option.map_eq_some_iff.1 ha
         exact HNX.out q hq)
        rw [htd.1, htd.2]
        unfold cls
        simp [List.map_take, List.map_drop]
end Go.Proofs.Ytpcjppefopjngaa.C
