/- The walk of the reference's Sorted. -/
import Derived.Test.YthmenclkgngkkaaCo
import Derived.Test.YthmenclkgngkkaaPAx5
set_option linter.unusedSimpArgs false
set_option linter.unusedVariables false
set_option linter.unusedSimpArgs false
set_option linter.unusedVariables false
namespace Go.Proofs.Ythmenclkgngkkaa.M
open Go.RowKit Go.Shelf Go.Proofs.Ythmenclkgngkkaa.PA Go.Proofs.YthmenclkgngkkaaW.PrintWords Go.Proofs.YthmenclkgngkkaaW.PrintMore Go.Proofs.YthmenclkgngkkaaW.PrintLast
def blt (x y : S26) : Bool := ltOf oc x y
theorem before_f (x y : S26) : reticuleref21_before.f x.f0 x.f1 x.f2 y.f0 y.f1 y.f2 = some (blt x y) := by
 unfold reticuleref21_before.f blt
 rw [ltOc]
 split
 ·rename_i h
  split
  ·rename_i h1
   simp [h, h1]
  ·rename_i h1
   simp [h, h1]
 ·rename_i h
  simp [h]
theorem blt_le {x y : S26} (h : blt x y = true) : le x y = true := by
 unfold blt at h
 unfold le
 rw [ltOc] at *
 simp only [decide_eq_true_eq, Bool.not_eq_true', decide_eq_false_iff_not] at *
 omega
theorem not_blt_le {x y : S26} (h : blt x y = false) : le y x = true := by
 unfold blt at h
 unfold le
 rw [h]; rfl
theorem ins_sorted {l acc : List S26} {x : S26} {k : Nat} (h : acc = l.mergeSort le) (hk : k ≤ acc.length) (h1 : ∀ j (hj : j < k), blt x (acc[j]'(Nat.lt_of_lt_of_le hj hk)) = false) (h2 : ∀ (hk2 : k < acc.length), blt x acc[k] = true) : acc.take k ++ [x] ++ acc.drop k = (l ++ [x]).mergeSort le := by
 have hp : acc.Pairwise (fun a b => le a b = true) := h ▸ List.pairwise_mergeSort le_trans le_total l
 have hperm : (acc.take k ++ [x] ++ acc.drop k).Perm (l ++ [x]) := by
  have e1 : (acc.take k ++ [x] ++ acc.drop k).Perm ((acc.take k ++ acc.drop k) ++ [x]) := by
   rw [List.append_assoc, List.append_assoc]
   exact (List.Perm.append_left _ List.perm_append_comm)
  rw [List.take_append_drop] at e1
  exact e1.trans (List.Perm.append_right _ (h ▸ List.mergeSort_perm l le))
 have hps : (acc.take k ++ [x] ++ acc.drop k).Pairwise (fun a b => le a b = true) := by
  have ht : ∀ a ∈ acc.take k, le a x = true := fun a ha => by
   obtain ⟨j, hj, rfl⟩ := List.mem_iff_getElem.1 ha
   rw [List.getElem_take]
   exact not_blt_le (h1 j (by rw [List.length_take] at hj; omega))
  have hd : ∀ b ∈ acc.drop k, le x b = true := fun b hb => by
   by_cases hk2 : k < acc.length
   ·have hb2 := hb
    rw [List.drop_eq_getElem_cons hk2] at hb2
    rcases List.mem_cons.1 hb2 with rfl | hb2
    ·exact blt_le (h2 hk2)
    ·have hpd : (acc.drop k).Pairwise (fun a b => le a b = true) := hp.sublist (List.drop_sublist _ _)
     rw [List.drop_eq_getElem_cons hk2] at hpd
     exact le_trans _ _ _ (blt_le (h2 hk2)) ((List.pairwise_cons.1 hpd).1 b hb2)
   ·rw [List.drop_eq_nil_of_le (by omega)] at hb; cases hb
  rw [List.append_assoc, List.pairwise_append]
  refine ⟨hp.sublist (List.take_sublist _ _), ?_, fun a ha b hb => ?_⟩
  ·rw [List.singleton_append, List.pairwise_cons]
   exact ⟨hd, hp.sublist (List.drop_sublist _ _)⟩
  ·rcases List.mem_append.1 hb with hb | hb
   ·rw [List.mem_singleton.1 hb]; exact ht a ha
   ·exact le_trans _ _ _ (ht a ha) (hd b hb)
 exact List.Perm.eq_of_pairwise (le := fun a b => le a b = true) (fun a b _ _ h1 h2 => le_antisymm h1 h2) hps (List.pairwise_mergeSort le_trans le_total _) (hperm.trans (List.mergeSort_perm _ le).symm)
theorem box0_step {ops : Array Oper} {Q : Exit → Act → World → Prop} {o : Oper} {N : Option Tmp} {a : Act} {w : World} {K : Act → World → Prop} (hw : Region.wanted o (yielded ops a.tmps) = true) (hN : o.dst = N) (hg : o.guard = none) (hop : o.op = .buildSlice 22 0 #[])
  (h : ∀ B w', w.heap.size ≤ B → B < w'.heap.size → Kd.R k26 26 w' w.heap.size (fun _ => True) (.slice (some ⟨B, 0, none⟩) 0 0) [] → Below w.heap.size w w' → K (a.put N (.slice (some ⟨B, 0, none⟩) 0 0)) w') :
  if Region.wanted o (yielded ops a.tmps) = true then Oper.wp Try.prog o a w K Q else K (a.put N undef) w := by
 refine value_ (w1 := w.alloc (.cells #[] 26)) (v := .slice (some ⟨w.heap.size, 0, none⟩) 0 0) hw hN ?_ (h _ _ (Nat.le_refl _) (by simp) (R_empty k26 26 w w.heap.size (Nat.le_refl _)) (below_alloc (Below.refl _ _) _))
 cases o
 simp only at hop
 subst hop
 go_simp
structure FF (wz w' : World) (r : List S26) (cells : Array Value) (v : Value) (b : Nat) : Prop where
 bl : Below wz.heap.size wz w'
 own : Kd.R k26 26 w' wz.heap.size (fun _ => True) v r
 box : w'.heap[b]? = some (.cells cells 26 (0, 0))
def reticuleref21_Sorted.f (l : List S26) : Option (List S26) := if l.length ≤ 1000000000000 then some (l.mergeSort le) else none
set_option maxRecDepth 100000 in
set_option maxHeartbeats 8000000 in
theorem reticuleref21_Sorted.calls (A0 : Option Addr) (c0 : Nat) (l0 : List S26) (r : List S26) (w : World) (hr0 : Kd.C k26 w A0 l0.length l0) (hc0 : l0.length ≤ c0) (h : reticuleref21_Sorted.f l0 = some r) :
  Calls Try.prog 28 #[.slice A0 l0.length c0] w fun e w' => ∃ v0_ : Value, e = .returned v0_ ∧ Kd.R k26 26 w' w.heap.size (fun _ => True) v0_ r ∧ Below w.heap.size w w' := by
 unfold reticuleref21_Sorted.f at h
 split at h
 ·rename_i hll
  injection h with h
  subst h
  have HR := Lib.hid hr0
  clear hr0
  go_enter Try.func28, Try.ntmps28
  go_wp2
  go_loopw [3, 4] (fun v3 v4 wr => ∃ i : Nat, i ≤ l0.length ∧ v4 = .int .i64 i ∧ Kd.R k26 26 wr w.heap.size (fun _ => True) v3 ((l0.take i).mergeSort le) ∧ Below w.heap.size w wr) (fun _ v4 _ => l0.length - (intOf v4).toNat)
  case atStart => exact ⟨0, Nat.zero_le _, rfl, by simpa using Kd.R_nil _ _ _ _ _, Below.refl _ _⟩
  case round =>
   obtain ⟨i, hi, rfl, hO, hb⟩ := hrel
   obtain ⟨acc, hacc⟩ : ∃ acc, acc = (l0.take i).mergeSort le := ⟨_, rfl⟩
   have hal : acc.length = i := by rw [hacc]; simp; omega
   have hal2 : acc.length ≤ 1000000000000 := by omega
   rw [← hacc] at hO
   have HACC := Lib.hid hacc
   have HB := Lib.hid hb
   have HO := Lib.hid hO
   clear hacc hb hO hal
   by_cases hlt : i < l0.length
   ·have di : decide ((i : Int) < (l0.length : Int)) = true := decide_eq_true (by omega)
    obtain ⟨A3, c3, hv, hc3, hC3⟩ := Kd.R_reads HO.out
    subst hv
    obtain ⟨x, hx⟩ : ∃ x, x = l0[i] := ⟨_, rfl⟩
    have hnx : (l0.take (i + 1)).mergeSort le = (l0.take i ++ [x]).mergeSort le := by rw [List.take_succ_eq_append_getElem hlt, hx]
    obtain ⟨ad, e, q0, q1, q2⟩ := msg_at HR.out hlt
    subst e
    rw [← hx] at q0 q1 q2
    have HQ0 := Lib.hid q0
    have HQ1 := Lib.hid q1
    have HQ2 := Lib.hid q2
    have HNX := Lib.hid hnx
    have HB0 := HB.out
    clear hx hnx hC3 q0 q1 q2
    go_wp2_with fail
    go_loopw [5] (fun v5 wq => ∃ k : Nat, ∃ hk : k ≤ acc.length, v5 = .int .i64 k ∧ (∀ j (hj : j < k), blt x (acc[j]'(Nat.lt_of_lt_of_le hj hk)) = false) ∧ Kd.R k26 26 wq w.heap.size (fun _ => True) (.slice A3 acc.length c3) acc ∧ Below w.heap.size w wq) (fun v5 _ => acc.length - (intOf v5).toNat)
    case atStart => exact ⟨0, Nat.zero_le _, rfl, fun j hj => absurd hj (by omega), HO.out, HB0⟩
    case round =>
     clear HB HO HB0
     obtain ⟨k, hk, rfl, hbf, hO, hb⟩ := hrel
     have HB := Lib.hid hb
     have HO := Lib.hid hO
     have HBF := Lib.hid hbf
     have q0 := (hb.cell (World.block_lt_of_cell? w _ HQ0.out)).trans HQ0.out
     have q1 := (hb.cell (World.block_lt_of_cell? w _ HQ1.out)).trans HQ1.out
     have q2 := (hb.cell (World.block_lt_of_cell? w _ HQ2.out)).trans HQ2.out
     clear hb hO hbf
     by_cases hlk : k < acc.length
     ·have dk : decide ((k : Int) < (acc.length : Int)) = true := decide_eq_true (by omega)
      have dkn : decide (k < acc.length) = true := decide_eq_true hlk
      have dk1 : ((k : Int) < (acc.length : Int)) = True := eq_true (by omega)
      have dk0 : (0 ≤ (k : Int)) = True := eq_true (by omega)
      have di1 : ((i : Int) < (l0.length : Int)) = True := eq_true (by omega)
      have di0 : (0 ≤ (i : Int)) = True := eq_true (by omega)
      obtain ⟨a3, e3, t0, t1, t2⟩ := msg_at (Kd.R_reads' HO.out).2.2 hlk
      subst e3
      obtain ⟨y, hy⟩ : ∃ y, y = acc[k] := ⟨_, rfl⟩
      rw [← hy] at t0 t1 t2
      obtain ⟨bb, hbb⟩ : ∃ bb, bb = blt x y := ⟨_, rfl⟩
      have HBY := Lib.hid (show reticuleref21_before.f x.f0 x.f1 x.f2 y.f0 y.f1 y.f2 = some bb by rw [before_f, hbb])
      have HY := Lib.hid hy
      have HBB := Lib.hid hbb
      clear hy hbb
      go_wp2_with fail
      refine start_ (n := 16) (S := fun w' => w'.cell? (ad.add (i * 3)) = some (.int .i64 x.f0) ∧ w'.cell? ⟨(ad.add (i * 3)).block, (ad.add (i * 3)).off + 1, none⟩ = some (.int .i64 x.f1) ∧ w'.cell? ⟨(ad.add (i * 3)).block, (ad.add (i * 3)).off + 2, none⟩ = some (.int .i64 x.f2) ∧ w'.cell? (a3.add (k * 3)) = some (.int .i64 y.f0) ∧ w'.cell? ⟨(a3.add (k * 3)).block, (a3.add (k * 3)).off + 1, none⟩ = some (.int .i64 y.f1) ∧ w'.cell? ⟨(a3.add (k * 3)).block, (a3.add (k * 3)).off + 2, none⟩ = some (.int .i64 y.f2)) (ds := [13]) #[false,false,false,false,false,false,false,false,false,false,false,false,false,false,false,false] (by kernel_rfl) rfl rfl ⟨q0, q1, q2, t0, t1, t2⟩ (fun hHeld => ?_)
      refine pure_ (i := 0) (N := some 12) (v := ?_) (a' := ?_) #[true,false,false,false,false,false,false,false,false,false,false,false,false,false,false,false] rfl rfl (by kernel_rfl) (fun _ _ _ h => h) (Or.inl ⟨by rfl, ?_⟩) ?_ ?_
      rotate_left
      ·intro w'
       go_simp
       with_reducible rfl
      rotate_left
      ·simp only [Act.put, List.setIfInBounds_toArray, List.set_cons_zero, List.set_cons_succ, i64_w, i32_w]
       rfl
      refine pure_ (i := 1) (N := some 13) (v := ?_) (a' := ?_) #[true,true,false,false,false,false,false,false,false,false,false,false,false,false,false,false] rfl rfl (by kernel_rfl) (fun _ _ _ h => h) (Or.inl ⟨by rfl, ?_⟩) ?_ ?_
      rotate_left
      ·intro w'
       go_simp
       with_reducible rfl
      rotate_left
      ·simp only [Act.put, List.setIfInBounds_toArray, List.set_cons_zero, List.set_cons_succ, i64_w, i32_w]
       rfl
      refine pure_ (i := 2) (N := some 14) (v := ?_) (a' := ?_) #[true,true,true,false,false,false,false,false,false,false,false,false,false,false,false,false] rfl rfl (by kernel_rfl) (fun _ _ _ h => h) (Or.inl ⟨by rfl, ?_⟩) ?_ ?_
      rotate_left
      ·intro w'
       go_simp
       with_reducible rfl
      rotate_left
      ·simp only [Act.put, List.setIfInBounds_toArray, List.set_cons_zero, List.set_cons_succ, i64_w, i32_w]
       rfl
      refine pure_ (i := 3) (N := some 15) (v := ?_) (a' := ?_) #[true,true,true,true,false,false,false,false,false,false,false,false,false,false,false,false] rfl rfl (by kernel_rfl) (fun _ _ _ h => h) (Or.inl ⟨by rfl, ?_⟩) ?_ ?_
      rotate_left
      ·intro w'
       go_simp
       with_reducible rfl
      rotate_left
      ·simp only [Act.put, List.setIfInBounds_toArray, List.set_cons_zero, List.set_cons_succ, i64_w, i32_w]
       rfl
      refine pure_ (i := 4) (N := some 16) (v := ?_) (a' := ?_) #[true,true,true,true,true,false,false,false,false,false,false,false,false,false,false,false] rfl rfl (by kernel_rfl) (fun _ _ _ h => h) (Or.inl ⟨by rfl, ?_⟩) ?_ ?_
      rotate_left
      ·intro w'
       go_simp
       with_reducible rfl
      rotate_left
      ·simp only [Act.put, List.setIfInBounds_toArray, List.set_cons_zero, List.set_cons_succ, i64_w, i32_w]
       rfl
      refine pure_ (i := 5) (N := some 17) (v := ?_) (a' := ?_) #[true,true,true,true,true,true,false,false,false,false,false,false,false,false,false,false] rfl rfl (by kernel_rfl) (fun _ _ _ h => h) (Or.inl ⟨by rfl, ?_⟩) ?_ ?_
      rotate_left
      ·intro w'
       go_simp
       with_reducible rfl
      rotate_left
      ·simp only [Act.put, List.setIfInBounds_toArray, List.set_cons_zero, List.set_cons_succ, i64_w, i32_w]
       rfl
      refine pure_ (i := 6) (N := some 18) (v := ?_) (a' := ?_) #[true,true,true,true,true,true,true,false,false,false,false,false,false,false,false,false] rfl rfl (by kernel_rfl) (fun _ _ _ h => h) (Or.inl ⟨by rfl, ?_⟩) ?_ ?_
      rotate_left
      ·intro w'
       go_simp
       with_reducible rfl
      rotate_left
      ·simp only [Act.put, List.setIfInBounds_toArray, List.set_cons_zero, List.set_cons_succ, i64_w, i32_w]
       rfl
      refine pure_ (i := 7) (N := some 19) (v := ?_) (a' := ?_) #[true,true,true,true,true,true,true,true,false,false,false,false,false,false,false,false] rfl rfl (by kernel_rfl) (fun _ _ _ h => h) (Or.inl ⟨by rfl, ?_⟩) ?_ ?_
      rotate_left
      ·intro w'
       go_simp
       with_reducible rfl
      rotate_left
      ·simp only [Act.put, List.setIfInBounds_toArray, List.set_cons_zero, List.set_cons_succ, i64_w, i32_w]
       rfl
      refine pure_ (i := 9) (N := some 21) (v := ?_) (a' := ?_) #[true,true,true,true,true,true,true,true,false,true,false,false,false,false,false,false] rfl rfl (by kernel_rfl) (fun _ _ _ h => h) (Or.inl ⟨by rfl, ?_⟩) ?_ ?_
      rotate_left
      ·intro w'
       go_simp
       with_reducible rfl
      rotate_left
      ·simp only [Act.put, List.setIfInBounds_toArray, List.set_cons_zero, List.set_cons_succ, i64_w, i32_w]
       rfl
      refine pure_ (i := 10) (N := some 22) (v := ?_) (a' := ?_) #[true,true,true,true,true,true,true,true,false,true,true,false,false,false,false,false] rfl rfl (by kernel_rfl) (fun _ _ _ h => h) (Or.inl ⟨by rfl, ?_⟩) ?_ ?_
      rotate_left
      ·intro w'
       go_simp
       with_reducible rfl
      rotate_left
      ·simp only [Act.put, List.setIfInBounds_toArray, List.set_cons_zero, List.set_cons_succ, i64_w, i32_w]
       rfl
      refine pure_ (i := 11) (N := some 23) (v := ?_) (a' := ?_) #[true,true,true,true,true,true,true,true,false,true,true,true,false,false,false,false] rfl rfl (by kernel_rfl) (fun _ _ _ h => h) (Or.inl ⟨by rfl, ?_⟩) ?_ ?_
      rotate_left
      ·intro w'
       go_simp
       with_reducible rfl
      rotate_left
      ·simp only [Act.put, List.setIfInBounds_toArray, List.set_cons_zero, List.set_cons_succ, i64_w, i32_w]
       rfl
      refine take_ (i := 8) (N := some 20) (v := ?_) (a' := ?_) #[true,true,true,true,true,true,true,true,true,true,true,true,false,false,false,false] rfl rfl (by kernel_rfl) (fun _ _ _ h => h) (Or.inl ⟨by rfl, ?_⟩) hHeld ?_ ?_
      rotate_left
      ·rintro w' ⟨s0, s1, s2, s3, s4, s5⟩
       go_simp
       with_reducible rfl
      rotate_left
      ·simp only [Act.put, List.setIfInBounds_toArray, List.set_cons_zero, List.set_cons_succ, i64_w, i32_w]
       rfl
      refine take_ (i := 12) (N := some 24) (v := ?_) (a' := ?_) #[true,true,true,true,true,true,true,true,true,true,true,true,true,false,false,false] rfl rfl (by kernel_rfl) (fun _ _ _ h => h) (Or.inl ⟨by rfl, ?_⟩) hHeld ?_ ?_
      rotate_left
      ·rintro w' ⟨s0, s1, s2, s3, s4, s5⟩
       go_simp
       with_reducible rfl
      rotate_left
      ·simp only [Act.put, List.setIfInBounds_toArray, List.set_cons_zero, List.set_cons_succ, i64_w, i32_w]
       rfl
      refine last_ (i := 13) (N := some 25) #[true,true,true,true,true,true,true,true,true,true,true,true,true,true,false,false] rfl rfl (by kernel_rfl) (by decide) (fun K hK => ?_)
      refine goes_ Try.func56 (by kernel_rfl) rfl #[.agg #[.int .i64 x.f0, .int .i64 x.f1, .int .i64 x.f2], .agg #[.int .i64 y.f0, .int .i64 y.f1, .int .i64 y.f2]] (by rfl) rfl rfl (by simp only [List.map_toArray, List.map_cons, List.map_nil]; rfl) ?_
      with_reducible refine (reticuleref21_before.calls _ _ _ _ _ _ bb _ HBY.out).mono ?_
      rintro e w9 ⟨rfl, hb9⟩
      refine ⟨_, rfl, ?_⟩
      refine hK.out _ _ ?_
      clear hK K
      refine norm_ (a' := ?_) ?_ ?_
      rotate_left
      ·show Act.put _ (some 25) _ = _
       simp only [Act.put, List.setIfInBounds_toArray, List.set_cons_zero, List.set_cons_succ, i64_w, i32_w]
       rfl
      refine pure_ (i := 14) (N := some 26) (v := ?_) (a' := ?_) #[true,true,true,true,true,true,true,true,true,true,true,true,true,true,true,false] rfl rfl (by kernel_rfl) (fun _ _ _ h => h) (Or.inl ⟨by rfl, ?_⟩) ?_ ?_
      rotate_left
      ·intro w'
       go_simp
       with_reducible rfl
      rotate_left
      ·simp only [Act.put, List.setIfInBounds_toArray, List.set_cons_zero, List.set_cons_succ, i64_w, i32_w]
       rfl
      refine pure_ (i := 15) (N := some 27) (v := ?_) (a' := ?_) #[true,true,true,true,true,true,true,true,true,true,true,true,true,true,true,true] rfl rfl (by kernel_rfl) (fun _ _ _ h => h) (Or.inl ⟨by rfl, ?_⟩) ?_ ?_
      rotate_left
      ·intro w'
       go_simp
       with_reducible rfl
      rotate_left
      ·simp only [Act.put, List.setIfInBounds_toArray, List.set_cons_zero, List.set_cons_succ, i64_w, i32_w]
       rfl
      refine done_ (by kernel_rfl) ?_
      have HB9 := Lib.hid (below_step (below_drew1 HB.out) hb9)
      have HO9 := Lib.hid (Kd.R_below (Kd.R_drew HO.out) hb9)
      clear hb9 hHeld t0 t1 t2 q0 q1 q2 HB HO
      cases bb with
      | false =>
       go_wp2_with fail
       exact ⟨⟨k + 1, by omega, by go_num, (fun j hj => by
        by_cases e : j < k
        ·exact HBF.out j e
        ·have : j = k := by omega
         subst this
         have := HBB.out
         rw [HY.out] at this
         exact this.symm), HO9.out, HB9.out⟩, by simp [intOf]; omega⟩
      | true =>
       have hins := ins_sorted HACC.out hk HBF.out (fun hk2 => by have := HBB.out; rw [HY.out] at this; exact this.symm)
       have HINS := Lib.hid (hins.trans HNX.out.symm)
       clear hins HBB HBY HY dk dk1 dk0
       go_wp2_with fail
       have HBz := HB9
       have HOz := HO9
       clear HB9 HO9
       generalize w9 = wz at HBz HOz ⊢
       obtain ⟨_, hc3z, hC3⟩ := Kd.R_reads' HOz.out
       have hT := Kd.C_take (m := k) hC3 hk
       obtain ⟨i26, hi26, _, hsz26, _⟩ := info_parts info26
       have hcutA := cut_to (P := Try.prog) 22 26 .i64 Try.underlying22 hi26 (some a3) acc.length c3 (k : Int) (by omega) (by omega) hc3z
       have hcutB := cut_from (P := Try.prog) 22 26 .i64 Try.underlying22 hi26 3 hsz26 (some a3) acc.length c3 (k : Int) (by omega) (by omega)
       have hDr := Kd.C_drop (m := k) (c := c3) hC3 hk hc3z
       obtain ⟨A4, hA4⟩ : ∃ A4, A4 = (if c3 = k then (some a3) else (some a3 : Option Addr).map (·.add (k * k26.sz))) := ⟨_, rfl⟩
       obtain ⟨c4, hc4⟩ : ∃ c4, c4 = c3 - k := ⟨_, rfl⟩
       obtain ⟨t, ht⟩ : ∃ t, t = acc.take k := ⟨_, rfl⟩
       obtain ⟨d, hd⟩ : ∃ d, d = acc.drop k := ⟨_, rfl⟩
       have htl : t.length = k := by rw [ht, List.length_take]; omega
       have hdl : d.length = acc.length - k := by rw [hd, List.length_drop]
       rw [← hA4, ← hd] at hDr
       rw [← ht] at hT
       rw [Int.toNat_natCast] at hcutA hcutB
       rw [show (if c3 = k then (some a3) else (some a3 : Option Addr).map (·.add (k * 3))) = A4 from hA4.symm, ← hdl, ← hc4] at hcutB
       have hcA : ∀ W, (Instr.slice 22 (.slice (some a3) acc.length c3) none (some (.int .i64 (k : Int))) none).run Try.prog W = .ok (.slice (some a3) t.length c3) W := fun W => by rw [htl]; exact hcutA W
       have htle : t.length ≤ 1000000000000 := by omega
       have hdle : d.length ≤ 1000000000000 := by omega
       have HTC := Lib.hid hT
       have HDC := Lib.hid hDr
       have hin := HINS.out
       rw [← ht, ← hd] at hin
       have HIN := Lib.hid hin
       have q0 := (HBz.out.cell (World.block_lt_of_cell? w _ HQ0.out)).trans HQ0.out
       have q1 := (HBz.out.cell (World.block_lt_of_cell? w _ HQ1.out)).trans HQ1.out
       have q2 := (HBz.out.cell (World.block_lt_of_cell? w _ HQ2.out)).trans HQ2.out
       have dj1 : ((i : Int) < (l0.length : Int)) = True := eq_true (by omega)
       have dj0 : (0 ≤ (i : Int)) = True := eq_true (by omega)
       have HTL := Lib.hid htl
       have HDL := Lib.hid hdl
       clear hT hDr hA4 hc4 ht hd hC3 hin hi26 hsz26 HINS htl hdl hcutA
       go_wp2_with fail
       refine start_ (n := 16) (S := fun w' => w'.cell? (ad.add (i * 3)) = some (.int .i64 x.f0) ∧ w'.cell? ⟨(ad.add (i * 3)).block, (ad.add (i * 3)).off + 1, none⟩ = some (.int .i64 x.f1) ∧ w'.cell? ⟨(ad.add (i * 3)).block, (ad.add (i * 3)).off + 2, none⟩ = some (.int .i64 x.f2)) (ds := [10, 14]) #[false,false,false,false,false,false,false,false,false,false,false,false,false,false,false,false] (by kernel_rfl) rfl rfl ⟨q0, q1, q2⟩ (fun hHeld => ?_)
       refine pure_ (i := 1) (N := some 31) (v := ?_) (a' := ?_) #[false,true,false,false,false,false,false,false,false,false,false,false,false,false,false,false] rfl rfl (by kernel_rfl) (fun _ _ _ h => h) (Or.inl ⟨by rfl, ?_⟩) ?_ ?_
       rotate_left
       ·intro w'
        go_simp
        with_reducible rfl
       rotate_left
       ·simp only [Act.put, List.setIfInBounds_toArray, List.set_cons_zero, List.set_cons_succ, i64_w, i32_w]
        rfl
       refine pure_ (i := 2) (N := some 32) (v := ?_) (a' := ?_) #[false,true,true,false,false,false,false,false,false,false,false,false,false,false,false,false] rfl rfl (by kernel_rfl) (fun _ _ _ h => h) (Or.inl ⟨by rfl, ?_⟩) ?_ ?_
       rotate_left
       ·intro w'
        go_simp
        with_reducible rfl
       rotate_left
       ·simp only [Act.put, List.setIfInBounds_toArray, List.set_cons_zero, List.set_cons_succ, i64_w, i32_w]
        rfl
       refine pure_ (i := 3) (N := some 33) (v := ?_) (a' := ?_) #[false,true,true,true,false,false,false,false,false,false,false,false,false,false,false,false] rfl rfl (by kernel_rfl) (fun _ _ _ h => h) (Or.inl ⟨by rfl, ?_⟩) ?_ ?_
       rotate_left
       ·intro w'
        go_simp
        with_reducible rfl
       rotate_left
       ·simp only [Act.put, List.setIfInBounds_toArray, List.set_cons_zero, List.set_cons_succ, i64_w, i32_w]
        rfl
       refine pure_ (i := 5) (N := some 35) (v := ?_) (a' := ?_) #[false,true,true,true,false,true,false,false,false,false,false,false,false,false,false,false] rfl rfl (by kernel_rfl) (fun _ _ _ h => h) (Or.inl ⟨by rfl, ?_⟩) ?_ ?_
       rotate_left
       ·intro w'
        go_simp
        with_reducible rfl
       rotate_left
       ·simp only [Act.put, List.setIfInBounds_toArray, List.set_cons_zero, List.set_cons_succ, i64_w, i32_w]
        rfl
       refine pure_ (i := 6) (N := some 36) (v := ?_) (a' := ?_) #[false,true,true,true,false,true,true,false,false,false,false,false,false,false,false,false] rfl rfl (by kernel_rfl) (fun _ _ _ h => h) (Or.inl ⟨by rfl, ?_⟩) ?_ ?_
       rotate_left
       ·intro w'
        go_simp
        with_reducible rfl
       rotate_left
       ·simp only [Act.put, List.setIfInBounds_toArray, List.set_cons_zero, List.set_cons_succ, i64_w, i32_w]
        rfl
       refine pure_ (i := 7) (N := some 37) (v := ?_) (a' := ?_) #[false,true,true,true,false,true,true,true,false,false,false,false,false,false,false,false] rfl rfl (by kernel_rfl) (fun _ _ _ h => h) (Or.inl ⟨by rfl, ?_⟩) ?_ ?_
       rotate_left
       ·intro w'
        go_simp
        with_reducible rfl
       rotate_left
       ·simp only [Act.put, List.setIfInBounds_toArray, List.set_cons_zero, List.set_cons_succ, i64_w, i32_w]
        rfl
       refine pure_ (i := 11) (N := some 41) (v := ?_) (a' := ?_) #[false,true,true,true,false,true,true,true,false,false,false,true,false,false,false,false] rfl rfl (by kernel_rfl) (fun _ _ _ h => h) (Or.inl ⟨by rfl, ?_⟩) ?_ ?_
       rotate_left
       ·intro w'
        go_simp
        with_reducible rfl
       rotate_left
       ·simp only [Act.put, List.setIfInBounds_toArray, List.set_cons_zero, List.set_cons_succ, i64_w, i32_w]
        rfl
       refine pure_ (i := 12) (N := some 42) (v := ?_) (a' := ?_) #[false,true,true,true,false,true,true,true,false,false,false,true,true,false,false,false] rfl rfl (by kernel_rfl) (fun _ _ _ h => h) (Or.inl ⟨by rfl, ?_⟩) ?_ ?_
       rotate_left
       ·intro w'
        go_simp
        with_reducible rfl
       rotate_left
       ·simp only [Act.put, List.setIfInBounds_toArray, List.set_cons_zero, List.set_cons_succ, i64_w, i32_w]
        rfl
       refine pure_ (i := 13) (N := some 43) (v := ?_) (a' := ?_) #[false,true,true,true,false,true,true,true,false,false,false,true,true,true,false,false] rfl rfl (by kernel_rfl) (fun _ _ _ h => h) (Or.inl ⟨by rfl, ?_⟩) ?_ ?_
       rotate_left
       ·intro w'
        go_simp
        with_reducible rfl
       rotate_left
       ·simp only [Act.put, List.setIfInBounds_toArray, List.set_cons_zero, List.set_cons_succ, i64_w, i32_w]
        rfl
       refine take_ (i := 8) (N := some 38) (v := ?_) (a' := ?_) #[false,true,true,true,false,true,true,true,true,false,false,true,true,true,false,false] rfl rfl (by kernel_rfl) (fun _ _ _ h => h) (Or.inl ⟨by rfl, ?_⟩) hHeld ?_ ?_
       rotate_left
       ·rintro w' ⟨s0, s1, s2⟩
        go_simp
        with_reducible rfl
       rotate_left
       ·simp only [Act.put, List.setIfInBounds_toArray, List.set_cons_zero, List.set_cons_succ, i64_w, i32_w]
        rfl
       refine join_ (σ := Nat × Value × Nat) 3 #[true,true,true,true,true,true,true,true,true,true,false,true,true,true,false,false] (fun s => [(30, .slice (some ⟨s.1, 0, none⟩) 0 0), (34, s.2.1), (39, .slice (some ⟨s.2.2, 0, none⟩) 1 1)]) (fun s w' => FF wz w' t #[.int .i64 x.f0, .int .i64 x.f1, .int .i64 x.f2] s.2.1 s.2.2) ?_ ?_
       rotate_left
       ·intro hCont
        refine two_ (i := 0) (j := 9) (Ni := some 30) (Nj := some 39) #[true,true,true,true,false,true,true,true,true,false,false,true,true,true,false,false] #[false,true,true,true,false,true,true,true,true,true,false,true,true,true,false,false] rfl rfl rfl rfl (by kernel_rfl) (by decide) (by decide) (fun K hK => ?_) (fun K hK => ?_)
        ·skip
         refine box0_step (by rfl) rfl rfl rfl ?_
         intro B1 u1 hb1 hl1 hR1 hS1
         have hZ1 : Below wz.heap.size wz u1 := below_step (below_drew1 (Below.refl wz.heap.size wz)) hS1
         refine hK.out _ _ ⟨pw_cell_below hZ1 q0, pw_cell_below hZ1 q1, pw_cell_below hZ1 q2⟩ (fun hHeld => ?_)
         clear hK K
         refine norm_ (a' := ?_) ?_ ?_
         rotate_left
         ·show Act.put _ (some 30) _ = _
          simp only [Act.put, List.setIfInBounds_toArray, List.set_cons_zero, List.set_cons_succ, i64_w, i32_w]
          rfl
         refine two_ (i := 4) (j := 9) (Ni := some 34) (Nj := some 39) #[true,true,true,true,true,true,true,true,true,false,false,true,true,true,false,false] #[true,true,true,true,false,true,true,true,true,true,false,true,true,true,false,false] rfl rfl rfl rfl (by kernel_rfl) (by decide) (by decide) (fun K hK => ?_) (fun K hK => ?_)
         ·skip
          have hRz : Kd.R k26 26 u1 wz.heap.size (fun _ => True) (.slice (some ⟨B1, 0, none⟩) 0 0) [] := Kd.R_lower hR1 (below_drew1 (Below.refl wz.heap.size wz)).size
          refine Kd.R_append_rows_step k26 (Rr := Kd.K k26 u1) (w0 := wz) wz.heap.size (by rfl) (.tmp 30) (.tmp 33) 22 26 (.agg #[(.int .i64 0), (.int .i64 0), (.int .i64 0)]) 24 rfl Try.underlying22 info26 rfl (by decide) (by decide) (.slice (some ⟨B1, 0, none⟩) 0 0) [] t (some a3) t.length c3 (fun _ => True) (fun _ => False) rfl rfl hRz (Kd.C_below HTC.out hZ1) ?aK (fun _ h => h.elim) (fun _ _ => trivial) hZ1 hZ1.size ?aL ?_
          (case aK => (intro z cs h; rw [k26_open h]; exact k26_mkM _ _ _ _))
          (case aL => (simp; omega))
          intro v2 u2 hV2 hZ2 hG2 _
          rw [List.nil_append] at hV2
          have hS2 : u1.grownBy u2 (some B1) := hG2
          refine hK.out _ _ ⟨pw_cell_below hZ2 q0, pw_cell_below hZ2 q1, pw_cell_below hZ2 q2⟩ (fun hHeld => ?_)
          clear hK K
          refine norm_ (a' := ?_) ?_ ?_
          rotate_left
          ·show Act.put _ (some 34) _ = _
           simp only [Act.put, List.setIfInBounds_toArray, List.set_cons_zero, List.set_cons_succ, i64_w, i32_w]
           rfl
          refine one_ (i := 9) (N := some 39) #[true,true,true,true,true,true,true,true,true,true,false,true,true,true,false,false] rfl rfl (by kernel_rfl) (by decide) (fun K hK => ?_)
          refine box26_step x 38 (by rfl) rfl rfl rfl rfl ?_
          intro B3 u3 hb3 hl3 hX3 hS3
          have hZ3 : Below wz.heap.size wz u3 := below_step hZ2 hS3
          refine hK.out _ _ ⟨pw_cell_below hZ3 q0, pw_cell_below hZ3 q1, pw_cell_below hZ3 q2⟩ (fun hHeld => ?_)
          clear hK K
          refine norm_ (a' := ?_) ?_ ?_
          rotate_left
          ·show Act.put _ (some 39) _ = _
           simp only [Act.put, List.setIfInBounds_toArray, List.set_cons_zero, List.set_cons_succ, i64_w, i32_w]
           rfl
          exact norm_ (by simp only [putAll, Act.put, List.setIfInBounds_toArray, List.set_cons_zero, List.set_cons_succ]) (hCont (B1, v2, B3) _ ⟨hZ3, (Kd.R_below hV2 hS3), hX3⟩)
         ·skip
          refine box26_step x 38 (by rfl) rfl rfl rfl rfl ?_
          intro B2 u2 hb2 hl2 hX2 hS2
          have hZ2 : Below wz.heap.size wz u2 := below_step hZ1 hS2
          refine hK.out _ _ ⟨pw_cell_below hZ2 q0, pw_cell_below hZ2 q1, pw_cell_below hZ2 q2⟩ (fun hHeld => ?_)
          clear hK K
          refine norm_ (a' := ?_) ?_ ?_
          rotate_left
          ·show Act.put _ (some 39) _ = _
           simp only [Act.put, List.setIfInBounds_toArray, List.set_cons_zero, List.set_cons_succ, i64_w, i32_w]
           rfl
          refine one_ (i := 4) (N := some 34) #[true,true,true,true,true,true,true,true,true,true,false,true,true,true,false,false] rfl rfl (by kernel_rfl) (by decide) (fun K hK => ?_)
          have hRz : Kd.R k26 26 u2 wz.heap.size (fun _ => True) (.slice (some ⟨B1, 0, none⟩) 0 0) [] := Kd.R_lower (Kd.R_below hR1 hS2) (below_drew1 (Below.refl wz.heap.size wz)).size
          refine Kd.R_append_rows_step k26 (Rr := Kd.K k26 u2) (w0 := wz) wz.heap.size (by rfl) (.tmp 30) (.tmp 33) 22 26 (.agg #[(.int .i64 0), (.int .i64 0), (.int .i64 0)]) 24 rfl Try.underlying22 info26 rfl (by decide) (by decide) (.slice (some ⟨B1, 0, none⟩) 0 0) [] t (some a3) t.length c3 (fun _ => True) (fun _ => False) rfl rfl hRz (Kd.C_below HTC.out hZ2) ?aK (fun _ h => h.elim) (fun _ _ => trivial) hZ2 hZ2.size ?aL ?_
          (case aK => (intro z cs h; rw [k26_open h]; exact k26_mkM _ _ _ _))
          (case aL => (simp; omega))
          intro v3 u3 hV3 hZ3 hG3 _
          rw [List.nil_append] at hV3
          have hS3 : u2.grownBy u3 (some B1) := hG3
          refine hK.out _ _ ⟨pw_cell_below hZ3 q0, pw_cell_below hZ3 q1, pw_cell_below hZ3 q2⟩ (fun hHeld => ?_)
          clear hK K
          refine norm_ (a' := ?_) ?_ ?_
          rotate_left
          ·show Act.put _ (some 34) _ = _
           simp only [Act.put, List.setIfInBounds_toArray, List.set_cons_zero, List.set_cons_succ, i64_w, i32_w]
           rfl
          exact norm_ (by simp only [putAll, Act.put, List.setIfInBounds_toArray, List.set_cons_zero, List.set_cons_succ]) (hCont (B1, v3, B2) _ ⟨hZ3, hV3, ((hS3.block _ hl2 (by intro e; injection e with e; have := hl1; omega)).trans hX2)⟩)
        ·skip
         refine box26_step x 38 (by rfl) rfl rfl rfl rfl ?_
         intro B1 u1 hb1 hl1 hX1 hS1
         have hZ1 : Below wz.heap.size wz u1 := below_step (below_drew1 (Below.refl wz.heap.size wz)) hS1
         refine hK.out _ _ ⟨pw_cell_below hZ1 q0, pw_cell_below hZ1 q1, pw_cell_below hZ1 q2⟩ (fun hHeld => ?_)
         clear hK K
         refine norm_ (a' := ?_) ?_ ?_
         rotate_left
         ·show Act.put _ (some 39) _ = _
          simp only [Act.put, List.setIfInBounds_toArray, List.set_cons_zero, List.set_cons_succ, i64_w, i32_w]
          rfl
         refine one_ (i := 0) (N := some 30) #[true,true,true,true,false,true,true,true,true,true,false,true,true,true,false,false] rfl rfl (by kernel_rfl) (by decide) (fun K hK => ?_)
         refine box0_step (by rfl) rfl rfl rfl ?_
         intro B2 u2 hb2 hl2 hR2 hS2
         have hZ2 : Below wz.heap.size wz u2 := below_step hZ1 hS2
         refine hK.out _ _ ⟨pw_cell_below hZ2 q0, pw_cell_below hZ2 q1, pw_cell_below hZ2 q2⟩ (fun hHeld => ?_)
         clear hK K
         refine norm_ (a' := ?_) ?_ ?_
         rotate_left
         ·show Act.put _ (some 30) _ = _
          simp only [Act.put, List.setIfInBounds_toArray, List.set_cons_zero, List.set_cons_succ, i64_w, i32_w]
          rfl
         refine one_ (i := 4) (N := some 34) #[true,true,true,true,true,true,true,true,true,true,false,true,true,true,false,false] rfl rfl (by kernel_rfl) (by decide) (fun K hK => ?_)
         have hRz : Kd.R k26 26 u2 wz.heap.size (fun _ => True) (.slice (some ⟨B2, 0, none⟩) 0 0) [] := Kd.R_lower hR2 hZ1.size
         refine Kd.R_append_rows_step k26 (Rr := Kd.K k26 u2) (w0 := wz) wz.heap.size (by rfl) (.tmp 30) (.tmp 33) 22 26 (.agg #[(.int .i64 0), (.int .i64 0), (.int .i64 0)]) 24 rfl Try.underlying22 info26 rfl (by decide) (by decide) (.slice (some ⟨B2, 0, none⟩) 0 0) [] t (some a3) t.length c3 (fun _ => True) (fun _ => False) rfl rfl hRz (Kd.C_below HTC.out hZ2) ?aK (fun _ h => h.elim) (fun _ _ => trivial) hZ2 hZ2.size ?aL ?_
         (case aK => (intro z cs h; rw [k26_open h]; exact k26_mkM _ _ _ _))
         (case aL => (simp; omega))
         intro v3 u3 hV3 hZ3 hG3 _
         rw [List.nil_append] at hV3
         have hS3 : u2.grownBy u3 (some B2) := hG3
         refine hK.out _ _ ⟨pw_cell_below hZ3 q0, pw_cell_below hZ3 q1, pw_cell_below hZ3 q2⟩ (fun hHeld => ?_)
         clear hK K
         refine norm_ (a' := ?_) ?_ ?_
         rotate_left
         ·show Act.put _ (some 34) _ = _
          simp only [Act.put, List.setIfInBounds_toArray, List.set_cons_zero, List.set_cons_succ, i64_w, i32_w]
          rfl
         exact norm_ (by simp only [putAll, Act.put, List.setIfInBounds_toArray, List.set_cons_zero, List.set_cons_succ]) (hCont (B2, v3, B1) _ ⟨hZ3, hV3, ((hS3.block _ (Nat.lt_of_lt_of_le hl1 hS2.size) (by intro e; injection e with e; omega)).trans ((hS2.block _ hl1).trans hX1))⟩)
       rintro ⟨B0, v, Bx⟩ u hF
       have hHeld : True := trivial
       refine norm_ (a' := ?_) ?_ ?_
       rotate_left
       ·simp only [putAll, Act.put, List.setIfInBounds_toArray, List.set_cons_zero, List.set_cons_succ]
        rfl
       refine last_ (i := 10) (N := some 40) #[true,true,true,true,true,true,true,true,true,true,true,true,true,true,false,false] rfl rfl (by kernel_rfl) (by decide) (fun K hK => ?_)
       refine Kd.R_append_rows_step k26 (Rr := Kd.K k26 u) (w0 := wz) wz.heap.size (by rfl) (.tmp 34) (.tmp 39) 22 26 (.agg #[(.int .i64 0), (.int .i64 0), (.int .i64 0)]) 24 rfl Try.underlying22 info26 rfl (by decide) (by decide) v t [x] (some ⟨Bx, 0, none⟩) 1 1 (fun _ => True) (fun k => some k ≠ v.ownBlock) rfl rfl hF.own (box_reads hF.box) ?aK (fun _ h => ⟨trivial, h⟩) (fun _ _ => trivial) hF.bl hF.bl.size ?aL ?_
       (case aK => (intro z cs h; rw [k26_open h]; exact k26_mkM _ _ _ _))
       (case aL => omega)
       intro v9 u9 hV9 hZ9 hG9 _
       refine hK.out _ _ ?_
       clear hK K
       refine norm_ (a' := ?_) ?_ ?_
       rotate_left
       ·show Act.put _ (some 40) _ = _
        simp only [Act.put, List.setIfInBounds_toArray, List.set_cons_zero, List.set_cons_succ, i64_w, i32_w]
        rfl
       refine last_ (i := 14) (N := some 44) #[true,true,true,true,true,true,true,true,true,true,true,true,true,true,true,false] rfl rfl (by kernel_rfl) (by decide) (fun K hK => ?_)
       refine Kd.R_append_rows_step k26 (Rr := Kd.K k26 u9) (w0 := wz) wz.heap.size (by rfl) (.tmp 40) (.tmp 43) 22 26 (.agg #[(.int .i64 0), (.int .i64 0), (.int .i64 0)]) 24 rfl Try.underlying22 info26 rfl (by decide) (by decide) v9 (t ++ [x]) d A4 d.length c4 (fun _ => True) (fun _ => False) rfl rfl hV9 (Kd.C_below HDC.out hZ9) ?aK (fun _ h => h.elim) (fun _ _ => trivial) hZ9 hZ9.size ?aL ?_
       (case aK => (intro z cs h; rw [k26_open h]; exact k26_mkM _ _ _ _))
       (case aL => (simp; omega))
       intro v14 y14 hV14 hZ14 hG14 _
       refine hK.out _ _ ?_
       clear hK K
       refine norm_ (a' := ?_) ?_ ?_
       rotate_left
       ·show Act.put _ (some 44) _ = _
        simp only [Act.put, List.setIfInBounds_toArray, List.set_cons_zero, List.set_cons_succ, i64_w, i32_w]
        rfl
       refine pure_ (i := 15) (N := some 3) (v := ?_) (a' := ?_) #[true,true,true,true,true,true,true,true,true,true,true,true,true,true,true,true] rfl rfl (by kernel_rfl) (fun _ _ _ h => h) (Or.inl ⟨by rfl, ?_⟩) ?_ ?_
       rotate_left
       ·intro w'
        go_simp
        with_reducible rfl
       rotate_left
       ·simp only [Act.put, List.setIfInBounds_toArray, List.set_cons_zero, List.set_cons_succ, i64_w, i32_w]
        rfl
       refine done_ (by kernel_rfl) ?_
       have hV := Kd.R_lower hV14 HBz.out.size
       rw [HIN.out] at hV
       have HV := Lib.hid hV
       have HZ := Lib.hid (below_step HBz.out hZ14)
       clear hV hV14 hZ14 hG14 hV9 hZ9 hG9 hHeld hF
       go_wp2_with fail
       exact ⟨⟨i + 1, by omega, by go_num, HV.out, HZ.out⟩, by simp [intOf]; omega⟩
     ·have dk : decide ((k : Int) < (acc.length : Int)) = false := decide_eq_false (by omega)
      have dkn : decide (k < acc.length) = false := decide_eq_false hlk
      have hins := ins_sorted HACC.out hk HBF.out (fun hk2 => absurd hk2 hlk)
      have HINS := Lib.hid (hins.trans HNX.out.symm)
      clear hins
      go_wp2_with fail
      refine start_ (n := 16) (S := fun w' => True) (ds := []) #[false,false,false,false,false,false,false,false,false,false,false,false,false,false,false,false] (by kernel_rfl) rfl rfl trivial (fun hHeld => ?_)
      refine pure_ (i := 0) (N := some 12) (v := ?_) (a' := ?_) #[true,false,false,false,false,false,false,false,false,false,false,false,false,false,false,false] rfl rfl (by kernel_rfl) (fun _ _ _ h => h) (Or.inl ⟨by rfl, ?_⟩) ?_ ?_
      rotate_left
      ·intro w'
       go_simp
       with_reducible rfl
      rotate_left
      ·simp only [Act.put, List.setIfInBounds_toArray, List.set_cons_zero, List.set_cons_succ, i64_w, i32_w]
       rfl
      refine pure_ (i := 1) (N := some 13) (v := ?_) (a' := ?_) #[true,true,false,false,false,false,false,false,false,false,false,false,false,false,false,false] rfl rfl (by kernel_rfl) (fun _ _ _ h => h) (Or.inl ⟨by rfl, ?_⟩) ?_ ?_
      rotate_left
      ·intro w'
       go_simp
       with_reducible rfl
      rotate_left
      ·simp only [Act.put, List.setIfInBounds_toArray, List.set_cons_zero, List.set_cons_succ, i64_w, i32_w]
       rfl
      refine pure_ (i := 2) (N := some 14) (v := ?_) (a' := ?_) #[true,true,true,false,false,false,false,false,false,false,false,false,false,false,false,false] rfl rfl (by kernel_rfl) (fun _ _ _ h => h) (Or.inl ⟨by rfl, ?_⟩) ?_ ?_
      rotate_left
      ·intro w'
       go_simp
       with_reducible rfl
      rotate_left
      ·simp only [Act.put, List.setIfInBounds_toArray, List.set_cons_zero, List.set_cons_succ, i64_w, i32_w]
       rfl
      refine pure_ (i := 3) (N := some 15) (v := ?_) (a' := ?_) #[true,true,true,true,false,false,false,false,false,false,false,false,false,false,false,false] rfl rfl (by kernel_rfl) (fun _ _ _ h => h) (Or.inl ⟨by rfl, ?_⟩) ?_ ?_
      rotate_left
      ·intro w'
       go_simp
       with_reducible rfl
      rotate_left
      ·simp only [Act.put, List.setIfInBounds_toArray, List.set_cons_zero, List.set_cons_succ, i64_w, i32_w]
       rfl
      refine pure_ (i := 4) (N := some 16) (v := ?_) (a' := ?_) #[true,true,true,true,true,false,false,false,false,false,false,false,false,false,false,false] rfl rfl (by kernel_rfl) (fun _ _ _ h => h) (Or.inl ⟨by rfl, ?_⟩) ?_ ?_
      rotate_left
      ·intro w'
       go_simp
       with_reducible rfl
      rotate_left
      ·simp only [Act.put, List.setIfInBounds_toArray, List.set_cons_zero, List.set_cons_succ, i64_w, i32_w]
       rfl
      refine pure_ (i := 5) (N := some 17) (v := undef) (a' := ?_) #[true,true,true,true,true,true,false,false,false,false,false,false,false,false,false,false] rfl rfl (by kernel_rfl) (fun _ _ _ h => h) (Or.inr ⟨by rfl, rfl⟩) ?_ ?_
      rotate_left
      ·simp only [Act.put, List.setIfInBounds_toArray, List.set_cons_zero, List.set_cons_succ, i64_w, i32_w]
       rfl
      refine pure_ (i := 6) (N := some 18) (v := undef) (a' := ?_) #[true,true,true,true,true,true,true,false,false,false,false,false,false,false,false,false] rfl rfl (by kernel_rfl) (fun _ _ _ h => h) (Or.inr ⟨by rfl, rfl⟩) ?_ ?_
      rotate_left
      ·simp only [Act.put, List.setIfInBounds_toArray, List.set_cons_zero, List.set_cons_succ, i64_w, i32_w]
       rfl
      refine pure_ (i := 7) (N := some 19) (v := undef) (a' := ?_) #[true,true,true,true,true,true,true,true,false,false,false,false,false,false,false,false] rfl rfl (by kernel_rfl) (fun _ _ _ h => h) (Or.inr ⟨by rfl, rfl⟩) ?_ ?_
      rotate_left
      ·simp only [Act.put, List.setIfInBounds_toArray, List.set_cons_zero, List.set_cons_succ, i64_w, i32_w]
       rfl
      refine pure_ (i := 8) (N := some 20) (v := undef) (a' := ?_) #[true,true,true,true,true,true,true,true,true,false,false,false,false,false,false,false] rfl rfl (by kernel_rfl) (fun _ _ _ h => h) (Or.inr ⟨by rfl, rfl⟩) ?_ ?_
      rotate_left
      ·simp only [Act.put, List.setIfInBounds_toArray, List.set_cons_zero, List.set_cons_succ, i64_w, i32_w]
       rfl
      refine pure_ (i := 9) (N := some 21) (v := undef) (a' := ?_) #[true,true,true,true,true,true,true,true,true,true,false,false,false,false,false,false] rfl rfl (by kernel_rfl) (fun _ _ _ h => h) (Or.inr ⟨by rfl, rfl⟩) ?_ ?_
      rotate_left
      ·simp only [Act.put, List.setIfInBounds_toArray, List.set_cons_zero, List.set_cons_succ, i64_w, i32_w]
       rfl
      refine pure_ (i := 10) (N := some 22) (v := undef) (a' := ?_) #[true,true,true,true,true,true,true,true,true,true,true,false,false,false,false,false] rfl rfl (by kernel_rfl) (fun _ _ _ h => h) (Or.inr ⟨by rfl, rfl⟩) ?_ ?_
      rotate_left
      ·simp only [Act.put, List.setIfInBounds_toArray, List.set_cons_zero, List.set_cons_succ, i64_w, i32_w]
       rfl
      refine pure_ (i := 11) (N := some 23) (v := undef) (a' := ?_) #[true,true,true,true,true,true,true,true,true,true,true,true,false,false,false,false] rfl rfl (by kernel_rfl) (fun _ _ _ h => h) (Or.inr ⟨by rfl, rfl⟩) ?_ ?_
      rotate_left
      ·simp only [Act.put, List.setIfInBounds_toArray, List.set_cons_zero, List.set_cons_succ, i64_w, i32_w]
       rfl
      refine pure_ (i := 12) (N := some 24) (v := undef) (a' := ?_) #[true,true,true,true,true,true,true,true,true,true,true,true,true,false,false,false] rfl rfl (by kernel_rfl) (fun _ _ _ h => h) (Or.inr ⟨by rfl, rfl⟩) ?_ ?_
      rotate_left
      ·simp only [Act.put, List.setIfInBounds_toArray, List.set_cons_zero, List.set_cons_succ, i64_w, i32_w]
       rfl
      refine pure_ (i := 13) (N := some 25) (v := undef) (a' := ?_) #[true,true,true,true,true,true,true,true,true,true,true,true,true,true,false,false] rfl rfl (by kernel_rfl) (fun _ _ _ h => h) (Or.inr ⟨by rfl, rfl⟩) ?_ ?_
      rotate_left
      ·simp only [Act.put, List.setIfInBounds_toArray, List.set_cons_zero, List.set_cons_succ, i64_w, i32_w]
       rfl
      refine pure_ (i := 14) (N := some 26) (v := undef) (a' := ?_) #[true,true,true,true,true,true,true,true,true,true,true,true,true,true,true,false] rfl rfl (by kernel_rfl) (fun _ _ _ h => h) (Or.inr ⟨by rfl, rfl⟩) ?_ ?_
      rotate_left
      ·simp only [Act.put, List.setIfInBounds_toArray, List.set_cons_zero, List.set_cons_succ, i64_w, i32_w]
       rfl
      refine pure_ (i := 15) (N := some 27) (v := ?_) (a' := ?_) #[true,true,true,true,true,true,true,true,true,true,true,true,true,true,true,true] rfl rfl (by kernel_rfl) (fun _ _ _ h => h) (Or.inl ⟨by rfl, ?_⟩) ?_ ?_
      rotate_left
      ·intro w'
       go_simp
       with_reducible rfl
      rotate_left
      ·simp only [Act.put, List.setIfInBounds_toArray, List.set_cons_zero, List.set_cons_succ, i64_w, i32_w]
       rfl
      refine done_ (by kernel_rfl) ?_
      clear hHeld
      go_wp2_with fail
      have HBz := Lib.hid (below_drew1 HB.out)
      have HOz := Lib.hid (Kd.R_drew HO.out)
      clear HB HO q0 q1 q2
      generalize wr.drew = wz at HBz HOz ⊢
      obtain ⟨_, hc3z, hC3⟩ := Kd.R_reads' HOz.out
      have hT := Kd.C_take (m := k) hC3 hk
      obtain ⟨i26, hi26, _, hsz26, _⟩ := info_parts info26
      have hcutA := cut_to (P := Try.prog) 22 26 .i64 Try.underlying22 hi26 A3 acc.length c3 (k : Int) (by omega) (by omega) hc3z
      have hcutB := cut_from (P := Try.prog) 22 26 .i64 Try.underlying22 hi26 3 hsz26 A3 acc.length c3 (k : Int) (by omega) (by omega)
      have hDr := Kd.C_drop (m := k) (c := c3) hC3 hk hc3z
      obtain ⟨A4, hA4⟩ : ∃ A4, A4 = (if c3 = k then A3 else A3.map (·.add (k * k26.sz))) := ⟨_, rfl⟩
      obtain ⟨c4, hc4⟩ : ∃ c4, c4 = c3 - k := ⟨_, rfl⟩
      obtain ⟨t, ht⟩ : ∃ t, t = acc.take k := ⟨_, rfl⟩
      obtain ⟨d, hd⟩ : ∃ d, d = acc.drop k := ⟨_, rfl⟩
      have htl : t.length = k := by rw [ht, List.length_take]; omega
      have hdl : d.length = acc.length - k := by rw [hd, List.length_drop]
      rw [← hA4, ← hd] at hDr
      rw [← ht] at hT
      rw [Int.toNat_natCast] at hcutA hcutB
      rw [show (if c3 = k then A3 else A3.map (·.add (k * 3))) = A4 from hA4.symm, ← hdl, ← hc4] at hcutB
      have hcA : ∀ W, (Instr.slice 22 (.slice A3 acc.length c3) none (some (.int .i64 (k : Int))) none).run Try.prog W = .ok (.slice A3 t.length c3) W := fun W => by rw [htl]; exact hcutA W
      have htle : t.length ≤ 1000000000000 := by omega
      have hdle : d.length ≤ 1000000000000 := by omega
      have HTC := Lib.hid hT
      have HDC := Lib.hid hDr
      have hin := HINS.out
      rw [← ht, ← hd] at hin
      have HIN := Lib.hid hin
      have q0 := (HBz.out.cell (World.block_lt_of_cell? w _ HQ0.out)).trans HQ0.out
      have q1 := (HBz.out.cell (World.block_lt_of_cell? w _ HQ1.out)).trans HQ1.out
      have q2 := (HBz.out.cell (World.block_lt_of_cell? w _ HQ2.out)).trans HQ2.out
      have dj1 : ((i : Int) < (l0.length : Int)) = True := eq_true (by omega)
      have dj0 : (0 ≤ (i : Int)) = True := eq_true (by omega)
      have HTL := Lib.hid htl
      have HDL := Lib.hid hdl
      clear hT hDr hA4 hc4 ht hd hC3 hin hi26 hsz26 HINS htl hdl hcutA
      go_wp2_with fail
      refine start_ (n := 16) (S := fun w' => w'.cell? (ad.add (i * 3)) = some (.int .i64 x.f0) ∧ w'.cell? ⟨(ad.add (i * 3)).block, (ad.add (i * 3)).off + 1, none⟩ = some (.int .i64 x.f1) ∧ w'.cell? ⟨(ad.add (i * 3)).block, (ad.add (i * 3)).off + 2, none⟩ = some (.int .i64 x.f2)) (ds := [10, 14]) #[false,false,false,false,false,false,false,false,false,false,false,false,false,false,false,false] (by kernel_rfl) rfl rfl ⟨q0, q1, q2⟩ (fun hHeld => ?_)
      refine pure_ (i := 1) (N := some 31) (v := ?_) (a' := ?_) #[false,true,false,false,false,false,false,false,false,false,false,false,false,false,false,false] rfl rfl (by kernel_rfl) (fun _ _ _ h => h) (Or.inl ⟨by rfl, ?_⟩) ?_ ?_
      rotate_left
      ·intro w'
       go_simp
       with_reducible rfl
      rotate_left
      ·simp only [Act.put, List.setIfInBounds_toArray, List.set_cons_zero, List.set_cons_succ, i64_w, i32_w]
       rfl
      refine pure_ (i := 2) (N := some 32) (v := ?_) (a' := ?_) #[false,true,true,false,false,false,false,false,false,false,false,false,false,false,false,false] rfl rfl (by kernel_rfl) (fun _ _ _ h => h) (Or.inl ⟨by rfl, ?_⟩) ?_ ?_
      rotate_left
      ·intro w'
       go_simp
       with_reducible rfl
      rotate_left
      ·simp only [Act.put, List.setIfInBounds_toArray, List.set_cons_zero, List.set_cons_succ, i64_w, i32_w]
       rfl
      refine pure_ (i := 3) (N := some 33) (v := ?_) (a' := ?_) #[false,true,true,true,false,false,false,false,false,false,false,false,false,false,false,false] rfl rfl (by kernel_rfl) (fun _ _ _ h => h) (Or.inl ⟨by rfl, ?_⟩) ?_ ?_
      rotate_left
      ·intro w'
       go_simp
       with_reducible rfl
      rotate_left
      ·simp only [Act.put, List.setIfInBounds_toArray, List.set_cons_zero, List.set_cons_succ, i64_w, i32_w]
       rfl
      refine pure_ (i := 5) (N := some 35) (v := ?_) (a' := ?_) #[false,true,true,true,false,true,false,false,false,false,false,false,false,false,false,false] rfl rfl (by kernel_rfl) (fun _ _ _ h => h) (Or.inl ⟨by rfl, ?_⟩) ?_ ?_
      rotate_left
      ·intro w'
       go_simp
       with_reducible rfl
      rotate_left
      ·simp only [Act.put, List.setIfInBounds_toArray, List.set_cons_zero, List.set_cons_succ, i64_w, i32_w]
       rfl
      refine pure_ (i := 6) (N := some 36) (v := ?_) (a' := ?_) #[false,true,true,true,false,true,true,false,false,false,false,false,false,false,false,false] rfl rfl (by kernel_rfl) (fun _ _ _ h => h) (Or.inl ⟨by rfl, ?_⟩) ?_ ?_
      rotate_left
      ·intro w'
       go_simp
       with_reducible rfl
      rotate_left
      ·simp only [Act.put, List.setIfInBounds_toArray, List.set_cons_zero, List.set_cons_succ, i64_w, i32_w]
       rfl
      refine pure_ (i := 7) (N := some 37) (v := ?_) (a' := ?_) #[false,true,true,true,false,true,true,true,false,false,false,false,false,false,false,false] rfl rfl (by kernel_rfl) (fun _ _ _ h => h) (Or.inl ⟨by rfl, ?_⟩) ?_ ?_
      rotate_left
      ·intro w'
       go_simp
       with_reducible rfl
      rotate_left
      ·simp only [Act.put, List.setIfInBounds_toArray, List.set_cons_zero, List.set_cons_succ, i64_w, i32_w]
       rfl
      refine pure_ (i := 11) (N := some 41) (v := ?_) (a' := ?_) #[false,true,true,true,false,true,true,true,false,false,false,true,false,false,false,false] rfl rfl (by kernel_rfl) (fun _ _ _ h => h) (Or.inl ⟨by rfl, ?_⟩) ?_ ?_
      rotate_left
      ·intro w'
       go_simp
       with_reducible rfl
      rotate_left
      ·simp only [Act.put, List.setIfInBounds_toArray, List.set_cons_zero, List.set_cons_succ, i64_w, i32_w]
       rfl
      refine pure_ (i := 12) (N := some 42) (v := ?_) (a' := ?_) #[false,true,true,true,false,true,true,true,false,false,false,true,true,false,false,false] rfl rfl (by kernel_rfl) (fun _ _ _ h => h) (Or.inl ⟨by rfl, ?_⟩) ?_ ?_
      rotate_left
      ·intro w'
       go_simp
       with_reducible rfl
      rotate_left
      ·simp only [Act.put, List.setIfInBounds_toArray, List.set_cons_zero, List.set_cons_succ, i64_w, i32_w]
       rfl
      refine pure_ (i := 13) (N := some 43) (v := ?_) (a' := ?_) #[false,true,true,true,false,true,true,true,false,false,false,true,true,true,false,false] rfl rfl (by kernel_rfl) (fun _ _ _ h => h) (Or.inl ⟨by rfl, ?_⟩) ?_ ?_
      rotate_left
      ·intro w'
       go_simp
       with_reducible rfl
      rotate_left
      ·simp only [Act.put, List.setIfInBounds_toArray, List.set_cons_zero, List.set_cons_succ, i64_w, i32_w]
       rfl
      refine take_ (i := 8) (N := some 38) (v := ?_) (a' := ?_) #[false,true,true,true,false,true,true,true,true,false,false,true,true,true,false,false] rfl rfl (by kernel_rfl) (fun _ _ _ h => h) (Or.inl ⟨by rfl, ?_⟩) hHeld ?_ ?_
      rotate_left
      ·rintro w' ⟨s0, s1, s2⟩
       go_simp
       with_reducible rfl
      rotate_left
      ·simp only [Act.put, List.setIfInBounds_toArray, List.set_cons_zero, List.set_cons_succ, i64_w, i32_w]
       rfl
      refine join_ (σ := Nat × Value × Nat) 3 #[true,true,true,true,true,true,true,true,true,true,false,true,true,true,false,false] (fun s => [(30, .slice (some ⟨s.1, 0, none⟩) 0 0), (34, s.2.1), (39, .slice (some ⟨s.2.2, 0, none⟩) 1 1)]) (fun s w' => FF wz w' t #[.int .i64 x.f0, .int .i64 x.f1, .int .i64 x.f2] s.2.1 s.2.2) ?_ ?_
      rotate_left
      ·intro hCont
       refine two_ (i := 0) (j := 9) (Ni := some 30) (Nj := some 39) #[true,true,true,true,false,true,true,true,true,false,false,true,true,true,false,false] #[false,true,true,true,false,true,true,true,true,true,false,true,true,true,false,false] rfl rfl rfl rfl (by kernel_rfl) (by decide) (by decide) (fun K hK => ?_) (fun K hK => ?_)
       ·skip
        refine box0_step (by rfl) rfl rfl rfl ?_
        intro B1 u1 hb1 hl1 hR1 hS1
        have hZ1 : Below wz.heap.size wz u1 := below_step (below_drew1 (Below.refl wz.heap.size wz)) hS1
        refine hK.out _ _ ⟨pw_cell_below hZ1 q0, pw_cell_below hZ1 q1, pw_cell_below hZ1 q2⟩ (fun hHeld => ?_)
        clear hK K
        refine norm_ (a' := ?_) ?_ ?_
        rotate_left
        ·show Act.put _ (some 30) _ = _
         simp only [Act.put, List.setIfInBounds_toArray, List.set_cons_zero, List.set_cons_succ, i64_w, i32_w]
         rfl
        refine two_ (i := 4) (j := 9) (Ni := some 34) (Nj := some 39) #[true,true,true,true,true,true,true,true,true,false,false,true,true,true,false,false] #[true,true,true,true,false,true,true,true,true,true,false,true,true,true,false,false] rfl rfl rfl rfl (by kernel_rfl) (by decide) (by decide) (fun K hK => ?_) (fun K hK => ?_)
        ·skip
         have hRz : Kd.R k26 26 u1 wz.heap.size (fun _ => True) (.slice (some ⟨B1, 0, none⟩) 0 0) [] := Kd.R_lower hR1 (below_drew1 (Below.refl wz.heap.size wz)).size
         refine Kd.R_append_rows_step k26 (Rr := Kd.K k26 u1) (w0 := wz) wz.heap.size (by rfl) (.tmp 30) (.tmp 33) 22 26 (.agg #[(.int .i64 0), (.int .i64 0), (.int .i64 0)]) 24 rfl Try.underlying22 info26 rfl (by decide) (by decide) (.slice (some ⟨B1, 0, none⟩) 0 0) [] t A3 t.length c3 (fun _ => True) (fun _ => False) rfl rfl hRz (Kd.C_below HTC.out hZ1) ?aK (fun _ h => h.elim) (fun _ _ => trivial) hZ1 hZ1.size ?aL ?_
         (case aK => (intro z cs h; rw [k26_open h]; exact k26_mkM _ _ _ _))
         (case aL => (simp; omega))
         intro v2 u2 hV2 hZ2 hG2 _
         rw [List.nil_append] at hV2
         have hS2 : u1.grownBy u2 (some B1) := hG2
         refine hK.out _ _ ⟨pw_cell_below hZ2 q0, pw_cell_below hZ2 q1, pw_cell_below hZ2 q2⟩ (fun hHeld => ?_)
         clear hK K
         refine norm_ (a' := ?_) ?_ ?_
         rotate_left
         ·show Act.put _ (some 34) _ = _
          simp only [Act.put, List.setIfInBounds_toArray, List.set_cons_zero, List.set_cons_succ, i64_w, i32_w]
          rfl
         refine one_ (i := 9) (N := some 39) #[true,true,true,true,true,true,true,true,true,true,false,true,true,true,false,false] rfl rfl (by kernel_rfl) (by decide) (fun K hK => ?_)
         refine box26_step x 38 (by rfl) rfl rfl rfl rfl ?_
         intro B3 u3 hb3 hl3 hX3 hS3
         have hZ3 : Below wz.heap.size wz u3 := below_step hZ2 hS3
         refine hK.out _ _ ⟨pw_cell_below hZ3 q0, pw_cell_below hZ3 q1, pw_cell_below hZ3 q2⟩ (fun hHeld => ?_)
         clear hK K
         refine norm_ (a' := ?_) ?_ ?_
         rotate_left
         ·show Act.put _ (some 39) _ = _
          simp only [Act.put, List.setIfInBounds_toArray, List.set_cons_zero, List.set_cons_succ, i64_w, i32_w]
          rfl
         exact norm_ (by simp only [putAll, Act.put, List.setIfInBounds_toArray, List.set_cons_zero, List.set_cons_succ]) (hCont (B1, v2, B3) _ ⟨hZ3, (Kd.R_below hV2 hS3), hX3⟩)
        ·skip
         refine box26_step x 38 (by rfl) rfl rfl rfl rfl ?_
         intro B2 u2 hb2 hl2 hX2 hS2
         have hZ2 : Below wz.heap.size wz u2 := below_step hZ1 hS2
         refine hK.out _ _ ⟨pw_cell_below hZ2 q0, pw_cell_below hZ2 q1, pw_cell_below hZ2 q2⟩ (fun hHeld => ?_)
         clear hK K
         refine norm_ (a' := ?_) ?_ ?_
         rotate_left
         ·show Act.put _ (some 39) _ = _
          simp only [Act.put, List.setIfInBounds_toArray, List.set_cons_zero, List.set_cons_succ, i64_w, i32_w]
          rfl
         refine one_ (i := 4) (N := some 34) #[true,true,true,true,true,true,true,true,true,true,false,true,true,true,false,false] rfl rfl (by kernel_rfl) (by decide) (fun K hK => ?_)
         have hRz : Kd.R k26 26 u2 wz.heap.size (fun _ => True) (.slice (some ⟨B1, 0, none⟩) 0 0) [] := Kd.R_lower (Kd.R_below hR1 hS2) (below_drew1 (Below.refl wz.heap.size wz)).size
         refine Kd.R_append_rows_step k26 (Rr := Kd.K k26 u2) (w0 := wz) wz.heap.size (by rfl) (.tmp 30) (.tmp 33) 22 26 (.agg #[(.int .i64 0), (.int .i64 0), (.int .i64 0)]) 24 rfl Try.underlying22 info26 rfl (by decide) (by decide) (.slice (some ⟨B1, 0, none⟩) 0 0) [] t A3 t.length c3 (fun _ => True) (fun _ => False) rfl rfl hRz (Kd.C_below HTC.out hZ2) ?aK (fun _ h => h.elim) (fun _ _ => trivial) hZ2 hZ2.size ?aL ?_
         (case aK => (intro z cs h; rw [k26_open h]; exact k26_mkM _ _ _ _))
         (case aL => (simp; omega))
         intro v3 u3 hV3 hZ3 hG3 _
         rw [List.nil_append] at hV3
         have hS3 : u2.grownBy u3 (some B1) := hG3
         refine hK.out _ _ ⟨pw_cell_below hZ3 q0, pw_cell_below hZ3 q1, pw_cell_below hZ3 q2⟩ (fun hHeld => ?_)
         clear hK K
         refine norm_ (a' := ?_) ?_ ?_
         rotate_left
         ·show Act.put _ (some 34) _ = _
          simp only [Act.put, List.setIfInBounds_toArray, List.set_cons_zero, List.set_cons_succ, i64_w, i32_w]
          rfl
         exact norm_ (by simp only [putAll, Act.put, List.setIfInBounds_toArray, List.set_cons_zero, List.set_cons_succ]) (hCont (B1, v3, B2) _ ⟨hZ3, hV3, ((hS3.block _ hl2 (by intro e; injection e with e; have := hl1; omega)).trans hX2)⟩)
       ·skip
        refine box26_step x 38 (by rfl) rfl rfl rfl rfl ?_
        intro B1 u1 hb1 hl1 hX1 hS1
        have hZ1 : Below wz.heap.size wz u1 := below_step (below_drew1 (Below.refl wz.heap.size wz)) hS1
        refine hK.out _ _ ⟨pw_cell_below hZ1 q0, pw_cell_below hZ1 q1, pw_cell_below hZ1 q2⟩ (fun hHeld => ?_)
        clear hK K
        refine norm_ (a' := ?_) ?_ ?_
        rotate_left
        ·show Act.put _ (some 39) _ = _
         simp only [Act.put, List.setIfInBounds_toArray, List.set_cons_zero, List.set_cons_succ, i64_w, i32_w]
         rfl
        refine one_ (i := 0) (N := some 30) #[true,true,true,true,false,true,true,true,true,true,false,true,true,true,false,false] rfl rfl (by kernel_rfl) (by decide) (fun K hK => ?_)
        refine box0_step (by rfl) rfl rfl rfl ?_
        intro B2 u2 hb2 hl2 hR2 hS2
        have hZ2 : Below wz.heap.size wz u2 := below_step hZ1 hS2
        refine hK.out _ _ ⟨pw_cell_below hZ2 q0, pw_cell_below hZ2 q1, pw_cell_below hZ2 q2⟩ (fun hHeld => ?_)
        clear hK K
        refine norm_ (a' := ?_) ?_ ?_
        rotate_left
        ·show Act.put _ (some 30) _ = _
         simp only [Act.put, List.setIfInBounds_toArray, List.set_cons_zero, List.set_cons_succ, i64_w, i32_w]
         rfl
        refine one_ (i := 4) (N := some 34) #[true,true,true,true,true,true,true,true,true,true,false,true,true,true,false,false] rfl rfl (by kernel_rfl) (by decide) (fun K hK => ?_)
        have hRz : Kd.R k26 26 u2 wz.heap.size (fun _ => True) (.slice (some ⟨B2, 0, none⟩) 0 0) [] := Kd.R_lower hR2 hZ1.size
        refine Kd.R_append_rows_step k26 (Rr := Kd.K k26 u2) (w0 := wz) wz.heap.size (by rfl) (.tmp 30) (.tmp 33) 22 26 (.agg #[(.int .i64 0), (.int .i64 0), (.int .i64 0)]) 24 rfl Try.underlying22 info26 rfl (by decide) (by decide) (.slice (some ⟨B2, 0, none⟩) 0 0) [] t A3 t.length c3 (fun _ => True) (fun _ => False) rfl rfl hRz (Kd.C_below HTC.out hZ2) ?aK (fun _ h => h.elim) (fun _ _ => trivial) hZ2 hZ2.size ?aL ?_
        (case aK => (intro z cs h; rw [k26_open h]; exact k26_mkM _ _ _ _))
        (case aL => (simp; omega))
        intro v3 u3 hV3 hZ3 hG3 _
        rw [List.nil_append] at hV3
        have hS3 : u2.grownBy u3 (some B2) := hG3
        refine hK.out _ _ ⟨pw_cell_below hZ3 q0, pw_cell_below hZ3 q1, pw_cell_below hZ3 q2⟩ (fun hHeld => ?_)
        clear hK K
        refine norm_ (a' := ?_) ?_ ?_
        rotate_left
        ·show Act.put _ (some 34) _ = _
         simp only [Act.put, List.setIfInBounds_toArray, List.set_cons_zero, List.set_cons_succ, i64_w, i32_w]
         rfl
        exact norm_ (by simp only [putAll, Act.put, List.setIfInBounds_toArray, List.set_cons_zero, List.set_cons_succ]) (hCont (B2, v3, B1) _ ⟨hZ3, hV3, ((hS3.block _ (Nat.lt_of_lt_of_le hl1 hS2.size) (by intro e; injection e with e; omega)).trans ((hS2.block _ hl1).trans hX1))⟩)
      rintro ⟨B0, v, Bx⟩ u hF
      have hHeld : True := trivial
      refine norm_ (a' := ?_) ?_ ?_
      rotate_left
      ·simp only [putAll, Act.put, List.setIfInBounds_toArray, List.set_cons_zero, List.set_cons_succ]
       rfl
      refine last_ (i := 10) (N := some 40) #[true,true,true,true,true,true,true,true,true,true,true,true,true,true,false,false] rfl rfl (by kernel_rfl) (by decide) (fun K hK => ?_)
      refine Kd.R_append_rows_step k26 (Rr := Kd.K k26 u) (w0 := wz) wz.heap.size (by rfl) (.tmp 34) (.tmp 39) 22 26 (.agg #[(.int .i64 0), (.int .i64 0), (.int .i64 0)]) 24 rfl Try.underlying22 info26 rfl (by decide) (by decide) v t [x] (some ⟨Bx, 0, none⟩) 1 1 (fun _ => True) (fun k => some k ≠ v.ownBlock) rfl rfl hF.own (box_reads hF.box) ?aK (fun _ h => ⟨trivial, h⟩) (fun _ _ => trivial) hF.bl hF.bl.size ?aL ?_
      (case aK => (intro z cs h; rw [k26_open h]; exact k26_mkM _ _ _ _))
      (case aL => omega)
      intro v9 u9 hV9 hZ9 hG9 _
      refine hK.out _ _ ?_
      clear hK K
      refine norm_ (a' := ?_) ?_ ?_
      rotate_left
      ·show Act.put _ (some 40) _ = _
       simp only [Act.put, List.setIfInBounds_toArray, List.set_cons_zero, List.set_cons_succ, i64_w, i32_w]
       rfl
      refine last_ (i := 14) (N := some 44) #[true,true,true,true,true,true,true,true,true,true,true,true,true,true,true,false] rfl rfl (by kernel_rfl) (by decide) (fun K hK => ?_)
      refine Kd.R_append_rows_step k26 (Rr := Kd.K k26 u9) (w0 := wz) wz.heap.size (by rfl) (.tmp 40) (.tmp 43) 22 26 (.agg #[(.int .i64 0), (.int .i64 0), (.int .i64 0)]) 24 rfl Try.underlying22 info26 rfl (by decide) (by decide) v9 (t ++ [x]) d A4 d.length c4 (fun _ => True) (fun _ => False) rfl rfl hV9 (Kd.C_below HDC.out hZ9) ?aK (fun _ h => h.elim) (fun _ _ => trivial) hZ9 hZ9.size ?aL ?_
      (case aK => (intro z cs h; rw [k26_open h]; exact k26_mkM _ _ _ _))
      (case aL => (simp; omega))
      intro v14 y14 hV14 hZ14 hG14 _
      refine hK.out _ _ ?_
      clear hK K
      refine norm_ (a' := ?_) ?_ ?_
      rotate_left
      ·show Act.put _ (some 44) _ = _
       simp only [Act.put, List.setIfInBounds_toArray, List.set_cons_zero, List.set_cons_succ, i64_w, i32_w]
       rfl
      refine pure_ (i := 15) (N := some 3) (v := ?_) (a' := ?_) #[true,true,true,true,true,true,true,true,true,true,true,true,true,true,true,true] rfl rfl (by kernel_rfl) (fun _ _ _ h => h) (Or.inl ⟨by rfl, ?_⟩) ?_ ?_
      rotate_left
      ·intro w'
       go_simp
       with_reducible rfl
      rotate_left
      ·simp only [Act.put, List.setIfInBounds_toArray, List.set_cons_zero, List.set_cons_succ, i64_w, i32_w]
       rfl
      refine done_ (by kernel_rfl) ?_
      have hV := Kd.R_lower hV14 HBz.out.size
      rw [HIN.out] at hV
      have HV := Lib.hid hV
      have HZ := Lib.hid (below_step HBz.out hZ14)
      clear hV hV14 hZ14 hG14 hV9 hZ9 hG9 hHeld hF
      go_wp2_with fail
      exact ⟨⟨i + 1, by omega, by go_num, HV.out, HZ.out⟩, by simp [intOf]; omega⟩
   ·have di : decide ((i : Int) < (l0.length : Int)) = false := decide_eq_false (by omega)
    obtain rfl : i = l0.length := by omega
    have hac := HACC.out
    rw [List.take_length] at hac
    have HO2 := Lib.hid (hac ▸ HO.out)
    clear hac HO HACC
    go_wp2
    go_ret
    exact ⟨_, rfl, HO2.out, HB.out⟩
 ·cases h
end Go.Proofs.Ythmenclkgngkkaa.M
