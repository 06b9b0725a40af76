/- The walk of ClashTurns. -/
import Derived.Test.YtgdpdigpbbjhpaaCm
set_option linter.unusedSimpArgs false
set_option linter.unusedVariables false
namespace Go.Proofs.Ytgdpdigpbbjhpaa.C
open Go.RowKit Go.Sort Go.Proofs.Ytgdpdigpbbjhpaa.PA Go.Proofs.Ytgdpdigpbbjhpaa.PB Go.Proofs.YtgdpdigpbbjhpaaW.PrintWords Go.Proofs.YtgdpdigpbbjhpaaW.PrintMore Go.Proofs.YtgdpdigpbbjhpaaW.PrintLast
theorem act_own {W : World} {base g n cap : Nat} {ok : Nat → Prop} {xs : List S39} (h : Kd.R k39 39 W base ok (.slice (some ⟨g, 0, none⟩) n cap) xs) {i : Nat} (hi : i < xs.length) :
  W.cell? ⟨g, i * 6, none⟩ = some (.int .u8 xs[i].f0) ∧ W.cell? ⟨g, i * 6 + 1, none⟩ = some (.string xs[i].f1) ∧ W.cell? ⟨g, i * 6 + 2, none⟩ = some (.int .u8 xs[i].f2) ∧ W.cell? ⟨g, i * 6 + 3, none⟩ = some (.bool xs[i].f3) ∧ W.cell? ⟨g, i * 6 + 4, none⟩ = some (.int .i64 xs[i].f4) ∧ W.cell? ⟨g, i * 6 + 5, none⟩ = some (.int .i64 xs[i].f5) := by
 obtain ⟨_, _, hC⟩ := Kd.R_reads' h
 obtain ⟨ad, e, h0, h1, h2, h3, h4, h5⟩ := act_at hC hi
 injection e with e
 subst e
 rw [add_plain] at h0 h1 h2 h3 h4 h5
 exact ⟨h0, h1, h2, h3, h4, h5⟩
theorem put39 {W : World} {base g n cap : Nat} {ok : Nat → Prop} {xs : List S39} (h : Kd.R k39 39 W base ok (.slice (some ⟨g, 0, none⟩) n cap) xs) (i : Nat) (hi : i < xs.length) (x : S39) :
  ∃ w1, (Instr.storeAt 39 (.pointer (some ⟨g, i * 6, none⟩)) (.agg #[.int .u8 x.f0, .string x.f1, .int .u8 x.f2, .bool x.f3, .int .i64 x.f4, .int .i64 x.f5])).run Try.prog W = .ok () w1 ∧
   Kd.R k39 39 w1 base ok (.slice (some ⟨g, 0, none⟩) n cap) (xs.set i x) ∧ W.grownBy w1 (some g) := by
 have hn : n = xs.length := (Kd.R_reads' h).1
 obtain ⟨c0, c1, c2, c3, c4, c5⟩ := act_own h hi
 have hcc : ∀ (j : Nat) (u : Value), ([.int .u8 xs[i].f0, .string xs[i].f1, .int .u8 xs[i].f2, .bool xs[i].f3, .int .i64 xs[i].f4, .int .i64 xs[i].f5] : List Value)[j]? = some u → W.cell? ⟨g, (i : Int).toNat * k39.sz + j, none⟩ = some u := by
  intro j u hu
  rw [Int.toNat_natCast, show k39.sz = 6 from rfl]
  rcases j with _ | _ | _ | _ | _ | _ | j
  ·simp at hu; rw [← hu]; exact c0
  ·simp at hu; rw [← hu]; exact c1
  ·simp at hu; rw [← hu]; exact c2
  ·simp at hu; rw [← hu]; exact c3
  ·simp at hu; rw [← hu]; exact c4
  ·simp at hu; rw [← hu]; exact c5
  ·simp at hu
 obtain ⟨hrow, hg⟩ := Kd.R_seg (j := 0) (seg := [.int .u8 x.f0, .string x.f1, .int .u8 x.f2, .bool x.f3, .int .i64 x.f4, .int .i64 x.f5]) (x' := x) (okp := fun _ => False) h (i : Int) (by omega) (by omega) (c := [.int .u8 xs[i].f0, .string xs[i].f1, .int .u8 xs[i].f2, .bool xs[i].f3, .int .i64 xs[i].f4, .int .i64 xs[i].f5]) rfl hcc (Nat.le_refl _) (k39_mkM _ _ _ x) (fun k hk => hk.elim)
 rw [Int.toNat_natCast, show k39.sz = 6 from rfl, Nat.add_zero] at hrow hg
 refine ⟨_, ?_, hrow, hg⟩
 obtain ⟨_, inner, hown, hr⟩ := h
 rcases hown.2 with ⟨hv, _⟩ | ⟨g', cap', cur, hv, hb, hh, hnc, hcm, hcs, _⟩
 ·cases hv
 injection hv with ha _ hc
 injection ha with ha
 injection ha with hg'
 subst hg'; subst hc
 refine run_store_run 39 _ _ hh rfl (by kernel_rfl) ?_ (by intro q hq; simp at hq; rcases hq with rfl | rfl | rfl | rfl | rfl | rfl <;> rfl)
 have : cur.size = cap * 6 := hcs
 show i * 6 + 6 ≤ _
 omega
theorem put_step {ops : Array Oper} {Q : Exit → Act → World → Prop} {oi : Oper} {a : Act} {w w1 : World} {K : Act → World → Prop} (t : TypeId) (p x : Operand) (vp vx : Value) (hw : Region.wanted oi (yielded ops a.tmps) = true) (hN : oi.dst = none) (hop : oi.op = .store t p x) (hp : a.eval p = vp) (hx : a.eval x = vx)
  (hrun : (Instr.storeAt t vp vx).run Try.prog w = .ok () w1) (h : K a w1) : if Region.wanted oi (yielded ops a.tmps) = true then Oper.wp Try.prog oi a w K Q else K (a.put none undef) w := by
 refine skip_ (w1 := w1) hw hN ?_ h
 unfold execOp
 simp only [hop, hp, hx, Sem.run_bind, Sem.run_pure, Result.andThen_ok, hrun]
theorem rgn_perm {x y : List S39} (h : y.Perm x) : (rgn [] y).2 = (rgn [] x).2 := by
 have hp : Pw y ↔ Pw x := List.Perm.pairwise_iff (R := fun b a => ¬ Cf b a) (fun {p q} h1 h2 => h1 h2.symm) h
 rcases rgn_two x [] with h1 | h1
 ·rw [h1, (pw_iff y).2 (hp.2 ((pw_iff x).1 h1))]
 ·rcases rgn_two y [] with h2 | h2
  ·have := (pw_iff x).2 (hp.1 ((pw_iff y).1 h2))
   rw [this] at h1
   exact absurd h1 (by decide)
  ·rw [h1, h2]
theorem reg_n (A : Option Addr) (c n : Nat) (l : List S39) (r1 r2 : Int) (w : World) (hn : n = l.length) (hr : Kd.C k39 w A l.length l) (hc : l.length ≤ c) (hs : ∀ a ∈ l, a.f1.size ≤ maxLen) (h : rgn [] l = (r1, r2)) :
  Calls Try.prog 8 #[.slice A n c] w fun e w' => e = .returned (.tuple #[.int .i64 r1, .int .i64 r2]) ∧ Below w.heap.size w w' := by
 subst hn
 exact reg_ok A c l r1 r2 w hr hc hs h
set_option maxRecDepth 100000 in
set_option maxHeartbeats 8000000 in
theorem turns_w (w : World) (A : Option Addr) (c : Nat) (l : List S39) (hc : l.length ≤ c) (hr : Kd.C k39 w A l.length l) (hs : ∀ a ∈ l, a.f1.size ≤ maxLen) (x0 x1 : Int) (hx0 : 0 ≤ x0) (hx1 : 0 ≤ x1) (hy0 : x0 ≤ 255) (hy1 : x1 ≤ 255) :
  Calls Try.prog 4 #[.slice A l.length c, .agg #[.int .u8 x0, .int .u8 x1]] w fun e w' => e = .returned (.bool true) ∧ Below w.heap.size w w' := by
 have hlt := List.length_take_le 14 l
 have hlc : (l.take 14).length ≤ c := by rw [List.length_take]; omega
 have hr' := C_take 14 hr
 have hs' : ∀ a ∈ l.take 14, a.f1.size ≤ maxLen := fun a ha => hs a (List.mem_of_mem_take ha)
 have hF := fun w => few_ok A c l w hc
 obtain ⟨x, hx⟩ : ∃ x, x = l.take 14 := ⟨_, rfl⟩
 rw [← hx] at hlt hlc hr' hs' hF
 have HR := Lib.hid hr'
 have HS := Lib.hid hs'
 clear hr hs hr' hs' hx
 by_cases h0 : x.length = 0
 ·have t0 : ((x.length : Int) == 0) = true := by rw [h0]; rfl
  have HZ := Lib.hid h0
  clear h0
  go_enter Try.func4, Try.ntmps4
  go_wp2_with fail
  with_reducible refine (hF _).mono ?_
  rintro e w1 ⟨rfl, rfl⟩
  go_wp2_with fail
  with_reducible refine (live_ok _).mono ?_
  rintro e w4 ⟨rfl, hb⟩
  have HB4 := Lib.hid (below_step (below_alloc (Below.refl _ _) _) hb)
  clear hb
  go_wp2
  go_ret
  exact ⟨rfl, HB4.out⟩
 ·have t0 : ((x.length : Int) == 0) = false := by simpa using h0
  obtain ⟨ad, rfl, -⟩ := HR.out.2.2 (by omega)
  obtain ⟨a, ha⟩ : ∃ a : Nat, x0.tmod (x.length : Int) = (a : Int) := ⟨(x0.tmod x.length).toNat, by rw [Int.toNat_of_nonneg (Int.tmod_nonneg _ hx0)]⟩
  obtain ⟨b, hb⟩ : ∃ b : Nat, x1.tmod (x.length : Int) = (b : Int) := ⟨(x1.tmod x.length).toNat, by rw [Int.toNat_of_nonneg (Int.tmod_nonneg _ hx1)]⟩
  have hal : a < x.length := by have := Int.tmod_lt_of_pos x0 (b := (x.length : Int)) (by omega); omega
  have hbl : b < x.length := by have := Int.tmod_lt_of_pos x1 (b := (x.length : Int)) (by omega); omega
  have HA := Lib.hid ha
  have HBB := Lib.hid hb
  clear ha hb
  go_enter Try.func4, Try.ntmps4
  go_wp2_with fail
  with_reducible refine (hF _).mono ?_
  rintro e w1 ⟨rfl, rfl⟩
  have hB0 : Below w.heap.size w ((w.alloc (.cells #[.int .u8 x0, .int .u8 x1] 35)).alloc (.cells #[] 39)) := below_alloc (below_alloc (Below.refl _ _) _) _
  have hC0 := Lib.hid (Kd.C_below HR.out hB0)
  have HB0 := Lib.hid hB0
  have hR00 := R_empty k39 39 (w.alloc (.cells #[.int .u8 x0, .int .u8 x1] 35)) (w.heap.size + 1) (by simp)
  rw [World.size_alloc] at hR00
  have hR0 := Lib.hid hR00
  clear hR00
  have hB1 : Below (w.heap.size + 1) (w.alloc (.cells #[.int .u8 x0, .int .u8 x1] 35)) ((w.alloc (.cells #[.int .u8 x0, .int .u8 x1] 35)).alloc (.cells #[] 39)) := (Below.refl _ _).alloc (by simp) _
  have HB1 := Lib.hid hB1
  clear hB0 hB1
  go_wp2_with ((with_reducible refine gate_builtin (b := .append) (xs := #[.tmp 18, .tmp 19]) rfl ?_); at_builtin; go_loud (refine Kd.R_append_rows k39 (Rr := Kd.K k39 ((w.alloc (.cells #[.int .u8 x0, .int .u8 x1] 35)).alloc (.cells #[] 39))) (w0 := w.alloc (.cells #[.int .u8 x0, .int .u8 x1] 35)) (w.heap.size + 1) rfl (.tmp 18) (.tmp 19) 22 39 _ 48 rfl Try.underlying22 info39 rfl (by decide) (by decide) (.slice (some ⟨w.heap.size + 1, 0, none⟩) 0 0) [] x (some ad) x.length c (fun _ => True) (fun _ => False) rfl rfl ?aO ?aR ?aK (fun k h => h.elim) (fun _ _ => trivial) ?aB (by simp) ?aL ?_; (case aO => exact hR0.out); (case aR => exact hC0.out); (case aK => (intro y cs h; rw [k39_open h]; exact k39_mkM _ _ _ _)); (case aB => exact HB1.out); (case aL => (simp; omega)); intro v1 w2 h1 hb1 hg1 _; rw [List.nil_append] at h1; have H1 := Lib.hid h1; have HG1 := Lib.hid hb1; clear h1 hb1 hg1))
  obtain ⟨gm, cm, rfl, hgb, hgl, hgt⟩ := Kd.R_form H1.out (by omega)
  have hz : w.heap.size < w2.heap.size := by omega
  have pb : w2.heap[w.heap.size]? = some (.cells #[.int .u8 x0, .int .u8 x1] 35 (0, 0)) := (HG1.out.block _ (by omega)).trans (World.alloc_heap_new _ _)
  have p0 : w2.cell? ⟨w.heap.size, 0, none⟩ = some (.int .u8 x0) := by rw [blk_cell pb]; rfl
  have p1 : w2.cell? ⟨w.heap.size, 1, none⟩ = some (.int .u8 x1) := by rw [blk_cell pb]; rfl
  have HBW := Lib.hid (below_step (below_alloc (Below.refl _ w) _) (HG1.out.mono (by simp) : Below (w.alloc (.cells #[.int .u8 x0, .int .u8 x1] 35)).heap.size _ w2))
  have HBlk := Lib.hid pb
  clear pb hgt
  have ha := HA.out
  have hb := HBB.out
  clear HA HBB
  have hw0 : wrap64 x0 = x0 := by unfold wrap64; omega
  have hw1 : wrap64 x1 = x1 := by unfold wrap64; omega
  go_wp2_with fail
  refine start_ (n := 14) (S := fun w' => w'.cell? ⟨w.heap.size, 0, none⟩ = some (.int .u8 x0) ∧ w'.cell? ⟨w.heap.size, 1, none⟩ = some (.int .u8 x1)) (ds := []) #[false,false,false,false,false,false,false,false,false,false,false,false,false,false] (by kernel_rfl) rfl rfl ⟨p0, p1⟩ (fun hHeld => ?_)
  refine pure_ (i := 0) (N := some 21) (v := ?_) (a' := ?_) #[true,false,false,false,false,false,false,false,false,false,false,false,false,false] rfl rfl (by kernel_rfl) (fun _ _ _ h => h) (Or.inl ⟨by rfl, ?_⟩) ?_ ?_
  rotate_left
  ·intro w'
   go_simp
   with_reducible rfl
  rotate_left
  ·simp only [Act.put, List.setIfInBounds_toArray, List.set_cons_zero, List.set_cons_succ, i64_w, i32_w]
   rfl
  refine pure_ (i := 3) (N := some 24) (v := ?_) (a' := ?_) #[true,false,false,true,false,false,false,false,false,false,false,false,false,false] rfl rfl (by kernel_rfl) (fun _ _ _ h => h) (Or.inl ⟨by rfl, ?_⟩) ?_ ?_
  rotate_left
  ·intro w'
   go_simp
   with_reducible rfl
  rotate_left
  ·simp only [Act.put, List.setIfInBounds_toArray, List.set_cons_zero, List.set_cons_succ, i64_w, i32_w]
   rfl
  refine pure_ (i := 4) (N := some 25) (v := ?_) (a' := ?_) #[true,false,false,true,true,false,false,false,false,false,false,false,false,false] rfl rfl (by kernel_rfl) (fun _ _ _ h => h) (Or.inl ⟨by rfl, ?_⟩) ?_ ?_
  rotate_left
  ·intro w'
   go_simp
   with_reducible rfl
  rotate_left
  ·simp only [Act.put, List.setIfInBounds_toArray, List.set_cons_zero, List.set_cons_succ, i64_w, i32_w]
   rfl
  refine pure_ (i := 6) (N := some 27) (v := ?_) (a' := ?_) #[true,false,false,true,true,false,true,false,false,false,false,false,false,false] rfl rfl (by kernel_rfl) (fun _ _ _ h => h) (Or.inl ⟨by rfl, ?_⟩) ?_ ?_
  rotate_left
  ·intro w'
   go_simp
   with_reducible rfl
  rotate_left
  ·simp only [Act.put, List.setIfInBounds_toArray, List.set_cons_zero, List.set_cons_succ, i64_w, i32_w]
   rfl
  refine pure_ (i := 9) (N := some 30) (v := ?_) (a' := ?_) #[true,false,false,true,true,false,true,false,false,true,false,false,false,false] rfl rfl (by kernel_rfl) (fun _ _ _ h => h) (Or.inl ⟨by rfl, ?_⟩) ?_ ?_
  rotate_left
  ·intro w'
   go_simp
   with_reducible rfl
  rotate_left
  ·simp only [Act.put, List.setIfInBounds_toArray, List.set_cons_zero, List.set_cons_succ, i64_w, i32_w]
   rfl
  refine pure_ (i := 10) (N := some 31) (v := ?_) (a' := ?_) #[true,false,false,true,true,false,true,false,false,true,true,false,false,false] rfl rfl (by kernel_rfl) (fun _ _ _ h => h) (Or.inl ⟨by rfl, ?_⟩) ?_ ?_
  rotate_left
  ·intro w'
   go_simp
   with_reducible rfl
  rotate_left
  ·simp only [Act.put, List.setIfInBounds_toArray, List.set_cons_zero, List.set_cons_succ, i64_w, i32_w]
   rfl
  refine take_ (i := 1) (N := some 22) (v := ?_) (a' := ?_) #[true,true,false,true,true,false,true,false,false,true,true,false,false,false] rfl rfl (by kernel_rfl) (fun _ _ _ h => h) (Or.inl ⟨by rfl, ?_⟩) hHeld ?_ ?_
  rotate_left
  ·rintro w' ⟨s0, s1⟩
   go_simp
   with_reducible rfl
  rotate_left
  ·simp only [Act.put, List.setIfInBounds_toArray, List.set_cons_zero, List.set_cons_succ, i64_w, i32_w]
   rfl
  refine pure_ (i := 2) (N := some 23) (v := ?_) (a' := ?_) #[true,true,true,true,true,false,true,false,false,true,true,false,false,false] rfl rfl (by kernel_rfl) (fun _ _ _ h => h) (Or.inl ⟨by rfl, ?_⟩) ?_ ?_
  rotate_left
  ·intro w'
   go_simp
   with_reducible rfl
  rotate_left
  ·simp only [Act.put, List.setIfInBounds_toArray, List.set_cons_zero, List.set_cons_succ, i64_w, i32_w]
   rfl
  refine pure_ (i := 5) (N := some 26) (v := ?_) (a' := ?_) #[true,true,true,true,true,true,true,false,false,true,true,false,false,false] rfl rfl (by kernel_rfl) (fun _ _ _ h => h) (Or.inl ⟨by rfl, ?_⟩) ?_ ?_
  rotate_left
  ·intro w'
   go_simp
   with_reducible rfl
  rotate_left
  ·simp only [Act.put, List.setIfInBounds_toArray, List.set_cons_zero, List.set_cons_succ, i64_w, i32_w]
   rfl
  refine pure_ (i := 12) (N := some 6) (v := ?_) (a' := ?_) #[true,true,true,true,true,true,true,false,false,true,true,false,true,false] rfl rfl (by kernel_rfl) (fun _ _ _ h => h) (Or.inl ⟨by rfl, ?_⟩) ?_ ?_
  rotate_left
  ·intro w'
   go_simp
   with_reducible rfl
  rotate_left
  ·simp only [Act.put, List.setIfInBounds_toArray, List.set_cons_zero, List.set_cons_succ, i64_w, i32_w]
   rfl
  refine take_ (i := 7) (N := some 28) (v := ?_) (a' := ?_) #[true,true,true,true,true,true,true,true,false,true,true,false,true,false] rfl rfl (by kernel_rfl) (fun _ _ _ h => h) (Or.inl ⟨by rfl, ?_⟩) hHeld ?_ ?_
  rotate_left
  ·rintro w' ⟨s0, s1⟩
   go_simp
   with_reducible rfl
  rotate_left
  ·simp only [Act.put, List.setIfInBounds_toArray, List.set_cons_zero, List.set_cons_succ, i64_w, i32_w]
   rfl
  refine pure_ (i := 8) (N := some 29) (v := ?_) (a' := ?_) #[true,true,true,true,true,true,true,true,true,true,true,false,true,false] rfl rfl (by kernel_rfl) (fun _ _ _ h => h) (Or.inl ⟨by rfl, ?_⟩) ?_ ?_
  rotate_left
  ·intro w'
   go_simp
   with_reducible rfl
  rotate_left
  ·simp only [Act.put, List.setIfInBounds_toArray, List.set_cons_zero, List.set_cons_succ, i64_w, i32_w]
   rfl
  refine pure_ (i := 11) (N := some 32) (v := ?_) (a' := ?_) #[true,true,true,true,true,true,true,true,true,true,true,true,true,false] rfl rfl (by kernel_rfl) (fun _ _ _ h => h) (Or.inl ⟨by rfl, ?_⟩) ?_ ?_
  rotate_left
  ·intro w'
   go_simp
   with_reducible rfl
  rotate_left
  ·simp only [Act.put, List.setIfInBounds_toArray, List.set_cons_zero, List.set_cons_succ, i64_w, i32_w]
   rfl
  refine pure_ (i := 13) (N := some 7) (v := ?_) (a' := ?_) #[true,true,true,true,true,true,true,true,true,true,true,true,true,true] rfl rfl (by kernel_rfl) (fun _ _ _ h => h) (Or.inl ⟨by rfl, ?_⟩) ?_ ?_
  rotate_left
  ·intro w'
   go_simp
   with_reducible rfl
  rotate_left
  ·simp only [Act.put, List.setIfInBounds_toArray, List.set_cons_zero, List.set_cons_succ, i64_w, i32_w]
   rfl
  refine done_ (by kernel_rfl) ?_
  obtain ⟨xa, hxa⟩ : ∃ xa, xa = x[a] := ⟨_, rfl⟩
  obtain ⟨xb, hxb⟩ : ∃ xb, xb = x[b] := ⟨_, rfl⟩
  have q0 := act_own H1.out hbl
  have q1 := act_own H1.out hal
  rw [← hxb] at q0
  rw [← hxa] at q1
  have HM : Hid (Kd.R k39 39 (w2.drewN 2) (w.heap.size + 1) (fun x => True) (.slice (some ⟨gm, 0, none⟩) x.length cm) x) := Lib.hid H1.out
  have HXA := Lib.hid hxa
  have HXB := Lib.hid hxb
  clear hxa hxb ha hb hw0 hw1
  go_wp2_with fail
  refine start_ (n := 16) (S := fun w' => w'.cell? ⟨gm, b * 6, none⟩ = some (.int .u8 xb.f0) ∧ w'.cell? ⟨gm, b * 6 + 1, none⟩ = some (.string xb.f1) ∧ w'.cell? ⟨gm, b * 6 + 2, none⟩ = some (.int .u8 xb.f2) ∧ w'.cell? ⟨gm, b * 6 + 3, none⟩ = some (.bool xb.f3) ∧ w'.cell? ⟨gm, b * 6 + 4, none⟩ = some (.int .i64 xb.f4) ∧ w'.cell? ⟨gm, b * 6 + 5, none⟩ = some (.int .i64 xb.f5) ∧ w'.cell? ⟨gm, a * 6, none⟩ = some (.int .u8 xa.f0) ∧ w'.cell? ⟨gm, a * 6 + 1, none⟩ = some (.string xa.f1) ∧ w'.cell? ⟨gm, a * 6 + 2, none⟩ = some (.int .u8 xa.f2) ∧ w'.cell? ⟨gm, a * 6 + 3, none⟩ = some (.bool xa.f3) ∧ w'.cell? ⟨gm, a * 6 + 4, none⟩ = some (.int .i64 xa.f4) ∧ w'.cell? ⟨gm, a * 6 + 5, none⟩ = some (.int .i64 xa.f5)) (ds := [13, 15]) #[false,false,false,false,false,false,false,false,false,false,false,false,false,false,false,false] (by kernel_rfl) rfl rfl ⟨(q0.1), (q0.2.1), (q0.2.2.1), (q0.2.2.2.1), (q0.2.2.2.2.1), (q0.2.2.2.2.2), (q1.1), (q1.2.1), (q1.2.2.1), (q1.2.2.2.1), (q1.2.2.2.2.1), (q1.2.2.2.2.2)⟩ (fun hHeld => ?_)
  refine pure_ (i := 0) (N := some 33) (v := ?_) (a' := ?_) #[true,false,false,false,false,false,false,false,false,false,false,false,false,false,false,false] rfl rfl (by kernel_rfl) (fun _ _ _ h => h) (Or.inl ⟨by rfl, ?_⟩) ?_ ?_
  rotate_left
  ·intro w'
   go_simp
   with_reducible rfl
  rotate_left
  ·simp only [Act.put, List.setIfInBounds_toArray, List.set_cons_zero, List.set_cons_succ, i64_w, i32_w]
   rfl
  refine pure_ (i := 1) (N := some 34) (v := ?_) (a' := ?_) #[true,true,false,false,false,false,false,false,false,false,false,false,false,false,false,false] rfl rfl (by kernel_rfl) (fun _ _ _ h => h) (Or.inl ⟨by rfl, ?_⟩) ?_ ?_
  rotate_left
  ·intro w'
   go_simp
   with_reducible rfl
  rotate_left
  ·simp only [Act.put, List.setIfInBounds_toArray, List.set_cons_zero, List.set_cons_succ, i64_w, i32_w]
   rfl
  refine pure_ (i := 2) (N := some 35) (v := ?_) (a' := ?_) #[true,true,true,false,false,false,false,false,false,false,false,false,false,false,false,false] rfl rfl (by kernel_rfl) (fun _ _ _ h => h) (Or.inl ⟨by rfl, ?_⟩) ?_ ?_
  rotate_left
  ·intro w'
   go_simp
   with_reducible rfl
  rotate_left
  ·simp only [Act.put, List.setIfInBounds_toArray, List.set_cons_zero, List.set_cons_succ, i64_w, i32_w]
   rfl
  refine pure_ (i := 3) (N := some 36) (v := ?_) (a' := ?_) #[true,true,true,true,false,false,false,false,false,false,false,false,false,false,false,false] rfl rfl (by kernel_rfl) (fun _ _ _ h => h) (Or.inl ⟨by rfl, ?_⟩) ?_ ?_
  rotate_left
  ·intro w'
   go_simp
   with_reducible rfl
  rotate_left
  ·simp only [Act.put, List.setIfInBounds_toArray, List.set_cons_zero, List.set_cons_succ, i64_w, i32_w]
   rfl
  refine pure_ (i := 4) (N := some 37) (v := ?_) (a' := ?_) #[true,true,true,true,true,false,false,false,false,false,false,false,false,false,false,false] rfl rfl (by kernel_rfl) (fun _ _ _ h => h) (Or.inl ⟨by rfl, ?_⟩) ?_ ?_
  rotate_left
  ·intro w'
   go_simp
   with_reducible rfl
  rotate_left
  ·simp only [Act.put, List.setIfInBounds_toArray, List.set_cons_zero, List.set_cons_succ, i64_w, i32_w]
   rfl
  refine pure_ (i := 5) (N := some 38) (v := ?_) (a' := ?_) #[true,true,true,true,true,true,false,false,false,false,false,false,false,false,false,false] rfl rfl (by kernel_rfl) (fun _ _ _ h => h) (Or.inl ⟨by rfl, ?_⟩) ?_ ?_
  rotate_left
  ·intro w'
   go_simp
   with_reducible rfl
  rotate_left
  ·simp only [Act.put, List.setIfInBounds_toArray, List.set_cons_zero, List.set_cons_succ, i64_w, i32_w]
   rfl
  refine pure_ (i := 6) (N := some 39) (v := ?_) (a' := ?_) #[true,true,true,true,true,true,true,false,false,false,false,false,false,false,false,false] rfl rfl (by kernel_rfl) (fun _ _ _ h => h) (Or.inl ⟨by rfl, ?_⟩) ?_ ?_
  rotate_left
  ·intro w'
   go_simp
   with_reducible rfl
  rotate_left
  ·simp only [Act.put, List.setIfInBounds_toArray, List.set_cons_zero, List.set_cons_succ, i64_w, i32_w]
   rfl
  refine pure_ (i := 8) (N := some 41) (v := ?_) (a' := ?_) #[true,true,true,true,true,true,true,false,true,false,false,false,false,false,false,false] rfl rfl (by kernel_rfl) (fun _ _ _ h => h) (Or.inl ⟨by rfl, ?_⟩) ?_ ?_
  rotate_left
  ·intro w'
   go_simp
   with_reducible rfl
  rotate_left
  ·simp only [Act.put, List.setIfInBounds_toArray, List.set_cons_zero, List.set_cons_succ, i64_w, i32_w]
   rfl
  refine pure_ (i := 9) (N := some 42) (v := ?_) (a' := ?_) #[true,true,true,true,true,true,true,false,true,true,false,false,false,false,false,false] rfl rfl (by kernel_rfl) (fun _ _ _ h => h) (Or.inl ⟨by rfl, ?_⟩) ?_ ?_
  rotate_left
  ·intro w'
   go_simp
   with_reducible rfl
  rotate_left
  ·simp only [Act.put, List.setIfInBounds_toArray, List.set_cons_zero, List.set_cons_succ, i64_w, i32_w]
   rfl
  refine pure_ (i := 10) (N := some 43) (v := ?_) (a' := ?_) #[true,true,true,true,true,true,true,false,true,true,true,false,false,false,false,false] rfl rfl (by kernel_rfl) (fun _ _ _ h => h) (Or.inl ⟨by rfl, ?_⟩) ?_ ?_
  rotate_left
  ·intro w'
   go_simp
   with_reducible rfl
  rotate_left
  ·simp only [Act.put, List.setIfInBounds_toArray, List.set_cons_zero, List.set_cons_succ, i64_w, i32_w]
   rfl
  refine take_ (i := 7) (N := some 40) (v := ?_) (a' := ?_) #[true,true,true,true,true,true,true,true,true,true,true,false,false,false,false,false] rfl rfl (by kernel_rfl) (fun _ _ _ h => h) (Or.inl ⟨by rfl, ?_⟩) hHeld ?_ ?_
  rotate_left
  ·rintro w' ⟨s0, s1, s2, s3, s4, s5, s6, s7, s8, s9, s10, s11⟩
   go_simp
   with_reducible rfl
  rotate_left
  ·simp only [Act.put, List.setIfInBounds_toArray, List.set_cons_zero, List.set_cons_succ, i64_w, i32_w]
   rfl
  refine take_ (i := 11) (N := some 44) (v := ?_) (a' := ?_) #[true,true,true,true,true,true,true,true,true,true,true,true,false,false,false,false] rfl rfl (by kernel_rfl) (fun _ _ _ h => h) (Or.inl ⟨by rfl, ?_⟩) hHeld ?_ ?_
  rotate_left
  ·rintro w' ⟨s0, s1, s2, s3, s4, s5, s6, s7, s8, s9, s10, s11⟩
   go_simp
   with_reducible rfl
  rotate_left
  ·simp only [Act.put, List.setIfInBounds_toArray, List.set_cons_zero, List.set_cons_succ, i64_w, i32_w]
   rfl
  refine pure_ (i := 12) (N := some 45) (v := ?_) (a' := ?_) #[true,true,true,true,true,true,true,true,true,true,true,true,true,false,false,false] rfl rfl (by kernel_rfl) (fun _ _ _ h => h) (Or.inl ⟨by rfl, ?_⟩) ?_ ?_
  rotate_left
  ·intro w'
   go_simp
   with_reducible rfl
  rotate_left
  ·simp only [Act.put, List.setIfInBounds_toArray, List.set_cons_zero, List.set_cons_succ, i64_w, i32_w]
   rfl
  refine last_ (i := 13) (N := none) #[true,true,true,true,true,true,true,true,true,true,true,true,true,true,false,false] rfl rfl (by kernel_rfl) (by decide) (fun K hK => ?_)
  obtain ⟨v1, hrun1, hR1, hg1⟩ := put39 HM.out a hal xb
  have HV1 := Lib.hid hR1
  have HG1 := Lib.hid hg1
  clear hR1 hg1
  refine put_step 39 (.tmp 45) (.tmp 40) _ _ (by rfl) rfl rfl rfl rfl hrun1 ?_
  clear hrun1
  refine hK.out _ _ ?_
  clear hK K
  refine pure_ (i := 14) (N := some 46) (v := ?_) (a' := ?_) #[true,true,true,true,true,true,true,true,true,true,true,true,true,true,true,false] rfl rfl (by kernel_rfl) (fun _ _ _ h => h) (Or.inl ⟨by rfl, ?_⟩) ?_ ?_
  rotate_left
  ·intro w'
   go_simp
   with_reducible rfl
  rotate_left
  ·simp only [Act.put, List.setIfInBounds_toArray, List.set_cons_zero, List.set_cons_succ, i64_w, i32_w]
   rfl
  refine last_ (i := 15) (N := none) #[true,true,true,true,true,true,true,true,true,true,true,true,true,true,true,true] rfl rfl (by kernel_rfl) (by decide) (fun K hK => ?_)
  obtain ⟨v2, hrun2, hR2, hg2⟩ := put39 HV1.out b (by simpa using hbl) xa
  have HV2 := Lib.hid hR2
  have HG2 := Lib.hid hg2
  clear hR2 hg2
  refine put_step 39 (.tmp 46) (.tmp 44) _ _ (by rfl) rfl rfl rfl rfl hrun2 ?_
  clear hrun2
  refine hK.out _ _ ?_
  clear hK K
  refine done_ (by kernel_rfl) ?_
  clear hHeld p0 p1 q0 q1
  obtain ⟨y, hy⟩ : ∃ y, y = (x.set a xb).set b xa := ⟨_, rfl⟩
  have hyl : y.length = x.length := by rw [hy]; simp
  have hyp : y.Perm x := by
   rw [hy, HXA.out, HXB.out]
   exact List.set_set_perm hal hbl
  have hR2 := HV2.out
  rw [← hy] at hR2
  have hBv : Below w.heap.size w v2 := ((pw_below_drewN HBW.out 2).grown HG1.out (by simpa using HBW.out.size) (fun k hk => by injection hk with hk; omega)).grown HG2.out (Nat.le_trans HBW.out.size HG1.out.size) (fun k hk => by injection hk with hk; omega)
  obtain ⟨-, hyc, hyC⟩ := Kd.R_reads' hR2
  have hys : ∀ a ∈ y, a.f1.size ≤ maxLen := fun a ha => HS.out a (hyp.subset ha)
  obtain ⟨r1, r2, hrx⟩ : ∃ r1 r2, rgn [] x = (r1, r2) := ⟨_, _, rfl⟩
  obtain ⟨s1, hry⟩ : ∃ s1, rgn [] y = (s1, r2) := ⟨(rgn [] y).1, by have := rgn_perm hyp; rw [hrx] at this; exact Prod.ext rfl this⟩
  have HRv := Lib.hid (Kd.C_below HR.out hBv)
  have HBv := Lib.hid hBv
  have HYC := Lib.hid hyC
  have HYS := Lib.hid hys
  have HRX := Lib.hid hrx
  have HRY := Lib.hid hry
  have HYL := Lib.hid hyl
  clear hR2 hBv hyC hys hrx hry hyp hy HV1 HV2 HG1 HG2 hyl HM H1 hR0 hC0 HB0 HB1
  go_wp2_with fail
  with_reducible refine (reg_ok (some ad) c x r1 r2 _ HRv.out hlc HS.out HRX.out).mono ?_
  rintro e v3 ⟨rfl, hb⟩
  have HB3 := Lib.hid (below_step HBv.out hb)
  have HYC3 := Lib.hid (Kd.C_below HYC.out hb)
  clear hb
  go_wp2_with fail
  with_reducible refine (reg_n (some ⟨gm, 0, none⟩) cm _ y s1 r2 _ HYL.out.symm HYC3.out (by rw [HYL.out]; exact hyc) HYS.out HRY.out).mono ?_
  rintro e v4 ⟨rfl, hb⟩
  have HB4 := Lib.hid (below_step HB3.out hb)
  clear hb
  go_wp2_with fail
  with_reducible refine (live_ok _).mono ?_
  rintro e v5 ⟨rfl, hb⟩
  have HB5 := Lib.hid (below_step HB4.out hb)
  clear hb
  go_wp2
  go_ret
  exact ⟨rfl, HB5.out⟩
end Go.Proofs.Ytgdpdigpbbjhpaa.C
