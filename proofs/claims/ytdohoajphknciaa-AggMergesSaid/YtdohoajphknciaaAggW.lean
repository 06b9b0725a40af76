/- The law of another one's parts. -/
import Derived.Test.YtdohoajphknciaaAggN
set_option linter.unusedSimpArgs false
set_option linter.unusedVariables false
namespace Go.Proofs.Ytdohoajphknciaa.Agg
open Go.RowKit Go.Proofs.Ytdohoajphknciaa.Open Go.Proofs.Ytdohoajphknciaa.PT Go.Proofs.Ytdohoajphknciaa.Pure Go.Proofs.Ytdohoajphknciaa.Perm Go.Proofs.YtdohoajphknciaaW.PrintWords Go.Proofs.YtdohoajphknciaaW.PrintLast Go.Proofs.YtdohoajphknciaaW.PrintMore

theorem opn_ops : Opn Try.prog (Kd.pair (Kd.int .u8) (Kd.int .u8)) (fun x => (Lit.int .u8 x.1).wf = true ∧ (Lit.int .u8 x.2).wf = true) 50 :=
 opn_array (e := 22) (m := 2) Try.underlying50 (by kernel_rfl) (opnF_cons (opn_int Try.underlying22 (by kernel_rfl)) (opnF_one (opn_int Try.underlying22 (by kernel_rfl))))
theorem opn_u8s : Opn Try.prog (Kd.pair (Kd.int .u8) (Kd.int .u8)) (fun x => (Lit.int .u8 x.1).wf = true ∧ (Lit.int .u8 x.2).wf = true) 51 :=
 opn_array (e := 5) (m := 2) Try.underlying51 (by kernel_rfl) (opnF_cons (opn_int Try.underlying5 (by kernel_rfl)) (opnF_one (opn_int Try.underlying5 (by kernel_rfl))))
abbrev gDeeds (l : List (Int × Int × Int)) : Prop := l.length ≤ maxLen ∧ ∀ x ∈ l, gDeed x
theorem opn_two : Opn Try.prog (Kd.pair (Kd.slice 48 Deed) (Kd.slice 48 Deed)) (fun x => gDeeds x.1 ∧ gDeeds x.2) 52 :=
 opn_array (e := 23) (m := 2) Try.underlying52 (by kernel_rfl) (opnF_cons opn_deeds (opnF_one opn_deeds))

theorem wf64 {x : Int} (h : (Lit.int .i64 x).wf = true) : in64 x := by
 simp only [Lit.wf, Bool.and_eq_true, decide_eq_true_eq] at h
 rw [show IntKind.i64.min = -9223372036854775808 from by decide +kernel, show IntKind.i64.max = 9223372036854775807 from by decide +kernel] at h
 exact h
theorem wf8 {x : Int} (h : (Lit.int .u8 x).wf = true) : 0 ≤ x ∧ x ≤ 255 := by
 simp only [Lit.wf, Bool.and_eq_true, decide_eq_true_eq] at h
 rw [show IntKind.u8.min = 0 from by decide +kernel, show IntKind.u8.max = 255 from by decide +kernel] at h
 exact h

/-- Two of two: those of one are not those of the other. -/
structure Far (A R B Q : Option Addr) : Prop where
 ab : blk A = none ∨ blk B ≠ blk A
 rq : blk R = none ∨ blk Q ≠ blk R

theorem AgN.inside {w : World} {b : Bool} {A : Option Addr} {o f : Int} {ls : List (List Int)} (h : AgN w b A o f ls) {g : Nat} (e : blk A = some g) : g < w.heap.size := by
 cases b with
 | false => rw [show A = none from h] at e; cases e
 | true => obtain ⟨k, rfl, h⟩ := h; injection e with e; subst e; exact h.lt
theorem RfN.inside {w : World} {b : Bool} {A : Option Addr} {o : Int} {ls : List (List Int)} (h : RfN w b A o ls) {g : Nat} (e : blk A = some g) : g < w.heap.size := by
 cases b with
 | false => rw [show A = none from h] at e; cases e
 | true => obtain ⟨k, rfl, h⟩ := h; injection e with e; subst e; exact h.lt
theorem far_of {w w' : World} {base : Nat} {b b' : Bool} {A R B Q : Option Addr} {o f o' f' : Int} {ls ls' : List (List Int)} (h : Two w base b A R o f ls) (h' : Two w' w.heap.size b' B Q o' f' ls') : Far A R B Q := by
 refine ⟨?_, ?_⟩
 ·cases e : blk A with
  | none => exact Or.inl rfl
  | some g =>
   right
   intro q
   have := h.a.inside e
   have := h'.la g q
   omega
 ·cases e : blk R with
  | none => exact Or.inl rfl
  | some g =>
   right
   intro q
   have := h.r.inside e
   have := h'.lr g q
   omega
theorem May.merged {o f o' f' : Int} {b b' : Bool} {ls ls' : List (List Int)} {M : Nat} (h : May o f ls M) (h' : b' = true → May o' f' ls' M) : May o f (merged b b' o o' ls ls') (M + M) := by
 unfold Agg.merged
 split
 ·rename_i hc
  cases b' with
  | false => simp [mcode] at hc
  | true => exact h.both (h' rfl)
 ·exact h.less (by omega)
theorem may_merged {o f o' f' : Int} {b b' : Bool} {ls ls' : List (List Int)} {M : Nat} (h : May o f ls M) (h' : b' = true → May o' f' ls' M) : May o f (merged b b' o o' ls ls') (M + M) := h.merged h'
theorem All64.merged {o o' : Int} {b b' : Bool} {ls ls' : List (List Int)} (h : All64 ls) (h' : All64 ls') : All64 (merged b b' o o' ls ls') := by
 unfold Agg.merged
 split
 ·exact h.both h'
 ·exact h

set_option maxHeartbeats 8000000 in
theorem merges_walk (W : World) (x : Int × Int) (c1 : List Value) (h1 : (Kd.pair (Kd.int .u8) (Kd.int .u8)).K W x c1) (_ : (Lit.int .u8 x.1).wf = true ∧ (Lit.int .u8 x.2).wf = true) (y : Int × Int) (c2 : List Value) (h2 : (Kd.pair (Kd.int .u8) (Kd.int .u8)).K W y c2) (hy : (Lit.int .u8 y.1).wf = true ∧ (Lit.int .u8 y.2).wf = true)
  (z : List (Int × Int × Int) × List (Int × Int × Int)) (c3 : List Value) (h3 : (Kd.pair (Kd.slice 48 Deed) (Kd.slice 48 Deed)).K W z c3) (hz : gDeeds z.1 ∧ gDeeds z.2) :
  Calls Try.prog 6 #[.agg c1.toArray, .agg c2.toArray, .agg c3.toArray] W fun e w' => e = .returned (.bool true) ∧ Below W.heap.size W w' := by
 obtain ⟨o, o'⟩ := x
 obtain ⟨n, n'⟩ := y
 obtain ⟨D, D'⟩ := z
 obtain ⟨a1, a2, rfl, q1, q2⟩ := h1
 obtain ⟨a3, a4, rfl, q3, q4⟩ := h2
 obtain ⟨a5, a6, rfl, q5, q6⟩ := h3
 have q1' : a1 = [.int .u8 o] := q1
 have q2' : a2 = [.int .u8 o'] := q2
 have q3' : a3 = [.int .u8 n] := q3
 have q4' : a4 = [.int .u8 n'] := q4
 subst q1' q2' q3' q4'
 clear q1 q2 q3 q4
 obtain ⟨A1, k1, rfl, hl1, hc1⟩ := q5
 obtain ⟨A2, k2, rfl, hl2, hc2⟩ := q6
 have hn := wf8 hy.1
 have hn' := wf8 hy.2
 have HD := Lib.hid (show Kd.C Deed W A1 D.length D from hc1)
 have HD' := Lib.hid (show Kd.C Deed W A2 D'.length D' from hc2)
 have HZ := Lib.hid hz
 have hm1 : (D.length : Int) ≤ 9223372036854775807 := by have h := hz.1.1; simp only [maxLen] at h; omega
 have hm2 : (D'.length : Int) ≤ 9223372036854775807 := by have h := hz.2.1; simp only [maxLen] at h; omega
 clear hc1 hc2 hy hz
 simp only [] at hn hn'
 show Calls Try.prog 6 #[.agg #[.int .u8 o, .int .u8 o'], .agg #[.int .u8 n, .int .u8 n'], .agg #[.slice A1 D.length k1, .slice A2 D'.length k2]] W _
 go_enter Try.func6, Try.ntmps6
 go_wp2_with fail
 refine (play_ok o (n % 5) A1 k1 D _ (Kd.C_below HD.out (by repeat (first | exact Below.refl _ _ | apply below_alloc))) hm1).mono ?_
 rintro e w1 ⟨P, R, rfl, ht, hb1⟩
 have f1 : w1.cell? ⟨W.heap.size, 1, none⟩ = some (.int .u8 o') := (hb1.cell (by simp <;> omega)).trans (by go_simp)
 have f2 : w1.cell? ⟨W.heap.size + 1, 1, none⟩ = some (.int .u8 n') := (hb1.cell (by simp)).trans (by go_simp)
 have f3 : w1.cell? ⟨W.heap.size + 2, 1, none⟩ = some (.slice A2 D'.length k2) := (hb1.cell (by simp)).trans (by go_simp)
 have HB1 := Lib.hid (show Below W.heap.size W w1 from below_step (by repeat (first | exact Below.refl _ _ | apply below_alloc)) hb1)
 have HT1 := Lib.hid (show Two w1 W.heap.size (isL o (n % 5)) P R o (fst0 o) (plays (List.replicate (n % 5).toNat []) (D.take 50)) from ⟨ht.a, ht.r, fun g e => Nat.le_trans (by simp; omega) (ht.la g e), fun g e => Nat.le_trans (by simp; omega) (ht.lr g e)⟩)
 clear hb1 ht
 go_wp2_with fail
 refine (play_ok o' (n' % 5) A2 k2 D' _ (Kd.C_below HD'.out HB1.out) hm2).mono ?_
 rintro e w2 ⟨B, Q, rfl, ht, hb2⟩
 have HFar := Lib.hid (far_of HT1.out ht)
 have HT1 := Lib.hid (HT1.out.below hb2)
 have HT2 := Lib.hid (show Two w2 W.heap.size (isL o' (n' % 5)) B Q o' (fst0 o') (plays (List.replicate (n' % 5).toNat []) (D'.take 50)) from ⟨ht.a, ht.r, fun g e => Nat.le_trans HB1.out.size (ht.la g e), fun g e => Nat.le_trans HB1.out.size (ht.lr g e)⟩)
 have HB2 := Lib.hid (below_step HB1.out hb2)
 clear hb2 ht
 obtain ⟨b, hb⟩ : ∃ b, b = isL o (n % 5) := ⟨_, rfl⟩
 obtain ⟨b', hb'⟩ : ∃ b, b = isL o' (n' % 5) := ⟨_, rfl⟩
 obtain ⟨ls, hls⟩ : ∃ ls, ls = plays (List.replicate (n % 5).toNat []) (D.take 50) := ⟨_, rfl⟩
 obtain ⟨ls', hls'⟩ : ∃ ls, ls = plays (List.replicate (n' % 5).toNat []) (D'.take 50) := ⟨_, rfl⟩
 have HM := Lib.hid (show b = true → May o (fst0 o) ls 50 from fun e => by rw [hls]; rw [hb] at e; exact ((may_new e).plays _).less (by rw [List.length_take]; omega))
 have HM' := Lib.hid (show b' = true → May o' (fst0 o') ls' 50 from fun e => by rw [hls']; rw [hb'] at e; exact ((may_new e).plays _).less (by rw [List.length_take]; omega))
 have H64 := Lib.hid (show All64 ls from by rw [hls]; exact (all64_new _).plays _ (fun d hd => wf64 (HZ.out.1.2 d (List.mem_of_mem_take hd)).2.2))
 have HZ64 := Lib.hid (show All64 ls' from by rw [hls']; exact (all64_new _).plays _ (fun d hd => wf64 (HZ.out.2.2 d (List.mem_of_mem_take hd)).2.2))
 rw [← hb, ← hls] at HT1
 rw [← hb', ← hls'] at HT2
 clear hb hb' hls hls' f1 f2 f3
 go_wp2_with fail
 refine (live_ok _).mono ?_
 rintro e w3 ⟨rfl, hb3⟩
 have HT1 := Lib.hid (HT1.out.below hb3)
 have HT2 := Lib.hid (HT2.out.below hb3)
 have HB3 := Lib.hid (below_step HB2.out hb3)
 clear hb3
 go_wp2_with fail
 refine (merge_A b b' P B o (fst0 o) o' (fst0 o') ls ls' _ HT1.out.a HT2.out.a (fun e => (HM.out e).less (by decide)) (fun e => (HM'.out e).less (by decide)) H64.out).mono ?_
 rintro e w4 ⟨rfl, ha4, hg4⟩
 have HA4 := Lib.hid ha4
 have HR4 := Lib.hid (HT1.out.r.kept hg4 HT1.out.a.apart (HT1.out.a.ne HT1.out.r))
 have HB4a := Lib.hid (HT2.out.a.kept hg4 HFar.out.ab)
 have HQ4 := Lib.hid (HT2.out.r.kept hg4 HT1.out.a.apart (HT1.out.a.ne HT2.out.r))
 have HB4 := Lib.hid (HB3.out.grown hg4 HB3.out.size HT1.out.la)
 clear ha4 hg4
 go_wp2_with fail
 refine (merge_R b b' R Q o (fst0 o) o' (fst0 o') ls ls' _ HR4.out HQ4.out (fun e => (HM.out e).less (by decide)) (fun e => (HM'.out e).less (by decide))).mono ?_
 rintro e w5 ⟨rfl, hr5, hg5⟩
 have HT1' := Lib.hid (show Two w5 W.heap.size b P R o (fst0 o) (merged b b' o o' ls ls') from ⟨HA4.out.kept hg5 (HA4.out.ne' HR4.out), hr5, HT1.out.la, HT1.out.lr⟩)
 have HT2' := Lib.hid (show Two w5 W.heap.size b' B Q o' (fst0 o') ls' from ⟨HB4a.out.kept hg5 (HB4a.out.ne' HR4.out), HQ4.out.kept hg5 HR4.out.apart HFar.out.rq, HT2.out.la, HT2.out.lr⟩)
 have HB5 := Lib.hid (HB4.out.grown hg5 HB4.out.size HT1.out.lr)
 clear hr5 hg5
 obtain ⟨ms, hms⟩ : ∃ m, m = merged b b' o o' ls ls' := ⟨_, rfl⟩
 have HMM := Lib.hid (show b = true → May o (fst0 o) ms 100 from fun e => by rw [hms]; exact may_merged (HM.out e) HM'.out)
 have HM64 := Lib.hid (show All64 ms from by rw [hms]; exact H64.out.merged (by
  exact HZ64.out))
 rw [← hms] at HT1'
 clear hms HT1 HT2 HA4 HR4 HB4a HQ4
 generalize mcode b b' o o' ls.length ls'.length = mc
 have y1 : (mc == mc) = true := by simp
 go_wp2_with fail
 refine (same_ok W.heap.size b P R o (fst0 o) ms 5 _ HT1'.out (fun e => (HMM.out e).less (by decide)) (by decide)).mono ?_
 rintro e w6 ⟨rfl, hb6⟩
 have HT1 := Lib.hid (HT1'.out.below hb6)
 have HT2 := Lib.hid (HT2'.out.below hb6)
 have HB6 := Lib.hid (below_step HB5.out hb6)
 clear hb6 HT1' HT2'
 go_wp2_with fail
 refine (same_ok W.heap.size b' B Q o' (fst0 o') ls' 5 _ HT2.out (fun e => (HM'.out e).less (by decide)) (by decide)).mono ?_
 rintro e w7 ⟨rfl, hb7⟩
 have HT1 := Lib.hid (HT1.out.below hb7)
 have HB7 := Lib.hid (below_step HB6.out hb7)
 clear hb7
 go_wp2_with fail
 refine (merge_A b b P P o (fst0 o) o (fst0 o) ms ms _ HT1.out.a HT1.out.a (fun e => (HMM.out e).less (by decide)) (fun e => (HMM.out e).less (by decide)) HM64.out).mono ?_
 rintro e w8 ⟨rfl, ha8, hg8⟩
 have HA8 := Lib.hid ha8
 have HR8 := Lib.hid (HT1.out.r.kept hg8 HT1.out.a.apart (HT1.out.a.ne HT1.out.r))
 have HB8 := Lib.hid (HB7.out.grown hg8 HB7.out.size HT1.out.la)
 clear ha8 hg8
 go_wp2_with fail
 refine (merge_R b b R R o (fst0 o) o (fst0 o) ms ms _ HR8.out HR8.out (fun e => (HMM.out e).less (by decide)) (fun e => (HMM.out e).less (by decide))).mono ?_
 rintro e w9 ⟨rfl, hr9, hg9⟩
 have HT9 := Lib.hid (show Two w9 W.heap.size b P R o (fst0 o) (merged b b o o ms ms) from ⟨HA8.out.kept hg9 (HA8.out.ne' HR8.out), hr9, HT1.out.la, HT1.out.lr⟩)
 have HB9 := Lib.hid (HB8.out.grown hg9 HB8.out.size HT1.out.lr)
 clear hr9 hg9
 generalize mcode b b o o ms.length ms.length = md
 have y2 : (md == md) = true := by simp
 go_wp2_with fail
 refine (same_ok W.heap.size b P R o (fst0 o) _ 2 _ HT9.out (fun e => (may_merged (HMM.out e) HMM.out).less (by decide)) (by decide)).mono ?_
 rintro e w10 ⟨rfl, hb10⟩
 have HB10 := Lib.hid (below_step HB9.out hb10)
 clear hb10
 go_wp2
 go_ret
 exact ⟨rfl, HB10.out⟩
end Go.Proofs.Ytdohoajphknciaa.Agg
