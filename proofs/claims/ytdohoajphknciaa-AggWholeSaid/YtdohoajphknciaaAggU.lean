/- The walks of the reference of agg: forked, all together, another one's. -/
import Derived.Test.YtdohoajphknciaaAggT
set_option linter.unusedSimpArgs false
set_option linter.unusedVariables false
namespace Go.Proofs.Ytdohoajphknciaa.Agg
open Go.RowKit Go.Proofs.Ytdohoajphknciaa.PT Go.Proofs.Ytdohoajphknciaa.Pure Go.Proofs.Ytdohoajphknciaa.Perm Go.Proofs.YtdohoajphknciaaW.PrintWords Go.Proofs.YtdohoajphknciaaW.PrintLast Go.Proofs.YtdohoajphknciaaW.PrintMore

theorem own_step {P : Program} {ops : Array Oper} {o : Oper} {a : Act} {K : Act → World → Prop} {Q : Exit → Act → World → Prop} {W : World} {X : Prop} (hw : Region.wanted o (yielded ops a.tmps) = true) (h : Oper.wp P o a W K Q) :
  if Region.wanted o (yielded ops a.tmps) = true then Oper.wp P o a W K Q else X := by
 rw [if_pos hw]; exact h

set_option maxHeartbeats 4000000 in
theorem rfork_ok (g : Nat) (o : Int) (ls : List (List Int)) (w : World) (h : IsR w g o ls) (h1 : 1 ≤ ls.length) (h4 : ls.length ≤ 4) : Calls Try.prog 19 #[.pointer (some ⟨g, 0, none⟩)] w fun e w' => ∃ k, e = .returned (.pointer (some ⟨k, 0, none⟩)) ∧ w.heap.size ≤ k ∧ IsR w' k o ls ∧ Below w.heap.size w w' := by
 obtain ⟨i32, hi32, z32, s32, b32⟩ := info_parts info32
 have lg := h.lt
 obtain ⟨v, hv, vs, hvs, hr⟩ := h
 obtain ⟨gv, cap, rfl, _, lgv⟩ := own_form hvs (by omega)
 have e0 : w.cell? ⟨g, 0, none⟩ = some (.int .u8 o) := by simp [World.cell?, hv]
 have e1 : w.cell? ⟨g, 1, none⟩ = some (.slice (some ⟨gv, 0, none⟩) ls.length cap) := by simp [World.cell?, hv]
 have hone : ∀ u ∈ vs, u.oneCell' = true := fun u hu => by
  obtain ⟨i, hi⟩ := List.getElem?_of_mem hu
  have hil : i < ls.length := by
   obtain ⟨q, _⟩ := List.getElem?_eq_some_iff.1 hi
   have := hvs.1
   omega
  obtain ⟨u', q1, q2⟩ := hr i ls[i] (List.getElem?_eq_getElem hil)
  rw [hi] at q1
  injection q1 with q1
  subst q1
  rcases q2.2 with ⟨rfl, _⟩ | ⟨_, _, _, rfl, _⟩ <;> rfl
 have HV := Lib.hid hvs
 have HR := Lib.hid hr
 have HO := Lib.hid hone
 clear hv hvs hr hone
 go_enter Try.func19, Try.ntmps19
 go_wp2_with fail
 refine start_ (n := 13) (S := fun w' => w'.cell? ⟨g, 0, none⟩ = some (.int .u8 o) ∧ w'.cell? ⟨g, 1, none⟩ = some (.slice (some ⟨gv, 0, none⟩) ls.length cap)) (ds := []) #[false,false,false,false,false,false,false,false,false,false,false,false,false] (by kernel_rfl) rfl rfl ⟨e0, e1⟩ (fun hHeld => ?_)
 refine pure_ (i := 0) (N := some 5) (v := ?_) (a' := ?_) #[true,false,false,false,false,false,false,false,false,false,false,false,false] rfl rfl (by kernel_rfl) (fun _ _ _ h => h) (Or.inl ⟨by rfl, ?_⟩) ?_ ?_
 rotate_left
 ·intro w'
  go_simp
  with_reducible rfl
 rotate_left
 ·simp only [Act.put, List.setIfInBounds_toArray, List.set_cons_zero, List.set_cons_succ, i64_w, i32_w]
  rfl
 refine pure_ (i := 1) (N := some 6) (v := ?_) (a' := ?_) #[true,true,false,false,false,false,false,false,false,false,false,false,false] rfl rfl (by kernel_rfl) (fun _ _ _ h => h) (Or.inl ⟨by rfl, ?_⟩) ?_ ?_
 rotate_left
 ·intro w'
  go_simp
  with_reducible rfl
 rotate_left
 ·simp only [Act.put, List.setIfInBounds_toArray, List.set_cons_zero, List.set_cons_succ, i64_w, i32_w]
  rfl
 refine pure_ (i := 2) (N := some 7) (v := ?_) (a' := ?_) #[true,true,true,false,false,false,false,false,false,false,false,false,false] rfl rfl (by kernel_rfl) (fun _ _ _ h => h) (Or.inl ⟨by rfl, ?_⟩) ?_ ?_
 rotate_left
 ·intro w'
  go_simp
  with_reducible rfl
 rotate_left
 ·simp only [Act.put, List.setIfInBounds_toArray, List.set_cons_zero, List.set_cons_succ, i64_w, i32_w]
  rfl
 refine pure_ (i := 5) (N := some 10) (v := ?_) (a' := ?_) #[true,true,true,false,false,true,false,false,false,false,false,false,false] rfl rfl (by kernel_rfl) (fun _ _ _ h => h) (Or.inl ⟨by rfl, ?_⟩) ?_ ?_
 rotate_left
 ·intro w'
  go_simp
  with_reducible rfl
 rotate_left
 ·simp only [Act.put, List.setIfInBounds_toArray, List.set_cons_zero, List.set_cons_succ, i64_w, i32_w]
  rfl
 refine pure_ (i := 6) (N := some 11) (v := ?_) (a' := ?_) #[true,true,true,false,false,true,true,false,false,false,false,false,false] rfl rfl (by kernel_rfl) (fun _ _ _ h => h) (Or.inl ⟨by rfl, ?_⟩) ?_ ?_
 rotate_left
 ·intro w'
  go_simp
  with_reducible rfl
 rotate_left
 ·simp only [Act.put, List.setIfInBounds_toArray, List.set_cons_zero, List.set_cons_succ, i64_w, i32_w]
  rfl
 refine pure_ (i := 7) (N := some 12) (v := ?_) (a' := ?_) #[true,true,true,false,false,true,true,true,false,false,false,false,false] rfl rfl (by kernel_rfl) (fun _ _ _ h => h) (Or.inl ⟨by rfl, ?_⟩) ?_ ?_
 rotate_left
 ·intro w'
  go_simp
  with_reducible rfl
 rotate_left
 ·simp only [Act.put, List.setIfInBounds_toArray, List.set_cons_zero, List.set_cons_succ, i64_w, i32_w]
  rfl
 refine take_ (i := 3) (N := some 8) (v := ?_) (a' := ?_) #[true,true,true,true,false,true,true,true,false,false,false,false,false] rfl rfl (by kernel_rfl) (fun _ _ _ h => h) (Or.inl ⟨by rfl, ?_⟩) hHeld ?_ ?_
 rotate_left
 ·rintro w' ⟨s0, s1⟩
  go_simp
  with_reducible rfl
 rotate_left
 ·simp only [Act.put, List.setIfInBounds_toArray, List.set_cons_zero, List.set_cons_succ, i64_w, i32_w]
  rfl
 refine take_ (i := 8) (N := some 13) (v := ?_) (a' := ?_) #[true,true,true,true,false,true,true,true,true,false,false,false,false] rfl rfl (by kernel_rfl) (fun _ _ _ h => h) (Or.inl ⟨by rfl, ?_⟩) hHeld ?_ ?_
 rotate_left
 ·rintro w' ⟨s0, s1⟩
  go_simp
  with_reducible rfl
 rotate_left
 ·simp only [Act.put, List.setIfInBounds_toArray, List.set_cons_zero, List.set_cons_succ, i64_w, i32_w]
  rfl
 refine one_ (i := 4) (N := some 9) #[true,true,true,true,true,true,true,true,true,false,false,false,false] rfl rfl (by kernel_rfl) (by decide) (fun K hK => ?_)
 refine value_ (w1 := ?_) (v := ?_) (by rfl) rfl ?_ ?_
 rotate_left 2
 ·go_simp
  constructor
  ·rfl
  ·rfl
 refine hK.out _ _ ⟨(by go_simp), (by go_simp)⟩ (fun hHeld => ?_)
 clear hK K
 refine norm_ (a' := ?_) ?_ ?_
 rotate_left
 ·show Act.put _ (some 9) _ = _
  simp only [Act.put, List.setIfInBounds_toArray, List.set_cons_zero, List.set_cons_succ, i64_w, i32_w]
  rfl
 refine one_ (i := 9) (N := some 14) #[true,true,true,true,true,true,true,true,true,true,false,false,false] rfl rfl (by kernel_rfl) (by decide) (fun K hK => ?_)
 have hW1 : Below w.heap.size w (w.alloc (.cells #[] 32)).drew := below_drew1 (below_alloc (Below.refl _ _) _)
 have hv1 := own_below HV.out hW1
 have ho0 : (w.alloc (.cells #[] 32)).drew.ownsRow w.heap.size 32 1 (.slice (some ⟨w.heap.size, 0, none⟩) 0 0) 0 [] := own_empty w _ 32 (Nat.le_refl _)
 refine own_step (by rfl) ?_
 refine wp_append_own _ (.tmp 9) (.tmp 13) 71 rfl w.heap.size 32 i32 (.slice none 0 0) 1 24 Try.underlying71 hi32 z32 s32 b32 rfl (by decide) (.slice (some ⟨w.heap.size, 0, none⟩) 0 0) 0 [] rfl ho0 ⟨gv, 0, none⟩ ls.length cap vs rfl HV.out.1 (fun j u hu => ?c2) HO.out ?c3 ?c4 (by simp) ?_
 (case c2 => (rw [Addr.add_lit, Nat.zero_add]; exact (hv1.cellAt j (by rw [← hv1.1]; exact (List.getElem?_eq_some_iff.1 hu).1)).trans hu))
 (case c3 => (unfold maxLen; omega))
 (case c4 => omega)
 intro v2 w2 ho2 hg2 _
 rw [Nat.zero_add, List.nil_append] at ho2
 obtain ⟨gn, cn, rfl, hgn1, hgn2⟩ := own_form ho2 (by omega)
 have hB2 : Below w.heap.size w w2 := hW1.grown hg2 hW1.size (fun k hk => by injection hk with hk; exact Nat.le_of_eq hk)
 clear hg2 hW1 hv1 ho0
 have lg2 : g < w2.heap.size := Nat.lt_of_lt_of_le lg hB2.size
 have q0 := (hB2.cell (p := ⟨g, 0, none⟩) lg).trans e0
 have q1 := (hB2.cell (p := ⟨g, 1, none⟩) lg).trans e1
 refine hK.out _ _ ⟨(hB2.cell lg).trans e0, (hB2.cell lg).trans e1⟩ (fun hHeld => ?_)
 clear hK K
 refine norm_ (a' := ?_) ?_ ?_
 rotate_left
 ·show Act.put _ (some 14) _ = _
  simp only [Act.put, List.setIfInBounds_toArray, List.set_cons_zero, List.set_cons_succ, i64_w, i32_w]
  rfl
 refine pure_ (i := 10) (N := some 15) (v := ?_) (a' := ?_) #[true,true,true,true,true,true,true,true,true,true,true,false,false] rfl rfl (by kernel_rfl) (fun _ _ _ h => h) (Or.inl ⟨by rfl, ?_⟩) ?_ ?_
 rotate_left
 ·intro w'
  go_simp
  with_reducible rfl
 rotate_left
 ·simp only [Act.put, List.setIfInBounds_toArray, List.set_cons_zero, List.set_cons_succ, i64_w, i32_w]
  rfl
 refine one_ (i := 11) (N := some 16) #[true,true,true,true,true,true,true,true,true,true,true,true,false] rfl rfl (by kernel_rfl) (by decide) (fun K hK => ?_)
 refine value_ (w1 := ?_) (v := ?_) (by rfl) rfl ?_ ?_
 rotate_left 2
 ·go_simp
  constructor
  ·rfl
  ·rfl
 refine hK.out _ _ ⟨(by go_simp), (by go_simp)⟩ (fun hHeld => ?_)
 clear hK K
 refine norm_ (a' := ?_) ?_ ?_
 rotate_left
 ·show Act.put _ (some 16) _ = _
  simp only [Act.put, List.setIfInBounds_toArray, List.set_cons_zero, List.set_cons_succ, i64_w, i32_w]
  rfl
 refine pure_ (i := 12) (N := some 2) (v := ?_) (a' := ?_) #[true,true,true,true,true,true,true,true,true,true,true,true,true] rfl rfl (by kernel_rfl) (fun _ _ _ h => h) (Or.inl ⟨by rfl, ?_⟩) ?_ ?_
 rotate_left
 ·intro w'
  go_simp
  with_reducible rfl
 rotate_left
 ·simp only [Act.put, List.setIfInBounds_toArray, List.set_cons_zero, List.set_cons_succ, i64_w, i32_w]
  rfl
 refine done_ (by kernel_rfl) ?_
 have HO2 := Lib.hid ho2
 have HB2 := Lib.hid hB2
 clear ho2 hB2
 go_wp2
 go_ret
 refine ⟨_, rfl, HB2.out.size, ⟨.slice (some ⟨gn, 0, none⟩) ls.length cn, ?_, vs, ?_, ?_⟩, HB2.out.alloc HB2.out.size _⟩
 ·show (w2.heap.push _)[w2.heap.size]? = _
  simp
 ·exact (own_base HO2.out (Nat.zero_le _)).alloc _
 ·intro i l hl
  obtain ⟨u, q1, q2⟩ := HR.out i l hl
  exact ⟨u, q1, (own_below q2 HB2.out).alloc _⟩

/-- reticuleref02.Many of what may be. -/
theorem ref_many {n : Nat} (h1 : 1 ≤ n) (h4 : n ≤ 4) : PA.reticuleref02_Many.f 10 n = some (fact n : Int) := by
 have : n = 1 ∨ n = 2 ∨ n = 3 ∨ n = 4 := by omega
 rcases this with rfl | rfl | rfl | rfl <;> decide +kernel
theorem uw {n : Nat} (h : (n : Int) < 18446744073709551616) : IntKind.u64.wrap (n : Int) = n := by
 rw [IntKind.wrap_u64]; omega
theorem from_l1 : ∀ (r kk : Nat) (left out : List Int) (k : Nat), left.length = r → r ≤ 4 → kk < fact r → out.length + r ≤ 16 → r < k → PA.reticuleref02_From.l1 k kk (fact r) left out = some (out ++ ordF r kk left, 0) := by
 intro r
 induction r with
 | zero =>
  intro kk left out k hl _ _ _ hk
  obtain ⟨k, rfl⟩ : ∃ k', k = k' + 1 := ⟨k - 1, by omega⟩
  obtain rfl : left = [] := List.length_eq_zero_iff.1 hl
  simp [PA.reticuleref02_From.l1, ordF]
 | succ r ih =>
  intro kk left out k hl h4 hkk ho hk
  obtain ⟨k, rfl⟩ : ∃ k', k = k' + 1 := ⟨k - 1, by omega⟩
  have hf : fact (r + 1) ≤ 24 := fact_mono h4
  have hfr : fact r ≤ 24 := fact_mono (show r ≤ 4 by omega)
  have e1 : IntKind.u64.wrap (left.length : Int) = ((r + 1 : Nat) : Int) := by rw [uw (by omega), hl]
  have e2 : Int.tdiv ((fact (r + 1) : Nat) : Int) ((r + 1 : Nat) : Int) = (fact r : Int) := by
   rw [Int.tdiv_eq_ediv_of_nonneg (by omega), ← Int.natCast_ediv]
   congr 1
   show (r + 1) * fact r / (r + 1) = fact r
   exact Nat.mul_div_cancel_left _ (Nat.succ_pos r)
  have e3 : IntKind.u64.wrap (fact r : Int) = fact r := uw (by omega)
  have hfp := fact_pos r
  have e4 : Int.tdiv (kk : Int) (fact r : Int) = ((kk / fact r : Nat) : Int) := by
   rw [Int.tdiv_eq_ediv_of_nonneg (by omega), ← Int.natCast_ediv]
  have e5 : Int.tmod (kk : Int) (fact r : Int) = ((kk % fact r : Nat) : Int) := by
   rw [Int.tmod_eq_emod_of_nonneg (by omega), ← Int.natCast_emod]
  have hj : kk / fact r < r + 1 := div_lt hkk
  obtain ⟨j, hjd⟩ : ∃ j, j = kk / fact r := ⟨_, rfl⟩
  rw [← hjd] at hj e4
  have e6 : IntKind.u64.wrap (j : Int) = j := uw (by omega)
  have e7 : IntKind.u64.wrap ((j : Int) + 1) = ((j + 1 : Nat) : Int) := by rw [show (j : Int) + 1 = ((j + 1 : Nat) : Int) by omega]; exact uw (by omega)
  have hjl : j < left.length := by omega
  have hc : left.eraseIdx j = left.take j ++ left.drop (j + 1) := List.eraseIdx_eq_take_drop_succ ..
  rw [PA.reticuleref02_From.l1]
  simp only [e1, e2, e3, e4, e5, e6, e7, Option.bind_some, List.nil_append, Int.toNat_natCast]
  have hnat : ((r + 1 : Nat) : Int) ≠ 0 := by omega
  have hfz : ¬ ((fact r : Int) = 0) := by omega
  simp only [hl]
  rw [if_pos (by omega), if_neg hnat, if_neg hfz, if_pos (by omega), if_pos (by omega), if_pos (by omega), if_pos (by omega), if_pos (by simp; omega), if_pos (by omega), if_pos (by omega), if_pos (by simp; omega)]
  rw [← hc]
  have := ih (kk % fact r) (left.eraseIdx j) (out ++ [rd left j]) k (by rw [List.length_eraseIdx, if_pos hjl]; omega) (by omega) (Nat.mod_lt _ hfp) (by simp; omega) (by omega)
  rw [this, ordF, ← hjd, List.append_assoc]
  rfl
theorem from_l0 (n kk : Nat) (h1 : 1 ≤ n) (h4 : n ≤ 4) (hk : kk < fact n) : ∀ (d i k : Nat), i + d = n → d + n < k → PA.reticuleref02_From.l0 (k + 1) n kk (fact n) (upto i) i = some (ordF n kk (upto n), 0) := by
 intro d
 induction d with
 | zero =>
  intro i k hi hd
  obtain rfl : i = n := by omega
  rw [PA.reticuleref02_From.l0, if_neg (by omega)]
  have := from_l1 i kk (upto i) [] k (by simp [upto]) h4 hk (by simp; omega) (by omega)
  rw [this]; rfl
 | succ d ih =>
  intro i k hi hd
  obtain ⟨k, rfl⟩ : ∃ k', k = k' + 1 := ⟨k - 1, by omega⟩
  rw [PA.reticuleref02_From.l0, if_pos (by omega), if_pos (by simp [upto]; omega)]
  have e : wrap64 ((i : Int) + 1) = ((i + 1 : Nat) : Int) := wrap_one i (by omega)
  rw [e, ← upto_snoc]
  exact ih (i + 1) k (by omega) (by omega)

theorem ref_from {n k : Nat} (h1 : 1 ≤ n) (h4 : n ≤ 4) : PA.reticuleref02_From.f 10 n k = some (ord n k, 0) := by
 have hp := fact_pos n
 unfold PA.reticuleref02_From.f
 rw [ref_many h1 h4, Option.bind_some, if_neg (by omega)]
 have e : Int.tmod (k : Int) (fact n : Int) = ((k % fact n : Nat) : Int) := by
  rw [Int.tmod_eq_emod_of_nonneg (by omega), ← Int.natCast_emod]
 rw [e]
 exact from_l0 n (k % fact n) h1 h4 (Nat.mod_lt _ hp) n 0 9 (by omega) (by omega)
end Go.Proofs.Ytdohoajphknciaa.Agg
