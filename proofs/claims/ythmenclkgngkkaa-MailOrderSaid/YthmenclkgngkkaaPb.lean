/- Plain facts of messages' bytes. -/
import Derived.Test.YthmenclkgngkkaaPBx1
import Derived.Test.YthmenclkgngkkaaCo
set_option linter.unusedSimpArgs false
set_option linter.unusedVariables false
namespace Go.Proofs.Ythmenclkgngkkaa.M
open Go.RowKit Go.Proofs.Ythmenclkgngkkaa.PA Go.Proofs.Ythmenclkgngkkaa.PB Go.Proofs.Ythmenclkgngkkaa.Dig Go.Proofs.YthmenclkgngkkaaW.PrintWords Go.Proofs.YthmenclkgngkkaaW.PrintMore Go.Proofs.YthmenclkgngkkaaW.PrintLast
def r2 (m : S26) : Prop := -9223372036854775808 ≤ m.f2 ∧ m.f2 ≤ 9223372036854775807
instance (m : S26) : Decidable (r2 m) := by unfold r2; infer_instance
theorem w8 {a : Int} (h0 : 0 ≤ a) (h1 : a < 256) : IntKind.u8.wrap a = a := by
  simp [IntKind.wrap, IntKind.bits, IntKind.signed]; omega
theorem mk_enc (m : S26) (h : wi m) (hr : r2 m) (l : List Int) : mk (enc m ++ l) = m :: mk l := by
  unfold enc bl
  have hj := join_bytes m.f2 hr.1 hr.2
  unfold bl at hj
  show (⟨IntKind.u8.wrap m.f0, IntKind.u8.wrap m.f1, [byt m.f2 0, byt m.f2 1, byt m.f2 2, byt m.f2 3, byt m.f2 4, byt m.f2 5, byt m.f2 6, byt m.f2 7].foldl jst 0⟩ : S26) :: mk l = _
  unfold wi at h
  rw [hj, w8 (by omega) (by omega), w8 (by omega) (by omega)]
theorem mk_flat : ∀ l : List S26, (∀ m ∈ l, wi m) → (∀ m ∈ l, r2 m) → mk (l.flatMap enc) = l
  | [], _, _ => rfl
  | m :: l, h, hr => by
    rw [List.flatMap_cons, mk_enc m (h m (by simp)) (hr m (by simp)), mk_flat l (fun x hx => h x (by simp [hx])) (fun x hx => hr x (by simp [hx]))]
theorem enc_rng (m : S26) : ∀ c ∈ enc m, 0 ≤ c ∧ c < 256 := by
  intro c hc
  unfold enc at hc
  rcases List.mem_cons.1 hc with rfl | hc
  · simp [IntKind.wrap, IntKind.bits, IntKind.signed]; omega
  · rcases List.mem_cons.1 hc with rfl | hc
    · simp [IntKind.wrap, IntKind.bits, IntKind.signed]; omega
    · exact bl_rng _ c hc
theorem flat_rng (l : List S26) : ∀ c ∈ l.flatMap enc, 0 ≤ c ∧ c < 256 := by
  intro c hc
  obtain ⟨m, _, h⟩ := List.mem_flatMap.1 hc
  exact enc_rng m c h
theorem fb_enc (m : S26) (h : wi m) (l : List Int) (i : Nat) (hi : i % 10 = 0) (hl : ∀ c ∈ l, c < 256) : fb (enc m ++ l) i = fb l (i + 10) := by
  unfold wi at h
  have h1 := w8 h.1 (show m.f0 < 256 by omega)
  have h2 := w8 h.2.2.1 (show m.f1 < 256 by omega)
  have he : enc m = m.f0 :: m.f1 :: bl m.f2 := by unfold enc; rw [h1, h2]
  rw [he, List.cons_append, List.cons_append, fb, lm0 hi, if_neg (by omega), fb, lm1 hi, if_neg (by omega), fb_skip 8 (bl m.f2 ++ l) (i + 1 + 1) (fun c hc => by
    rcases List.mem_append.1 hc with hc | hc
    · exact (bl_rng _ c hc).2
    · exact hl c hc) (fun j hj => by omega)]
  rfl
theorem fb_flat : ∀ (l : List S26) (i : Nat), i % 10 = 0 → (∀ m ∈ l, wi m) → fb (l.flatMap enc) i = none
  | [], _, _, _ => rfl
  | m :: l, i, hi, h => by
    rw [List.flatMap_cons, fb_enc m (h m (by simp)) _ i hi (fun c hc => (flat_rng l c hc).2)]
    exact fb_flat l (i + 10) (by omega) (fun x hx => h x (by simp [hx]))
theorem dec_enc (l : List S26) (h : ∀ m ∈ l, wi m) (hr : ∀ m ∈ l, r2 m) (hl : l.length ≤ 1000) : mail_Decode.f (l.flatMap enc) = some (l, 0, 0) := by
  unfold mail_Decode.f
  have hlen := fl_len l
  rw [if_pos ⟨flat_rng l, by omega⟩, fb_flat l 0 rfl h]
  simp only
  rw [if_pos (by omega), mk_flat l h hr]
theorem jst_rng (l : List Int) (x : Int) (h : -9223372036854775808 ≤ x ∧ x ≤ 9223372036854775807) (hl : ∀ b ∈ l, 0 ≤ b ∧ b < 256) : -9223372036854775808 ≤ l.foldl jst x ∧ l.foldl jst x ≤ 9223372036854775807 := by
  induction l generalizing x with
  | nil => exact h
  | cons b l ih =>
    have hb := hl b (by simp)
    refine ih (jst x b) ?_ (fun c hc => hl c (by simp [hc]))
    rw [show jst x b = wrap64 (x * 256 + b) from or_low x b hb.1 hb.2]
    unfold wrap64; omega
theorem enc_mk : ∀ (n : Nat) (l : List Int) (i : Nat), l.length = 10 * n → i % 10 = 0 → (∀ c ∈ l, 0 ≤ c ∧ c < 256) → fb l i = none → (mk l).flatMap enc = l ∧ (∀ m ∈ mk l, wi m) ∧ (∀ m ∈ mk l, r2 m) ∧ (mk l).length = n
  | 0, l, i, hl, _, _, _ => by
    have : l = [] := List.length_eq_zero_iff.1 (by omega)
    subst this
    exact ⟨rfl, by simp [mk], by simp [mk], rfl⟩
  | n + 1, l, i, hl, hi, hc, hf => by
    obtain ⟨t, g, b0, b1, b2, b3, b4, b5, b6, b7, he⟩ := ten l (by omega)
    obtain ⟨r, hr⟩ : ∃ r, r = l.drop 10 := ⟨_, rfl⟩
    have hrl : r.length = 10 * n := by rw [hr, List.length_drop]; omega
    rw [← hr] at he
    subst he
    rw [fb, lm0 hi] at hf
    split at hf
    · cases hf
    · rename_i h12
      rw [fb, lm1 hi] at hf
      split at hf
      · cases hf
      · rename_i h6
        rw [fb_skip 8 _ (i + 1 + 1) (fun c hc' => (hc c (List.mem_cons_of_mem _ (List.mem_cons_of_mem _ hc'))).2) (fun j hj => by omega)] at hf
        have ht := hc t (by simp)
        have hg := hc g (by simp)
        have h8 : ∀ x ∈ [b0, b1, b2, b3, b4, b5, b6, b7], 0 ≤ x ∧ x < 256 := fun x hx => hc x (List.mem_cons_of_mem _ (List.mem_cons_of_mem _ (show x ∈ [b0, b1, b2, b3, b4, b5, b6, b7] ++ r from List.mem_append.2 (.inl hx))))
        obtain ⟨i1, i2, i3, i4⟩ := enc_mk n r (i + 1 + 1 + 8) hrl (by omega) (fun c hc' => hc c (by simp [hc'])) hf
        have hm : mk (t :: g :: b0 :: b1 :: b2 :: b3 :: b4 :: b5 :: b6 :: b7 :: r) = ⟨t, g, [b0, b1, b2, b3, b4, b5, b6, b7].foldl jst 0⟩ :: mk r := rfl
        rw [hm]
        refine ⟨?_, ?_, ?_, by simp [i4]⟩
        · rw [List.flatMap_cons, i1]
          unfold enc
          rw [bytes_join b0 b1 b2 b3 b4 b5 b6 b7 h8, w8 ht.1 ht.2, w8 hg.1 hg.2]
          rfl
        · intro m hm'
          rcases List.mem_cons.1 hm' with rfl | hm'
          · exact ⟨ht.1, by show t < 12; omega, hg.1, by show g < 6; omega⟩
          · exact i2 m hm'
        · intro m hm'
          rcases List.mem_cons.1 hm' with rfl | hm'
          · exact jst_rng _ 0 (by omega) h8
          · exact i3 m hm'
theorem same_l (l : List S26) (hl : l.length ≤ 1000) : ∀ (d i k : Nat), i + d = l.length → d < k → reticuleref21_Same.l0 k l l (i : Int) = some true
  | 0, i, k, h, hk => by
    obtain ⟨k, rfl⟩ : ∃ m, k = m + 1 := ⟨k - 1, by omega⟩
    simp only [reticuleref21_Same.l0]
    rw [if_neg (by omega)]
  | d + 1, i, k, h, hk => by
    obtain ⟨k, rfl⟩ : ∃ m, k = m + 1 := ⟨k - 1, by omega⟩
    simp only [reticuleref21_Same.l0]
    have hw : wrap64 ((i : Int) + 1) = ((i + 1 : Nat) : Int) := by unfold wrap64; omega
    rw [if_pos (by omega), if_pos (by omega), if_pos (by omega), if_neg (by simp), hw]
    exact same_l l hl d (i + 1) k (by omega) (by omega)
theorem same_f (l : List S26) (hl : l.length ≤ 1000) (k : Nat) (hk : 1001 < k) : reticuleref21_Same.f k l l = some true := by
  unfold reticuleref21_Same.f
  rw [if_pos rfl]
  exact same_l l hl l.length 0 k (by omega) (by omega)
theorem same_e (A1 A2 : Option Addr) (c1 c2 : Nat) (l : List S26) (w : World) (h1 : Kd.C k26 w A1 l.length l) (h2 : Kd.C k26 w A2 l.length l) (hc1 : l.length ≤ c1) (hc2 : l.length ≤ c2) (hl : l.length ≤ 1000) : Calls Try.prog 22 #[.slice A1 l.length c1, .slice A2 l.length c2] w fun e w' => e = .returned (.bool true) ∧ Below w.heap.size w w' := by
  refine (reticuleref21_Same.calls 1101 A1 c1 l A2 c2 l true w h1 hc1 h2 hc2 (same_f l hl 1101 (by decide))).mono ?_
  rintro e w' ⟨rfl, hd⟩
  exact ⟨rfl, hd.below⟩
theorem few_ok (A : Option Addr) (c : Nat) (l : List S26) (w : World) (hc : l.length ≤ c) : Calls Try.prog 15 #[.slice A l.length c] w fun e w' => e = .returned (.slice A (l.take 50).length c) ∧ w' = w := by
  obtain ⟨i26, hi26, z26, s26, b26⟩ := info_parts info26
  by_cases h : 50 < l.length
  · have d0 : decide (50 < (l.length : Int)) = true := decide_eq_true (by omega)
    have d1 : decide (50 < l.length) = true := decide_eq_true h
    have e : (l.take 50).length = 50 := by rw [List.length_take]; omega
    have hct := cut_to (P := Try.prog) 22 26 .i64 Try.underlying22 hi26 A l.length c 50 (by decide) (by omega) hc
    rw [e]
    clear e
    go_enter Try.func15, Try.ntmps15
    go_wp2
    go_ret
    exact ⟨rfl, rfl⟩
  · have d0 : decide (50 < (l.length : Int)) = false := decide_eq_false (by omega)
    have d1 : decide (50 < l.length) = false := decide_eq_false h
    have e : (l.take 50).length = l.length := by rw [List.length_take]; omega
    rw [e]
    clear e
    go_enter Try.func15, Try.ntmps15
    go_wp2
    go_ret
    exact ⟨rfl, rfl⟩
theorem C_take26 {w : World} {A : Option Addr} {l : List S26} (n : Nat) (h : Kd.C k26 w A l.length l) : Kd.C k26 w A (l.take n).length (l.take n) := by
  by_cases hn : n ≤ l.length
  · exact Kd.C_take h hn
  · rw [List.take_of_length_le (by omega)]; exact h
theorem C_takeB {w : World} {A : Option Addr} {l : List Int} (n : Nat) (h : Kd.C kb w A l.length l) : Kd.C kb w A (l.take n).length (l.take n) := by
  by_cases hn : n ≤ l.length
  · exact Kd.C_take h hn
  · rw [List.take_of_length_le (by omega)]; exact h
theorem live_comb : mail_Combined.f [⟨1, 0, 3⟩, ⟨0, 0, 9⟩, ⟨1, 0, 4⟩] [1] = some ([⟨0, 0, 9⟩, ⟨1, 0, 7⟩], 0) := by
  unfold mail_Combined.f
  rw [if_pos (by decide), if_pos (by decide), if_pos (by decide)]
  have h1 : comb [1] [⟨1, 0, 3⟩, ⟨0, 0, 9⟩, ⟨1, 0, 4⟩] = [⟨1, 0, 7⟩, ⟨0, 0, 9⟩] := by simp [comb, addm, same, red, opOf, wrap64]
  rw [h1, sort_perm (List.Perm.swap _ _ _), List.mergeSort_of_pairwise (by simp [le, ltOc])]
theorem live_yes : reticulelaw21_live.f 30 = some true := by
  unfold reticulelaw21_live.f
  simp only [Option.bind_some]
  rw [live_comb]
  decide +kernel
theorem live_ok (w : World) : Calls Try.prog 21 #[] w fun e w' => e = .returned (.bool true) ∧ Below w.heap.size w w' := reticulelaw21_live.calls 30 true w live_yes
/-- The calls, as readings. -/
theorem enc_ok (A : Option Addr) (c : Nat) (l : List S26) (r1 : List Int) (r2 : Int) (w : World) (hr : Kd.C k26 w A l.length l) (hc : l.length ≤ c) (h : mail_Encode.f l = some (r1, r2)) : Calls Try.prog 11 #[.slice A l.length c] w fun e w' => ∃ V cv, e = .returned (.tuple #[.slice V r1.length cv, .int .i64 r2]) ∧ Kd.C kb w' V r1.length r1 ∧ r1.length ≤ cv ∧ Below w.heap.size w w' := by
  refine (mail_Encode.calls A c l r1 r2 w hr hc h).mono ?_
  rintro e w' ⟨v, rfl, hR, hb⟩
  obtain ⟨V, cv, rfl, h1, h2⟩ := Kd.R_reads hR
  exact ⟨V, cv, rfl, h2, h1, hb⟩
theorem renc_ok (A : Option Addr) (c : Nat) (l : List S26) (r1 : List Int) (r2 : Int) (w : World) (hr : Kd.C k26 w A l.length l) (hc : l.length ≤ c) (h : mail_Encode.f l = some (r1, r2)) : Calls Try.prog 23 #[.slice A l.length c] w fun e w' => ∃ V cv, e = .returned (.tuple #[.slice V r1.length cv, .int .i64 r2]) ∧ Kd.C kb w' V r1.length r1 ∧ r1.length ≤ cv ∧ Below w.heap.size w w' := by
  refine (reticuleref21_Encode.calls A c l r1 r2 w hr hc h).mono ?_
  rintro e w' ⟨v, rfl, hR, hb⟩
  obtain ⟨V, cv, rfl, h1, h2⟩ := Kd.R_reads hR
  exact ⟨V, cv, rfl, h2, h1, hb⟩
theorem dec_ok (A : Option Addr) (c : Nat) (l : List Int) (r1 : List S26) (r2 r3 : Int) (w : World) (hr : Kd.C kb w A l.length l) (hc : l.length ≤ c) (h : mail_Decode.f l = some (r1, r2, r3)) : Calls Try.prog 12 #[.slice A l.length c] w fun e w' => ∃ V cv, e = .returned (.tuple #[.slice V r1.length cv, .int .i64 r2, .int .i64 r3]) ∧ Kd.C k26 w' V r1.length r1 ∧ r1.length ≤ cv ∧ Below w.heap.size w w' := by
  refine (mail_Decode.calls A c l r1 r2 r3 w hr hc h).mono ?_
  rintro e w' ⟨v, rfl, hR, hb⟩
  obtain ⟨V, cv, rfl, h1, h2⟩ := Kd.R_reads hR
  exact ⟨V, cv, rfl, h2, h1, hb⟩
theorem rdec_ok (A : Option Addr) (c : Nat) (l : List Int) (r1 : List S26) (r2 r3 : Int) (w : World) (hr : Kd.C kb w A l.length l) (hc : l.length ≤ c) (h : mail_Decode.f l = some (r1, r2, r3)) : Calls Try.prog 24 #[.slice A l.length c] w fun e w' => ∃ V cv, e = .returned (.tuple #[.slice V r1.length cv, .int .i64 r2, .int .i64 r3]) ∧ Kd.C k26 w' V r1.length r1 ∧ r1.length ≤ cv ∧ Below w.heap.size w w' := by
  refine (reticuleref21_Decode.calls A c l r1 r2 r3 w hr hc h).mono ?_
  rintro e w' ⟨v, rfl, hR, hb⟩
  obtain ⟨V, cv, rfl, h1, h2⟩ := Kd.R_reads hR
  exact ⟨V, cv, rfl, h2, h1, hb⟩
/-- What Encode says of messages whose values are values. -/
theorem enc_told (x : List S26) (hr : ∀ m ∈ x, r2 m) (hl : x.length ≤ 50) : ∃ ex ee, mail_Encode.f x = some (ex, ee) ∧ (ee = 0 ∨ ee = 2) ∧ (ee = 0 → mail_Decode.f ex = some (x, 0, 0)) := by
  unfold mail_Encode.f
  rw [if_pos ⟨hr, by omega⟩]
  by_cases h : ∀ m ∈ x, wi m
  · rw [if_pos h]
    exact ⟨_, _, rfl, .inl rfl, fun _ => dec_enc x h hr (by omega)⟩
  · rw [if_neg h]
    exact ⟨_, _, rfl, .inr rfl, fun e => by cases e⟩
theorem dec_told (y : List Int) (hr : ∀ c ∈ y, 0 ≤ c ∧ c < 256) (hl : y.length ≤ 200) : ∃ dm di de, mail_Decode.f y = some (dm, di, de) ∧ (de = 0 ∨ de = 3) ∧ dm.length ≤ 200 ∧ (de = 0 → mail_Encode.f dm = some (y, 0)) := by
  unfold mail_Decode.f
  rw [if_pos ⟨hr, by omega⟩]
  cases hf : fb y 0 with
  | some i => exact ⟨_, _, _, rfl, .inr rfl, by simp, fun e => by cases e⟩
  | none =>
    simp only
    by_cases hm : y.length % 10 = 0
    · rw [if_pos hm]
      obtain ⟨h1, h2, h3, h4⟩ := enc_mk (y.length / 10) y 0 (by omega) rfl hr hf
      refine ⟨_, _, _, rfl, .inl rfl, by omega, fun _ => ?_⟩
      unfold mail_Encode.f
      rw [if_pos ⟨h3, by omega⟩, if_pos h2, h1]
    · rw [if_neg hm]
      exact ⟨_, _, _, rfl, .inr rfl, by simp, fun e => by cases e⟩
end Go.Proofs.Ythmenclkgngkkaa.M
