/- Plain laws of a graph's bytes: what the code's and the document's Encode and Decode compute is the same. -/
import Derived.Test.YtkpaefeaplgnmaaPBx1
set_option linter.unusedSimpArgs false
set_option linter.unusedVariables false
namespace Go.Proofs.Ytkpaefeaplgnmaa.By
open Go.RowKit Go.Proofs.Ytkpaefeaplgnmaa.PA Go.Proofs.Ytkpaefeaplgnmaa.PB Go.Proofs.Ytkpaefeaplgnmaa.G Go.Proofs.Ytkpaefeaplgnmaa.Pl Go.Proofs.YtkpaefeaplgnmaaW.PrintWords Go.Proofs.YtkpaefeaplgnmaaW.PrintLast Go.Proofs.YtkpaefeaplgnmaaW.PrintMore

/-- Two bytes for each edge. -/
def flat : List S53 → List Int
  | [] => []
  | e :: l => e.f0 % 256 :: e.f1 % 256 :: flat l
/-- The edges that bytes say. -/
def edl : List Int → List S53
  | a :: b :: r => ⟨a, b⟩ :: edl r
  | _ => []
def Byt (b : List Int) : Prop := ∀ x ∈ b, 0 ≤ x ∧ x < 256
def enc (n : Int) (l : List S53) : List Int := n % 256 :: (l.length : Int) % 256 :: flat l
theorem flat_len : ∀ l : List S53, (flat l).length = 2 * l.length
  | [] => rfl
  | e :: l => by simp [flat, flat_len l]; omega
theorem edl_flat : ∀ l : List S53, (∀ e ∈ l, 0 ≤ e.f0 ∧ e.f0 < 256 ∧ 0 ≤ e.f1 ∧ e.f1 < 256) → edl (flat l) = l
  | [], _ => rfl
  | e :: l, h => by
    have he := h e List.mem_cons_self
    rw [flat, edl, edl_flat l (fun x hx => h x (List.mem_cons_of_mem _ hx)), Int.emod_eq_of_lt he.1 he.2.1, Int.emod_eq_of_lt he.2.2.1 he.2.2.2]
theorem flat_edl : ∀ (m : Nat) (r : List Int), r.length = 2 * m → Byt r → flat (edl r) = r ∧ (edl r).length = m
  | 0, r, h, _ => by
    have : r = [] := List.length_eq_zero_iff.1 (by omega)
    subst this
    exact ⟨rfl, rfl⟩
  | m + 1, [], h, _ => by simp at h
  | m + 1, [a], h, _ => by have h' : 1 = 2 * (m + 1) := h; omega
  | m + 1, a :: b :: r, h, hb => by
    have ha := hb a (by simp)
    have hc := hb b (by simp)
    have ih := flat_edl m r (by simp at h; omega) (fun x hx => hb x (by simp [hx]))
    rw [edl, flat, ih.1, Int.emod_eq_of_lt ha.1 ha.2, Int.emod_eq_of_lt hc.1 hc.2]
    exact ⟨rfl, by simp [ih.2]⟩
theorem rd_at {b : List Int} {i : Nat} (hi : i < b.length) : rd b (i : Int) = b[i] := by simp [rd, hi]
theorem rdT_at {l : List S53} {i : Nat} (hi : i < l.length) : rd_T53 l (i : Int) = l[i] := by simp [rd_T53, hi]
theorem wsm {x : Int} (h0 : -1000000 ≤ x) (h1 : x ≤ 1000000) : wrap64 x = x := by unfold wrap64; omega

theorem ref_chk (n : Int) (l : List S53) (hl : l.length ≤ 100) : ∃ k, reticuleref03_Check.f k n l = some (chk n l) := by
  have loop : ∀ (d k i : Nat), l.length - i = d → i ≤ l.length → i ≤ bad n l → d < k → reticuleref03_Check.l0 k n l (i : Int) = some (if bad n l < l.length then ((bad n l : Int), 11) else (0, 0)) := by
    intro d
    induction d with
    | zero =>
      intro k i h0 h1 hb h2
      obtain ⟨k, rfl⟩ : ∃ m, k = m + 1 := ⟨k - 1, by omega⟩
      simp only [reticuleref03_Check.l0]
      rw [if_neg (by omega), if_neg (by omega)]
    | succ d ih =>
      intro k i h0 h1 hb h2
      obtain ⟨k, rfl⟩ : ∃ m, k = m + 1 := ⟨k - 1, by omega⟩
      have hi : i < l.length := by omega
      simp only [reticuleref03_Check.l0]
      rw [if_pos (by omega), if_pos (by omega), rdT_at hi, (wsm (by omega) (by omega)), (show ((i : Int) + 1) = ((i + 1 : Nat) : Int) by omega)]
      cases hf : fit n l[i] with
      | false =>
        have hbd := bad_at hi hb hf
        rw [hbd, if_pos hi]
        unfold fit at hf
        by_cases c1 : l[i].f0 < 0
        · rw [if_pos c1]
        · rw [if_neg c1]
          by_cases c2 : l[i].f0 ≥ n
          · rw [if_pos c2]
          · rw [if_neg c2]
            by_cases c3 : l[i].f1 < 0
            · rw [if_pos c3]
            · rw [if_neg c3]
              by_cases c4 : l[i].f1 ≥ n
              · rw [if_pos c4]
              · simp only [Bool.and_eq_false_iff, decide_eq_false_iff_not] at hf
                omega
      | true =>
        have hbd := bad_past hi hb hf
        simp only [fit, Bool.and_eq_true, decide_eq_true_eq] at hf
        rw [if_neg (by omega), if_neg (by omega), if_neg (by omega), if_neg (by omega)]
        exact ih k (i + 1) (by omega) (by omega) hbd (by omega)
  refine ⟨l.length + 1 + 1, ?_⟩
  have hl0 := loop l.length (l.length + 1) 0 (by omega) (by omega) (by omega) (by omega)
  unfold reticuleref03_Check.f chk
  generalize l.length + 1 = F at hl0 ⊢
  by_cases c1 : n < 1
  · rw [if_pos c1, if_pos (.inl c1)]
    simp only [reticuleref03_Check.j0]
    rfl
  · rw [if_neg c1]
    by_cases c2 : n > 12
    · rw [if_pos c2, if_pos (.inr (.inl c2))]
      simp only [reticuleref03_Check.j0]
      rfl
    · rw [if_neg c2]
      simp only [reticuleref03_Check.j0]
      by_cases c3 : (l.length : Int) > 30
      · rw [if_pos (by simpa using c3), if_pos (by omega)]
      · rw [if_neg (by simpa using c3), if_neg (by omega)]
        exact hl0

def okB (b : Bool) (gr k : Nat) : Prop := b = true → k ≠ gr
theorem C_take {w : World} {A : Option Addr} {l : List S53} (h : Kd.C k53 w A l.length l) : Kd.C k53 w A (l.take 32).length (l.take 32) := by
  refine ⟨rfl, Nat.le_trans (by simp; omega) h.2.1, fun hp => ?_⟩
  obtain ⟨ad, rfl, hc⟩ := h.2.2 (by simp at hp; omega)
  refine ⟨ad, rfl, fun j p hj => hc j p ?_⟩
  rw [List.getElem?_take] at hj
  split at hj
  · exact hj
  · cases hj

/-! ### Encode -/
theorem enc_l (l : List S53) (hl : l.length ≤ 100) : ∀ (d i k : Nat) (x8 : List Int), i + d = l.length → d < k → x8.length ≤ 1000 + 2 * i → graph_Encode.l0 k x8 l (l.length : Int) (i : Int) = some (x8 ++ flat (l.drop i), 0)
  | 0, i, k, x8, h, hk, _ => by
    obtain ⟨k, rfl⟩ : ∃ m, k = m + 1 := ⟨k - 1, by omega⟩
    obtain rfl : i = l.length := by omega
    simp only [graph_Encode.l0]
    rw [if_neg (Int.lt_irrefl _), List.drop_length]
    simp [flat]
  | d + 1, i, k, x8, h, hk, hx => by
    obtain ⟨k, rfl⟩ : ∃ m, k = m + 1 := ⟨k - 1, by omega⟩
    have hi : i < l.length := by omega
    simp only [graph_Encode.l0]
    rw [if_pos (by omega), if_pos (by omega), if_pos (by omega), Option.bind_some, if_pos (by simp; omega), wsm (by omega) (by omega), rdT_at hi,
      show ((i : Int) + 1) = ((i + 1 : Nat) : Int) by omega, enc_l l hl d (i + 1) k _ (by omega) (by omega) (by simp; omega), List.drop_eq_getElem_cons hi]
    simp [flat]
theorem renc_l (l : List S53) (hl : l.length ≤ 100) : ∀ (d i k : Nat) (x8 : List Int), i + d = l.length → d < k → x8.length ≤ 1000 + 2 * i → reticuleref03_Encode.l0 k l x8 (i : Int) = some (x8 ++ flat (l.drop i), 0)
  | 0, i, k, x8, h, hk, _ => by
    obtain ⟨k, rfl⟩ : ∃ m, k = m + 1 := ⟨k - 1, by omega⟩
    obtain rfl : i = l.length := by omega
    simp only [reticuleref03_Encode.l0]
    rw [if_neg (Int.lt_irrefl _), List.drop_length]
    simp [flat]
  | d + 1, i, k, x8, h, hk, hx => by
    obtain ⟨k, rfl⟩ : ∃ m, k = m + 1 := ⟨k - 1, by omega⟩
    have hi : i < l.length := by omega
    simp only [reticuleref03_Encode.l0]
    rw [if_pos (by omega), if_pos (by omega), Option.bind_some, if_pos (by simp; omega), wsm (by omega) (by omega), rdT_at hi,
      show ((i : Int) + 1) = ((i + 1 : Nat) : Int) by omega, renc_l l hl d (i + 1) k _ (by omega) (by omega) (by simp; omega), List.drop_eq_getElem_cons hi]
    simp [flat]
def encs (n : Int) (l : List S53) : List Int × Int := if (chk n l).2 = 0 then (enc n l, 0) else ([], (chk n l).2)
theorem enc_f (n : Int) (l : List S53) (hl : l.length ≤ 100) (k : Nat) (hk : 101 ≤ k) : graph_Encode.f k n l = some (encs n l) := by
  unfold graph_Encode.f graph_Check.f encs
  rw [if_pos hl, Option.bind_some]
  split
  · rw [wsm (x := 2 * (l.length : Int)) (by omega) (by omega), wsm (by omega) (by omega), if_pos (by omega), if_pos (by omega), Option.bind_some, Option.bind_some, if_pos (by simp)]
    rw [show (0 : Int) = ((0 : Nat) : Int) from rfl, enc_l l hl l.length 0 k _ (by omega) (by omega) (by simp)]
    simp [enc]
  · rfl
theorem renc_f (n : Int) (l : List S53) (hl : l.length ≤ 100) : ∃ K, ∀ k, K ≤ k → reticuleref03_Encode.f k n l = some (encs n l) := by
  obtain ⟨K, hK⟩ := ref_chk n l hl
  have up : ∀ d, reticuleref03_Check.f (K + d) n l = some (chk n l) := by
    intro d
    induction d with
    | zero => exact hK
    | succ d ih => exact reticuleref03_Check.mono n l (K + d) _ ih
  refine ⟨K + 101, fun k hk => ?_⟩
  unfold reticuleref03_Encode.f encs
  rw [show k = K + (k - K) by omega, up, Option.bind_some]
  split
  · rw [show (0 : Int) = ((0 : Nat) : Int) from rfl, renc_l l hl l.length 0 _ _ (by omega) (by omega) (by simp)]
    simp [enc]
  · rfl

/-! ### Decode -/
abbrev D := Int × List S53 × Int × Int
/-- What follows, from byte i on. -/
def tl (b : List Int) (N : Int) : Nat → Nat → D
  | 0, i => if i < b.length then (0, [], (i : Int), 3) else (N, edl (b.drop 2), 0, 0)
  | d + 1, i => if b.length ≤ i then (0, [], (b.length : Int), 3) else if N ≤ rd b (i : Int) then (0, [], (i : Int), 3) else tl b N d (i + 1)
def dec (b : List Int) : D := if b.length < 1 then (0, [], 0, 3) else if rd b 0 < 1 ∨ 12 < rd b 0 then (0, [], 0, 3) else if b.length < 2 then (0, [], 1, 3) else if 30 < rd b 1 then (0, [], 1, 3) else tl b (rd b 0) (2 * (rd b 1).toNat) 2

theorem byt_rd {b : List Int} (h : Byt b) (i : Int) : 0 ≤ rd b i ∧ rd b i < 256 := by
  unfold rd
  by_cases hi : i.toNat < b.length
  · rw [List.getD_eq_getElem?_getD, List.getElem?_eq_getElem hi]
    exact h _ (List.getElem_mem hi)
  · rw [List.getD_eq_getElem?_getD, List.getElem?_eq_none (by omega)]
    decide
theorem edl_two {b : List Int} {i : Nat} (hi : i + 1 < b.length) : edl (b.drop i) = ⟨b[i], b[i + 1]⟩ :: edl (b.drop (i + 2)) := by
  rw [List.drop_eq_getElem_cons (by omega), List.drop_eq_getElem_cons (by omega)]
  rfl
/-- The second loop of the code. -/
theorem dec_l1 (b : List Int) (hb : Byt b) (m : Nat) (hm : m ≤ 40) (hl : b.length = 2 + 2 * m) : ∀ (d j k : Nat) (x8 : List S53), j + d = m → d < k → x8.length ≤ 100 + j → x8 ++ edl (b.drop (2 + 2 * j)) = edl (b.drop 2) → graph_Decode.l1 k b x8 ((2 + 2 * j : Nat) : Int) = some (rd b 0, edl (b.drop 2), 0, 0)
  | 0, j, k, x8, h, hk, _, he => by
    obtain ⟨k, rfl⟩ : ∃ m, k = m + 1 := ⟨k - 1, by omega⟩
    have h0 := byt_rd hb 0
    simp only [graph_Decode.l1]
    rw [if_neg (by omega), if_pos (by omega), wsm (by omega) (by omega)]
    rw [List.drop_eq_nil_of_le (show b.length ≤ 2 + 2 * j by omega)] at he
    rw [← he]
    simp [edl]
  | d + 1, j, k, x8, h, hk, hx, he => by
    obtain ⟨k, rfl⟩ : ∃ m, k = m + 1 := ⟨k - 1, by omega⟩
    have h1 := byt_rd hb ((2 + 2 * j : Nat) : Int)
    have h2 := byt_rd hb ((2 + 2 * j + 1 : Nat) : Int)
    have w1 : wrap64 (((2 + 2 * j : Nat) : Int) + 1) = ((2 + 2 * j + 1 : Nat) : Int) := by rw [wsm (by omega) (by omega)]; omega
    have w2 : wrap64 (((2 + 2 * j : Nat) : Int) + 2) = ((2 + 2 * (j + 1) : Nat) : Int) := by rw [wsm (by omega) (by omega)]; omega
    simp only [graph_Decode.l1, w1, w2]
    rw [if_pos (by omega), if_pos (by omega), if_pos (by omega), if_pos (by omega), if_pos (by omega), wsm (x := rd b _) (by omega) (by omega), wsm (x := rd b _) (by omega) (by omega)]
    refine dec_l1 b hb m hm hl d (j + 1) k _ (by omega) (by omega) (by simp; omega) ?_
    rw [rd_at (by omega), rd_at (by omega)]
    rw [edl_two (by omega)] at he
    rw [List.append_assoc, ← he]
    rfl
theorem lim_hi {b : List Int} (h0 : 0 < b.length) {i : Nat} (hi : 2 ≤ i) (hb : Byt b) : graph_limits.f b (i : Int) = some (rd b 0) := by
  have := byt_rd hb 0
  unfold graph_limits.f
  rw [if_neg (by omega), if_neg (by omega), if_pos (by omega), wsm (by omega) (by omega)]
theorem whole_hi {b : List Int} (h0 : 2 ≤ b.length) {m : Nat} (hm : rd b 1 = (m : Int)) (h : m ≤ 1000) : graph_whole.f b = some ((2 + 2 * m : Nat) : Int) := by
  unfold graph_whole.f
  rw [if_neg (by omega), if_pos (by omega), hm, wsm (x := (m : Int)) (by omega) (by omega), wsm (x := 2 * (m : Int)) (by omega) (by omega), wsm (by omega) (by omega)]
  congr 1
theorem dec_l0 (b : List Int) (hb : Byt b) (m : Nat) (hm : rd b 1 = (m : Int)) (hm30 : m ≤ 30) (h2 : 2 ≤ b.length) : ∀ (d i k : Nat), i + d = 2 + 2 * m → 2 ≤ i → i ≤ b.length → d + 40 < k → graph_Decode.l0 k b b (b.length : Int) (i : Int) = some (tl b (rd b 0) d i)
  | 0, i, k, h, hi2, hi, hk => by
    obtain ⟨k, rfl⟩ : ∃ m, k = m + 1 := ⟨k - 1, by omega⟩
    simp only [graph_Decode.l0, whole_hi h2 hm (by omega), Option.bind_some]
    by_cases hlt : i < b.length
    · rw [if_pos (by omega), if_pos (by omega), if_pos (by omega), if_pos (by omega), if_pos (by omega)]
      simp [tl, hlt]
    · rw [if_neg (by omega), if_neg (by omega)]
      have := dec_l1 b hb m (by omega) (by omega) m 0 k [] (by omega) (by omega) (by simp) (by simp)
      simp only [Nat.mul_zero, Nat.add_zero] at this
      rw [show (2 : Int) = ((2 : Nat) : Int) from rfl, this]
      simp [tl, hlt]
  | d + 1, i, k, h, hi2, hi, hk => by
    obtain ⟨k, rfl⟩ : ∃ m, k = m + 1 := ⟨k - 1, by omega⟩
    have hr := byt_rd hb (i : Int)
    simp only [graph_Decode.l0, whole_hi h2 hm (by omega), Option.bind_some, lim_hi (show 0 < b.length by omega) hi2 hb]
    by_cases hlt : i < b.length
    · rw [if_pos (by omega), if_pos (by omega), if_pos (by omega), if_pos (by omega), if_neg (by omega), wsm (x := rd b _) (by omega) (by omega)]
      by_cases hN : rd b 0 ≤ rd b (i : Int)
      · rw [if_pos (by omega)]
        simp [tl, hN, show ¬ b.length ≤ i by omega]
      · rw [if_neg (by omega), if_neg (by omega), wsm (by omega) (by omega), show ((i : Int) + 1) = ((i + 1 : Nat) : Int) by omega, dec_l0 b hb m hm hm30 h2 d (i + 1) k (by omega) (by omega) (by omega) (by omega)]
        simp only [tl, show ¬ b.length ≤ i by omega, hN, if_false]
    · rw [if_neg (by omega), if_pos (by omega)]
      simp [tl, show b.length ≤ i by omega]
theorem rdec_l0 (b : List Int) (hb : Byt b) (m : Nat) (hm30 : m ≤ 30) (h2 : 2 ≤ b.length) : ∀ (d i k : Nat) (x8 : List S53), i + d = 2 + 2 * m → 2 ≤ i → i ≤ b.length → d < k → x8.length ≤ 100 + i → x8 ++ edl (b.drop (i - i % 2)) = edl (b.drop 2) → reticuleref03_Decode.l0 k b (rd b 0) (m : Int) x8 (i : Int) = some (tl b (rd b 0) d i)
  | 0, i, k, x8, h, hi2, hi, hk, hx, he => by
    obtain ⟨k, rfl⟩ : ∃ m, k = m + 1 := ⟨k - 1, by omega⟩
    simp only [reticuleref03_Decode.l0]
    rw [wsm (x := 2 * (m : Int)) (by omega) (by omega), wsm (x := 2 + 2 * (m : Int)) (by omega) (by omega), if_neg (by omega)]
    by_cases hlt : i < b.length
    · rw [if_pos (by omega)]
      simp only [tl, hlt, if_true]
      rw [show 2 + 2 * (m : Int) = (i : Int) by omega]
    · rw [if_neg (by omega)]
      rw [show i - i % 2 = b.length by omega, List.drop_length] at he
      simp only [tl, hlt, if_false]
      rw [← he]
      simp [edl]
  | d + 1, i, k, x8, h, hi2, hi, hk, hx, he => by
    obtain ⟨k, rfl⟩ : ∃ m, k = m + 1 := ⟨k - 1, by omega⟩
    have hr := byt_rd hb (i : Int)
    have hr1 := byt_rd hb ((i - 1 : Nat) : Int)
    simp only [reticuleref03_Decode.l0]
    rw [wsm (x := 2 * (m : Int)) (by omega) (by omega), wsm (x := 2 + 2 * (m : Int)) (by omega) (by omega), if_pos (by omega)]
    by_cases hlt : i < b.length
    · rw [if_neg (by omega), if_pos (by omega), if_pos (by omega), wsm (x := rd b _) (by omega) (by omega)]
      by_cases hN : rd b 0 ≤ rd b (i : Int)
      · rw [if_pos (by omega)]
        simp [tl, hN, show ¬ b.length ≤ i by omega]
      · rw [if_neg (by omega)]
        have ht : tl b (rd b 0) (d + 1) i = tl b (rd b 0) d (i + 1) := by simp only [tl, show ¬ b.length ≤ i by omega, hN, if_false]
        rw [ht, wsm (x := (i : Int) + 1) (by omega) (by omega), show ((i : Int) + 1) = ((i + 1 : Nat) : Int) by omega]
        have hmod : Int.tmod (i : Int) 2 = ((i % 2 : Nat) : Int) := by rw [Int.tmod_eq_emod_of_nonneg (by omega)]; omega
        rw [hmod]
        by_cases hodd : i % 2 = 1
        · rw [if_pos (by omega), wsm (x := (i : Int) - 1) (by omega) (by omega), if_pos (by omega), if_pos (by omega), if_pos (by omega), show ((i : Int) - 1) = ((i - 1 : Nat) : Int) by omega, wsm (x := rd b ((i - 1 : Nat) : Int)) (by omega) (by omega)]
          refine rdec_l0 b hb m hm30 h2 d (i + 1) k _ (by omega) (by omega) (by omega) (by omega) (by simp; omega) ?_
          rw [hodd, edl_two (by omega)] at he
          rw [show (i + 1) - (i + 1) % 2 = i - 1 + 2 by omega, ← he, rd_at (by omega), rd_at (by omega), List.append_assoc]
          simp only [show i - 1 + 1 = i by omega]
          rfl
        · rw [if_neg (by omega)]
          refine rdec_l0 b hb m hm30 h2 d (i + 1) k _ (by omega) (by omega) (by omega) (by omega) (by omega) ?_
          rw [show (i + 1) - (i + 1) % 2 = i - i % 2 by omega]
          exact he
    · rw [if_pos (by omega)]
      simp [tl, show b.length ≤ i by omega]
theorem dec_f (b : List Int) (hb : Byt b) (k : Nat) (hk : 200 ≤ k) : graph_Decode.f k b = some (dec b) := by
  obtain ⟨k, rfl⟩ : ∃ m, k = m + 3 := ⟨k - 3, by omega⟩
  have h0 := byt_rd hb 0
  have h1 := byt_rd hb 1
  unfold graph_Decode.f dec
  by_cases c0 : b.length < 1
  · rw [if_pos c0]
    simp only [graph_Decode.l0]
    rw [if_neg (by omega)]
    simp only [graph_whole.f, show (b.length : Int) < 2 by omega, if_true, Option.bind_some]
    rw [show b.length = 0 by omega]; rfl
  · rw [if_neg c0]
    have e0 : ∀ k, graph_Decode.l0 (k + 1) b b (b.length : Int) 0 = if rd b 0 < 1 ∨ 12 < rd b 0 then some (0, [], 0, 3) else graph_Decode.l0 k b b (b.length : Int) 1 := by
      intro k
      simp only [graph_Decode.l0]
      rw [if_pos (by omega), if_pos (by omega), if_pos (by omega), if_neg (by omega)]
      simp only [graph_limits.f, if_true, Option.bind_some]
      rw [wsm (x := rd b 0) (by omega) (by omega), wsm (x := 0 + 1) (by omega) (by omega)]
      by_cases q : 12 < rd b 0
      · rw [if_pos (by omega), if_pos (Or.inr q)]
      · rw [if_neg (by omega)]
        by_cases q0 : rd b 0 = 0
        · rw [if_pos q0, if_pos (Or.inl (by omega))]
        · rw [if_neg q0, if_neg (by omega)]; rfl
    rw [show k + 3 = (k + 2) + 1 by omega, e0]
    split
    · rfl
    · rename_i hn
      by_cases c1 : b.length < 2
      · rw [if_pos c1]
        simp only [graph_Decode.l0]
        rw [if_neg (by omega)]
        simp only [graph_whole.f, show (b.length : Int) < 2 by omega, if_true, Option.bind_some]
        rw [show b.length = 1 by omega]; rfl
      · rw [if_neg c1]
        have e1 : ∀ k, graph_Decode.l0 (k + 1) b b (b.length : Int) 1 = if 30 < rd b 1 then some (0, [], 1, 3) else graph_Decode.l0 k b b (b.length : Int) 2 := by
          intro k
          simp only [graph_Decode.l0]
          rw [if_pos (by omega), if_pos (by omega), if_pos (by omega), if_neg (by omega)]
          simp only [graph_limits.f, show ¬ (1 : Int) = 0 by omega, if_true, if_false, Option.bind_some]
          rw [wsm (x := rd b 1) (by omega) (by omega), wsm (x := 1 + 1) (by omega) (by omega)]
          by_cases q : 30 < rd b 1
          · rw [if_pos (by omega), if_pos q]
          · rw [if_neg (by omega), if_neg q]; rfl
        rw [show k + 2 = (k + 1) + 1 by omega, e1]
        split
        · rfl
        · rename_i hm
          exact dec_l0 b hb (rd b 1).toNat (by omega) (by omega) (by omega) (2 * (rd b 1).toNat) 2 (k + 1) (by omega) (by omega) (by omega) (by omega)
theorem rdec_f (b : List Int) (hb : Byt b) (k : Nat) (hk : 200 ≤ k) : reticuleref03_Decode.f k b = some (dec b) := by
  obtain ⟨k, rfl⟩ : ∃ m, k = m + 1 := ⟨k - 1, by omega⟩
  have h0 := byt_rd hb 0
  have h1 := byt_rd hb 1
  have hj : ∀ t : Bool, reticuleref03_Decode.j0 (k + 1) b (rd b 0) t = if t = true then some (0, [], 0, 3) else if b.length < 2 then some (0, [], 1, 3) else if 30 < rd b 1 then some (0, [], 1, 3) else some (tl b (rd b 0) (2 * (rd b 1).toNat) 2) := by
    intro t
    simp only [reticuleref03_Decode.j0]
    split
    · rfl
    · by_cases c1 : b.length < 2
      · rw [if_pos (by omega), if_pos c1]
      · rw [if_neg (by omega), if_neg c1, if_pos (by omega), wsm (x := rd b 1) (by omega) (by omega)]
        by_cases q : 30 < rd b 1
        · rw [if_pos (by omega), if_pos q]
        · rw [if_neg (by omega), if_neg q]
          have := rdec_l0 b hb (rd b 1).toNat (by omega) (by omega) (2 * (rd b 1).toNat) 2 k [] (by omega) (by omega) (by omega) (by omega) (by simp) (by simp)
          rw [show (((rd b 1).toNat : Nat) : Int) = rd b 1 by omega] at this
          exact this
  unfold reticuleref03_Decode.f dec
  rw [wsm (x := rd b 0) (by omega) (by omega), hj, hj]
  by_cases c0 : b.length < 1
  · rw [if_pos (by omega), if_pos c0]
  · rw [if_neg (by omega), if_neg c0, if_pos (by omega)]
    by_cases q0 : rd b 0 < 1
    · rw [if_pos q0, if_pos rfl, if_pos (Or.inl q0)]
    · rw [if_neg q0]
      by_cases q1 : 12 < rd b 0
      · rw [if_pos (by simpa using q1), if_pos (Or.inr q1)]
      · rw [if_neg (by simpa using q1), if_neg (show ¬ (rd b 0 < 1 ∨ 12 < rd b 0) by omega)]
        split
        · rfl
        · split <;> rfl
/-! ### Same -/
theorem same_l (l : List S53) (hl : l.length ≤ 1000) : ∀ (d i k : Nat), i + d = l.length → d < k → reticuleref03_SameEdges.l0 k l l (i : Int) = some true
  | 0, i, k, h, hk => by
    obtain ⟨k, rfl⟩ : ∃ m, k = m + 1 := ⟨k - 1, by omega⟩
    simp only [reticuleref03_SameEdges.l0]
    rw [if_neg (by omega)]
  | d + 1, i, k, h, hk => by
    obtain ⟨k, rfl⟩ : ∃ m, k = m + 1 := ⟨k - 1, by omega⟩
    simp only [reticuleref03_SameEdges.l0]
    rw [if_pos (by omega), if_pos (by omega), if_pos (by omega), if_neg (by simp), wsm (by omega) (by omega), show ((i : Int) + 1) = ((i + 1 : Nat) : Int) by omega]
    exact same_l l hl d (i + 1) k (by omega) (by omega)
theorem same_f (l : List S53) (hl : l.length ≤ 1000) (k : Nat) (hk : 1001 < k) : reticuleref03_SameEdges.f k l l = some true := by
  unfold reticuleref03_SameEdges.f
  rw [if_pos rfl]
  exact same_l l hl l.length 0 k (by omega) (by omega)
theorem tl_len (b : List Int) (N : Int) : ∀ d i, (tl b N d i).2.1.length ≤ b.length
  | 0, i => by
    simp only [tl]
    split
    · simp
    · have : ∀ r : List Int, (edl r).length ≤ r.length := by
        intro r
        induction r using edl.induct with
        | case1 a c r ih => simp [edl]; omega
        | case2 r h => simp [edl]
      have h := this (b.drop 2)
      simp at h ⊢; omega
  | d + 1, i => by
    simp only [tl]
    split
    · simp
    · split
      · simp
      · exact tl_len b N d (i + 1)
/-! ### There and back -/
theorem tl_cases (b : List Int) (N : Int) : ∀ d i, (∃ x, tl b N d i = (0, [], x, 3)) ∨ (tl b N d i = (N, edl (b.drop 2), 0, 0) ∧ b.length ≤ i + d ∧ (i ≤ b.length → b.length = i + d) ∧ ∀ j, i ≤ j → j < i + d → rd b (j : Int) < N)
  | 0, i => by
    simp only [tl]
    split
    · exact Or.inl ⟨_, rfl⟩
    · exact Or.inr ⟨rfl, by omega, by omega, fun j h1 h2 => by omega⟩
  | d + 1, i => by
    simp only [tl]
    split
    · exact Or.inl ⟨_, rfl⟩
    · split
      · exact Or.inl ⟨_, rfl⟩
      · rename_i h1 h2
        rcases tl_cases b N d (i + 1) with h | ⟨h, hl, hl2, hj⟩
        · exact Or.inl h
        · refine Or.inr ⟨h, by omega, by omega, fun j q1 q2 => ?_⟩
          rcases Nat.eq_or_lt_of_le q1 with e | q
          · subst e; omega
          · exact hj j (by omega) (by omega)
theorem tl_all (b : List Int) (N : Int) : ∀ d i, b.length = i + d → (∀ j, i ≤ j → j < i + d → rd b (j : Int) < N) → tl b N d i = (N, edl (b.drop 2), 0, 0)
  | 0, i, h, _ => by simp only [tl]; rw [if_neg (by omega)]
  | d + 1, i, h, hj => by
    have := hj i (by omega) (by omega)
    simp only [tl]
    rw [if_neg (by omega), if_neg (by omega)]
    exact tl_all b N d (i + 1) (by omega) (fun j q1 q2 => hj j (by omega) (by omega))
theorem flat_mem {n : Int} : ∀ (l : List S53), (∀ e ∈ l, 0 ≤ e.f0 ∧ e.f0 < n ∧ 0 ≤ e.f1 ∧ e.f1 < n) → n ≤ 256 → ∀ x ∈ flat l, 0 ≤ x ∧ x < n
  | [], _, _, x, hx => by simp [flat] at hx
  | e :: l, h, hn, x, hx => by
    have he := h e List.mem_cons_self
    simp only [flat, List.mem_cons] at hx
    rcases hx with rfl | rfl | hx
    · omega
    · omega
    · exact flat_mem l (fun e q => h e (List.mem_cons_of_mem _ q)) hn x hx
theorem byt_flat : ∀ l : List S53, Byt (flat l)
  | [] => fun x hx => by simp [flat] at hx
  | e :: l => fun x hx => by
    simp only [flat, List.mem_cons] at hx
    rcases hx with rfl | rfl | hx
    · omega
    · omega
    · exact byt_flat l x hx
theorem byt_enc (n : Int) (l : List S53) : Byt (enc n l) := fun x hx => by
  simp only [enc, List.mem_cons] at hx
  rcases hx with rfl | rfl | hx
  · omega
  · omega
  · exact byt_flat l x hx
theorem chk_parts {n : Int} {l : List S53} (h : (chk n l).2 = 0) : 1 ≤ n ∧ n ≤ 12 ∧ l.length ≤ 30 ∧ ∀ e ∈ l, 0 ≤ e.f0 ∧ e.f0 < n ∧ 0 ≤ e.f1 ∧ e.f1 < n := by
  obtain ⟨m, rfl, hf, _⟩ := ok_fits (n := n) (l := l) (by simp [okG, h])
  have := hf.one
  have := hf.top
  exact ⟨by omega, by omega, hf.few, hf.fit⟩
theorem dec_enc {n : Int} {l : List S53} (h : (chk n l).2 = 0) : dec (enc n l) = (n, l, 0, 0) := by
  obtain ⟨h1, h2, h3, h4⟩ := chk_parts h
  have r0 : rd (enc n l) 0 = n := by show n % 256 = n; omega
  have r1 : rd (enc n l) 1 = (l.length : Int) := by show (l.length : Int) % 256 = _; omega
  have hl : (enc n l).length = 2 + 2 * l.length := by simp [enc, flat_len]; omega
  unfold dec
  rw [r0, r1, if_neg (by omega), if_neg (by omega), if_neg (by omega), if_neg (by omega), tl_all _ _ _ _ (by omega)]
  · show (n, edl (flat l), 0, 0) = _
    rw [edl_flat l (fun e he => by have := h4 e he; omega)]
  · intro j q1 q2
    have hj : j < (enc n l).length := by omega
    rw [rd_at hj]
    obtain ⟨j, rfl⟩ : ∃ q, j = q + 2 := ⟨j - 2, by omega⟩
    exact (flat_mem l h4 (by omega) _ (List.getElem_mem (l := flat l) (by rw [flat_len]; omega))).2
theorem bad_none {n : Int} {l : List S53} (h : ∀ e ∈ l, fit n e = true) : bad n l = l.length := by
  unfold bad
  exact List.findIdx_eq_length_of_false (fun e he => by simp [h e he])
theorem edl_mem {N : Int} : ∀ (r : List Int), (∀ x ∈ r, 0 ≤ x ∧ x < N) → ∀ e ∈ edl r, fit N e = true
  | [], _, e, he => by simp [edl] at he
  | [a], _, e, he => by simp [edl] at he
  | a :: b :: r, h, e, he => by
    have ha := h a (by simp)
    have hb := h b (by simp)
    simp only [edl, List.mem_cons] at he
    rcases he with rfl | he
    · simp [fit, ha, hb]
    · exact edl_mem r (fun x hx => h x (by simp [hx])) e he
theorem enc_dec {b : List Int} (hb : Byt b) (h : (dec b).2.2.2 = 0) : (dec b).2.1.length ≤ 30 ∧ encs (dec b).1 (dec b).2.1 = (b, 0) := by
  unfold dec at h ⊢
  split at h
  · exact absurd h (by simp)
  · split at h
    · exact absurd h (by simp)
    · split at h
      · exact absurd h (by simp)
      · split at h
        · exact absurd h (by simp)
        · rename_i c0 c1 c2 c3
          rw [if_neg c0, if_neg c1, if_neg c2, if_neg c3]
          have h1 := byt_rd hb 1
          rcases tl_cases b (rd b 0) (2 * (rd b 1).toNat) 2 with ⟨x, e⟩ | ⟨e, hl, hl2, hj⟩
          · rw [e] at h; exact absurd h (by simp)
          · rw [e]
            have hl3 := hl2 (by omega)
            have hbd : Byt (b.drop 2) := fun x hx => hb x (List.mem_of_mem_drop hx)
            obtain ⟨f1, f2⟩ := flat_edl (rd b 1).toNat (b.drop 2) (by simp; omega) hbd
            have hfit : ∀ e ∈ edl (b.drop 2), fit (rd b 0) e = true := edl_mem _ (fun x hx => by
              obtain ⟨j, hj2, rfl⟩ := List.getElem_of_mem hx
              rw [List.length_drop] at hj2
              have := hj (j + 2) (by omega) (by omega)
              rw [rd_at (by omega)] at this
              rw [List.getElem_drop]
              refine ⟨(hb _ (List.getElem_mem _)).1, ?_⟩
              simpa only [show 2 + j = j + 2 by omega] using this)
            show (edl (b.drop 2)).length ≤ 30 ∧ encs (rd b 0) (edl (b.drop 2)) = (b, 0)
            refine ⟨by omega, ?_⟩
            have hck : chk (rd b 0) (edl (b.drop 2)) = (0, 0) := by
              unfold chk
              rw [if_neg (by omega), bad_none hfit, if_neg (Nat.lt_irrefl _)]
            unfold encs
            rw [hck, if_pos rfl]
            unfold enc
            rw [f1, f2]
            have h0 := byt_rd hb 0
            match b, c0, c2, h0, h1, hl3 with
            | x :: y :: r, _, _, h0, h1, _ =>
              have e0 : rd (x :: y :: r) 0 = x := rfl
              have e1 : rd (x :: y :: r) 1 = y := rfl
              rw [e0] at h0 ⊢
              rw [e1] at h1 ⊢
              rw [Int.emod_eq_of_lt h0.1 h0.2, show ((y.toNat : Nat) : Int) = y by omega, Int.emod_eq_of_lt h1.1 h1.2]
              rfl
            | [], c0, _, _, _, _ => exact absurd (by simp) c0
            | [x], _, c2, _, _, _ => exact absurd (by simp) c2
theorem dec_err {b : List Int} (h : (dec b).2.2.2 ≠ 0) : (dec b).2.1 = [] ∧ (dec b).2.2.2 = 3 := by
  unfold dec at h ⊢
  split
  · exact ⟨rfl, rfl⟩
  · split
    · exact ⟨rfl, rfl⟩
    · split
      · exact ⟨rfl, rfl⟩
      · split
        · exact ⟨rfl, rfl⟩
        · rename_i c0 c1 c2 c3
          rw [if_neg c0, if_neg c1, if_neg c2, if_neg c3] at h
          rcases tl_cases b (rd b 0) (2 * (rd b 1).toNat) 2 with ⟨x, e⟩ | ⟨e, _⟩
          · rw [e]; exact ⟨rfl, rfl⟩
          · rw [e] at h; exact absurd rfl h
theorem few_f (l : List S53) : PB.reticulelaw03_few.f l = some (l.take 32) := by
  unfold PB.reticulelaw03_few.f
  by_cases h : (l.length : Int) > 32
  · rw [if_pos h, if_pos (by omega)]
  · rw [if_neg h, List.take_of_length_le (by omega)]
theorem back_j (b : List Int) (hb : Byt b) : reticulelaw03_GraphBack.j0 1101 b = some true := by
  simp only [reticulelaw03_GraphBack.j0]
  rw [dec_f b hb 1100 (by decide), Option.bind_some]
  by_cases h : (dec b).2.2.2 = 0
  · obtain ⟨h1, h2⟩ := enc_dec hb h
    rw [if_pos h, enc_f _ _ (by omega) 1100 (by decide), h2]
    simp only [Option.bind_some, reticulelaw03_live.f, if_true, beq_self_eq_true]
  · obtain ⟨h1, h2⟩ := dec_err h
    rw [if_neg h]
    simp only [reticulelaw03_live.f, Option.bind_some, if_true, h1, h2, List.length_nil, Int.ofNat_zero, beq_self_eq_true]
theorem back_f (n : Int) (l : List S53) (b : List Int) (hb : Byt b) : reticulelaw03_GraphBack.f 1101 n l b = some true := by
  have hl : (l.take 32).length ≤ 32 := by rw [List.length_take]; omega
  unfold reticulelaw03_GraphBack.f
  rw [few_f, Option.bind_some, enc_f n _ (by omega) 1101 (by decide), Option.bind_some, back_j b hb]
  generalize hL : l.take 32 = L at hl ⊢
  unfold encs
  by_cases h : (chk n L).2 = 0
  · rw [if_pos h]
    show (if (0 : Int) = 0 then (graph_Decode.f 1101 (enc n L)).bind _ else _) = _
    rw [if_pos rfl, dec_f _ (byt_enc n L) 1101 (by decide), dec_enc h]
    simp only [Option.bind_some, if_true]
    rw [same_f L (by omega) 1101 (by decide)]
    rfl
  · rw [if_neg h]
    show (if (chk n L).2 = 0 then _ else _) = _
    rw [if_neg h]
end Go.Proofs.Ytkpaefeaplgnmaa.By
