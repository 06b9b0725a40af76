/- The reference's order of messages is the program's: plain. -/
import Derived.Test.YthmenclkgngkkaaPo
import Derived.Test.YthmenclkgngkkaaPDx2
set_option linter.unusedSimpArgs false
set_option linter.unusedVariables false
namespace Go.Proofs.Ythmenclkgngkkaa.M
open Go.RowKit Go.Proofs.Ythmenclkgngkkaa.Perm Go.Proofs.Ythmenclkgngkkaa.PA Go.Proofs.Ythmenclkgngkkaa.PB Go.Proofs.Ythmenclkgngkkaa.PD Go.Proofs.YthmenclkgngkkaaW.PrintWords Go.Proofs.YthmenclkgngkkaaW.PrintMore Go.Proofs.YthmenclkgngkkaaW.PrintLast
theorem td (a b : Nat) : Int.tdiv (a : Int) (b : Int) = ((a / b : Nat) : Int) := by rw [Int.tdiv_eq_ediv_of_nonneg (by omega)]; exact (Int.natCast_ediv a b).symm
theorem tm (a b : Nat) : Int.tmod (a : Int) (b : Int) = ((a % b : Nat) : Int) := by rw [Int.tmod_eq_emod_of_nonneg (by omega)]; exact (Int.natCast_emod a b).symm
theorem uw (n : Nat) (h : n ≤ 18446744073709551615) : IntKind.u64.wrap (n : Int) = (n : Int) := by rw [u_mod]; omega
theorem w64n {i : Nat} (h : i ≤ 2000000000000) : wrap64 ((i : Int) + 1) = ((i + 1 : Nat) : Int) := by unfold wrap64; omega
theorem fact_le16 {n : Nat} (h : n ≤ 16) : fact n ≤ 20922789888000 := by rw [← fact16]; exact fact_mono h
theorem rmany_l (n : Nat) (hn : n ≤ 16) : ∀ (d i k : Nat), i + d = n → 1 ≤ i → d < k → reticuleref02_Many.l0 k n (fact i : Nat) ((i + 1 : Nat) : Int) = some ((fact n : Nat) : Int)
  | 0, i, k, hi, h1, hk => by
    obtain ⟨k, rfl⟩ : ∃ m, k = m + 1 := ⟨k - 1, by omega⟩
    simp only [reticuleref02_Many.l0]
    rw [if_neg (by omega)]
    obtain rfl : i = n := by omega
    rfl
  | d + 1, i, k, hi, h1, hk => by
    obtain ⟨k, rfl⟩ : ∃ m, k = m + 1 := ⟨k - 1, by omega⟩
    simp only [reticuleref02_Many.l0]
    have hf := fact_le16 (show i + 1 ≤ 16 by omega)
    have hm : ((fact i : Nat) : Int) * ((i + 1 : Nat) : Int) = ((fact (i + 1) : Nat) : Int) := by rw [← Int.natCast_mul, Nat.mul_comm]; rfl
    rw [if_pos (by omega), uw (i + 1) (by omega), hm, uw _ (by omega), w64n (by omega)]
    exact rmany_l n hn d (i + 1) k (by omega) (by omega) (by omega)
theorem rmany_f (n : Nat) (hn : n ≤ 16) (k : Nat) (hk : 20 ≤ k) : reticuleref02_Many.f k n = some ((fact n : Nat) : Int) := by
  unfold reticuleref02_Many.f
  obtain ⟨k, rfl⟩ : ∃ m, k = m + 1 := ⟨k - 1, by omega⟩
  rw [if_neg (by omega), decide_eq_false (by omega)]
  simp only [reticuleref02_Many.j0]
  rw [if_neg (by decide)]
  by_cases h0 : n = 0
  · subst h0
    obtain ⟨k, rfl⟩ : ∃ m, k = m + 1 := ⟨k - 1, by omega⟩
    simp only [reticuleref02_Many.l0]
    rw [if_neg (by omega)]
    rfl
  · exact rmany_l n hn (n - 1) 1 k (by omega) (Nat.le_refl _) (by omega)
theorem rfrom_l1 : ∀ (r kk k : Nat) (left out : List Int), r ≤ 16 → r < k → left.length = r → kk < fact r → out.length ≤ 16 - r → reticuleref02_From.l1 k kk (fact r : Nat) left out = some (out ++ ordF r kk left, 0)
  | 0, kk, k, left, out, hr, hk, hl, hkk, ho => by
    obtain ⟨k, rfl⟩ : ∃ m, k = m + 1 := ⟨k - 1, by omega⟩
    simp only [reticuleref02_From.l1]
    rw [if_neg (by omega)]
    simp [ordF]
  | r + 1, kk, k, left, out, hr, hk, hl, hkk, ho => by
    obtain ⟨k, rfl⟩ : ∃ m, k = m + 1 := ⟨k - 1, by omega⟩
    have hj := div_lt hkk
    have hf := fact_le16 hr
    have hf1 := fact_pos r
    have hf2 := fact_le16 (show r ≤ 16 by omega)
    have hdiv : fact (r + 1) / (r + 1) = fact r := Nat.mul_div_cancel_left _ (Nat.succ_pos r)
    have hkl : kk ≤ 20922789888000 := by omega
    have hql : kk / fact r ≤ 16 := by omega
    have hi := rfrom_l1 r (kk % fact r) k (left.eraseIdx (kk / fact r)) (out ++ [left.getD (kk / fact r) 0]) (by omega) (by omega) (by rw [List.length_eraseIdx, if_pos (by omega)]; omega) (Nat.mod_lt _ hf1) (by simp; omega)
    have htd : Int.tdiv (kk : Int) ((fact r : Nat) : Int) = ((kk / fact r : Nat) : Int) := td _ _
    rw [ordF]
    rw [List.eraseIdx_eq_take_drop_succ] at hi ⊢
    generalize kk / fact r = q at hj hql hi htd ⊢
    simp only [reticuleref02_From.l1]
    rw [hl, if_pos (by omega), uw (r + 1) (by omega), if_neg (by omega), td, hdiv, uw _ (by omega), if_neg (by omega), htd, uw _ (by omega), if_pos (by omega), if_pos (by omega), if_pos (by omega)]
    simp only [Option.bind_some, List.length_nil, List.nil_append, Int.toNat_natCast]
    have hnn : ((q : Nat) : Int) + 1 = ((q + 1 : Nat) : Int) := by omega
    rw [if_pos (by omega), if_pos (by rw [List.length_take]; omega), hnn, uw _ (by omega), if_pos (by omega), if_pos (by omega), if_pos (by rw [List.length_take, Int.toNat_natCast, List.length_drop]; omega), tm]
    rw [show rd left ((q : Nat) : Int) = left.getD q 0 by simp [rd], Int.toNat_natCast]
    rw [hi, List.append_assoc]
    rfl
theorem rfrom_l0 (n kk : Nat) (hn : n ≤ 16) (hk : kk < fact n) : ∀ (d i k : Nat), i + d = n → d + n + 1 < k → reticuleref02_From.l0 k n kk (fact n : Nat) (upto i) i = some (ordF n kk (upto n), 0)
  | 0, i, k, hi, hkk => by
    obtain ⟨k, rfl⟩ : ∃ m, k = m + 1 := ⟨k - 1, by omega⟩
    simp only [reticuleref02_From.l0]
    obtain rfl : i = n := by omega
    rw [if_neg (by omega), rfrom_l1 i kk k (upto i) [] hn (by omega) (by simp [upto]) hk (by simp)]
    rfl
  | d + 1, i, k, hi, hkk => by
    obtain ⟨k, rfl⟩ : ∃ m, k = m + 1 := ⟨k - 1, by omega⟩
    simp only [reticuleref02_From.l0]
    rw [if_pos (by omega), if_pos (by simp [upto]; omega), w64n (by omega), ← upto_snoc]
    exact rfrom_l0 n kk hn hk d (i + 1) k (by omega) (by omega)
theorem rfrom_f (n kk : Nat) (hn : n ≤ 16) (k : Nat) (hk : 40 ≤ k) : reticuleref02_From.f k n kk = some (ord n kk, 0) := by
  unfold reticuleref02_From.f
  have hf := fact_pos n
  rw [rmany_f n hn k (by omega)]
  simp only [Option.bind_some]
  rw [if_neg (by omega), tm]
  exact rfrom_l0 n (kk % fact n) hn (Nat.mod_lt _ hf) n 0 k (by omega) (by omega)
def rsl (l : List S26) (k : Nat) : Nat → Nat → List (List S26)
  | 0, _ => []
  | d + 1, j => turn1 (chk l (16 * j)) k :: rsl l k d (j + 1)
theorem rsl_range (l : List S26) (k : Nat) : ∀ d j, rsl l k d j = (List.range' j d).map (fun j => turn1 (chk l (16 * j)) k)
  | 0, _ => rfl
  | d + 1, j => by rw [rsl, rsl_range l k d (j + 1), List.range'_succ, List.map_cons]
theorem rsl_all (l : List S26) (k : Nat) : rsl l k ((l.length + 15) / 16) 0 = (starts l.length).map (fun i => turn1 (chk l i) k) := by
  rw [rsl_range, starts, List.map_map, List.range_eq_range']
  rfl
theorem rt_l1 (x0 : List S26) (k : Nat) (x5 : List S26) (x6 : Int) (row : List S26) (p : List Int) (hrow : row.length ≤ 1000) (hp : ∀ x ∈ p, 0 ≤ x ∧ x < row.length) (hpl : p.length ≤ 1000) (hx5 : x5.length ≤ 1000000) (R : List S26) (B : Nat)
    (hfin : ∀ K', B ≤ K' → PD.reticuleref21_Turned.l0 K' x0 k (if k % 2 = 1 then p.map (fun x => row.getD x.toNat zm) ++ x5 else x5 ++ p.map (fun x => row.getD x.toNat zm)) (wrap64 (x6 + 16)) = some R) :
    ∀ (d i K : Nat), i + d = p.length → B + d + 1 ≤ K → PD.reticuleref21_Turned.l1 K x0 k x5 x6 row p ((p.take i).map (fun x => row.getD x.toNat zm)) i = some R
  | 0, i, K, hi, hK => by
    obtain ⟨K, rfl⟩ : ∃ m, K = m + 1 := ⟨K - 1, by omega⟩
    have h := hfin K (by omega)
    simp only [PD.reticuleref21_Turned.l1]
    rw [if_neg (by omega), show (2 : Int) = ((2 : Nat) : Int) from rfl, tm, List.take_of_length_le (by omega)]
    by_cases hk : k % 2 = 1
    · rw [if_pos hk] at h
      rw [if_pos (by omega), if_pos (by simp; omega)]
      exact h
    · rw [if_neg hk] at h
      rw [if_neg (by omega), if_pos (by simp; omega)]
      exact h
  | d + 1, i, K, hi, hK => by
    obtain ⟨K, rfl⟩ : ∃ m, K = m + 1 := ⟨K - 1, by omega⟩
    have hip : i < p.length := by omega
    have hx := hp p[i] (List.getElem_mem hip)
    have ih := rt_l1 x0 k x5 x6 row p hrow hp hpl hx5 R B hfin d (i + 1) K (by omega) (by omega)
    simp only [PD.reticuleref21_Turned.l1]
    have hrd : rd p (i : Int) = p[i] := by simp [rd, List.getD, hip]
    rw [if_pos (by omega), if_pos (by omega), hrd, if_pos hx.1, if_pos hx.2, if_pos (by simp; omega), w64n (by omega)]
    have hm : (⟨(rd_T26 row p[i]).f0, (rd_T26 row p[i]).f1, (rd_T26 row p[i]).f2⟩ : S26) = row.getD p[i].toNat zm := by
      have : p[i].toNat < row.length := by omega
      simp [rd_T26, List.getD, this]
    rw [hm]
    rw [List.take_succ_eq_append_getElem hip, List.map_append, List.map_cons, List.map_nil] at ih
    exact ih
theorem rt_l0 (l : List S26) (k : Nat) (hl : l.length ≤ 900) : ∀ (d j K : Nat) (acc : List S26), (l.length + 15) / 16 = j + d → acc.length ≤ 1000 * j → 60 + 20 * d ≤ K →
    PD.reticuleref21_Turned.l0 K l k acc ((16 * j : Nat) : Int) = some (if k % 2 = 1 then (rsl l k d j).reverse.flatten ++ acc else acc ++ (rsl l k d j).flatten)
  | 0, j, K, acc, hj, ha, hK => by
    obtain ⟨K, rfl⟩ : ∃ m, K = m + 1 := ⟨K - 1, by omega⟩
    simp only [PD.reticuleref21_Turned.l0]
    rw [if_neg (by omega)]
    simp [rsl]
  | d + 1, j, K, acc, hj, ha, hK => by
    obtain ⟨K, rfl⟩ : ∃ m, K = m + 2 := ⟨K - 2, by omega⟩
    have hjl : 16 * j < l.length := by omega
    have hcl : (chk l (16 * j)).length ≤ 16 := by rw [chk_len]; omega
    have htl : (turn1 (chk l (16 * j)) k).length ≤ 16 := turn1_le _ _ _
    have hjump : PD.reticuleref21_Turned.j1 (K + 1) l k acc ((16 * j : Nat) : Int) (chk l (16 * j)) = some (if k % 2 = 1 then (rsl l k (d + 1) j).reverse.flatten ++ acc else acc ++ (rsl l k (d + 1) j).flatten) := by
      simp only [PD.reticuleref21_Turned.j1]
      rw [rfrom_f _ k hcl K (by omega)]
      simp only [Option.bind_some]
      have hpr : ∀ x ∈ ord (chk l (16 * j)).length k, 0 ≤ x ∧ x < (chk l (16 * j)).length := fun x hx => upto_mem.1 ((ord_perm _ k).mem_iff.1 hx)
      refine rt_l1 l k acc _ (chk l (16 * j)) (ord (chk l (16 * j)).length k) (by omega) hpr (by rw [ord_len]; omega) (by omega) _ (60 + 20 * d) (fun K' hK' => ?_) (ord (chk l (16 * j)).length k).length 0 K (by omega) (by rw [ord_len]; omega)
      have h16 : wrap64 (((16 * j : Nat) : Int) + 16) = ((16 * (j + 1) : Nat) : Int) := by unfold wrap64; omega
      rw [h16]
      have ih := rt_l0 l k hl d (j + 1) K' (if k % 2 = 1 then turn1 (chk l (16 * j)) k ++ acc else acc ++ turn1 (chk l (16 * j)) k) (by omega) (by split <;> (rw [List.length_append]; omega)) hK'
      refine ih.trans ?_
      congr 1
      by_cases hk : k % 2 = 1
      · simp [hk, rsl]
      · simp [hk, rsl]
    simp only [PD.reticuleref21_Turned.l0]
    rw [if_pos (by omega), if_pos (by omega), if_pos (by omega)]
    simp only [Option.bind_some, Int.toNat_natCast]
    by_cases hb : (l.drop (16 * j)).length > 16
    · rw [if_pos (by omega), if_pos (by omega)]
      exact hjump
    · rw [if_neg (by omega)]
      have : chk l (16 * j) = l.drop (16 * j) := by unfold chk; rw [List.take_of_length_le (by omega)]
      rw [this] at hjump
      exact hjump
theorem rturn_f (l : List S26) (k : Nat) (hl : l.length ≤ 900) (K : Nat) (hK : 1300 ≤ K) : PD.reticuleref21_Turned.f K l k = some (turnl l k) := by
  unfold PD.reticuleref21_Turned.f
  have h := rt_l0 l k hl ((l.length + 15) / 16) 0 K [] (by omega) (by simp) (by omega)
  rw [rsl_all] at h
  refine h.trans ?_
  unfold turnl
  simp only
  split <;> simp
theorem rfor_l0 (l : List S26) (nd : Int) (hl : l.length ≤ 1000) : ∀ (d i K : Nat), i + d = l.length → d < K → reticuleref21_For.l0 K l nd ((l.take i).filter (kp nd)) i = some (l.filter (kp nd))
  | 0, i, K, hi, hK => by
    obtain ⟨K, rfl⟩ : ∃ m, K = m + 1 := ⟨K - 1, by omega⟩
    simp only [reticuleref21_For.l0]
    rw [if_neg (by omega), List.take_of_length_le (by omega)]
  | d + 1, i, K, hi, hK => by
    obtain ⟨K, rfl⟩ : ∃ m, K = m + 1 := ⟨K - 1, by omega⟩
    have hil : i < l.length := by omega
    have ih := rfor_l0 l nd hl d (i + 1) K (by omega) (by omega)
    have hfl : ((l.take i).filter (kp nd)).length ≤ i := Nat.le_trans (List.length_filter_le _ _) (by rw [List.length_take]; omega)
    rw [List.take_succ_eq_append_getElem hil, List.filter_append] at ih
    have hm : rd_T26 l (i : Int) = l[i] := by simp [rd_T26, List.getD, hil]
    simp only [reticuleref21_For.l0]
    rw [if_pos (by omega), if_pos (by omega), hm, w64n (by omega)]
    by_cases hk : l[i].f0 = nd
    · rw [if_pos hk, if_pos (by omega)]
      have he : [l[i]].filter (kp nd) = [l[i]] := by simp [kp, hk]
      rw [he] at ih
      exact ih
    · rw [if_neg hk]
      have he : [l[i]].filter (kp nd) = [] := by simp [kp, hk]
      rw [he, List.append_nil] at ih
      exact ih
theorem plays_f (l : List S26) (k : Int) (nd : Int) (h0 : 0 ≤ k) (h1 : k ≤ 18446744073709551615) : reticulelaw21_MailPlays.f 2000 l k nd = some true := by
  unfold reticulelaw21_MailPlays.f
  have hx := List.length_take_le 50 l
  rw [few_d]
  simp only [Option.bind_some]
  generalize l.take 50 = l at hx
  have hl := (turnl_perm l k.toNat).length_eq
  rw [live_y 2000 (by decide)]
  simp only [Option.bind_some, if_true]
  unfold mail_Sorted.f reticuleref21_Sorted.f
  rw [if_pos (by omega), if_pos (by omega)]
  simp only [Option.bind_some]
  rw [same_f _ (by simp; omega) 2000 (by decide)]
  simp only [Option.bind_some, if_true]
  unfold mail_Turned.f
  rw [if_pos ⟨by omega, h0, h1⟩]
  have hk : k = ((k.toNat : Nat) : Int) := by omega
  have hrt : PD.reticuleref21_Turned.f 2000 l k = some (turnl l k.toNat) := by
    have := rturn_f l k.toNat (by omega) 2000 (by decide)
    rw [← hk] at this
    exact this
  rw [hrt]
  simp only [Option.bind_some]
  rw [same_f _ (by omega) 2000 (by decide)]
  simp only [Option.bind_some, if_true]
  have hfl := List.length_filter_le (kp nd) l
  have hrf : reticuleref21_For.f 2000 l nd = some (l.filter (kp nd)) := by
    unfold reticuleref21_For.f
    have := rfor_l0 l nd (by omega) l.length 0 2000 (by omega) (by omega)
    simpa using this
  unfold mail_For.f
  rw [if_pos (by omega)]
  rw [hrf]
  simp only [Option.bind_some]
  rw [same_f _ (by omega) 2000 (by decide)]
  rfl
theorem plays_w (w : World) (A : Option Addr) (c : Nat) (l : List S26) (hc : l.length ≤ c) (hr : Kd.C k26 w A l.length l) (hg : l.length ≤ maxLen ∧ ∀ x ∈ l, (Lit.int .i64 x.f0).wf = true ∧ (Lit.int .i64 x.f1).wf = true ∧ (Lit.int .i64 x.f2).wf = true) (hs : l.length * 24 ≤ 140737488351232) (v : Int) (wf : (Lit.int .u64 v).wf = true) (nd : Int) (wf2 : (Lit.int .i64 nd).wf = true) :
    Calls Try.prog 8 #[.slice A l.length c, .int .u64 v, .int .i64 nd] w fun e w' => e = .returned (.bool true) ∧ Below w.heap.size w w' := by
  have hv : 0 ≤ v ∧ v ≤ 18446744073709551615 := by simpa [Lit.wf, IntKind.min, IntKind.max, IntKind.signed, IntKind.bits] using wf
  exact reticulelaw21_MailPlays.calls 2000 A c l v nd true w hr hc (plays_f l v nd hv.1 hv.2)
end Go.Proofs.Ythmenclkgngkkaa.M
