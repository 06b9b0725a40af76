/- Numbers that an operation takes in come to the same in the order of any number. -/
import Derived.Test.YtdohoajphknciaaPTx4
namespace Go.Proofs.Ytdohoajphknciaa.Pure
open Go.RowKit Go.Proofs.Ytdohoajphknciaa.PT Go.Proofs.Ytdohoajphknciaa.Perm Go.Proofs.YtdohoajphknciaaW.PrintWords Go.Proofs.YtdohoajphknciaaW.PrintLast Go.Proofs.YtdohoajphknciaaW.PrintMore

theorem LeO_le {α : Type} {F : Nat → Option α} (h : ∀ k, LeO (F k) (F (k + 1))) {a b : Nat} (hab : a ≤ b) {r : α} (hr : F a = some r) : F b = some r := by
  induction b with
  | zero => obtain rfl : a = 0 := by omega
            exact hr
  | succ b ih =>
    by_cases e : a = b + 1
    · rw [← e]; exact hr
    · exact h b r (ih (by omega))

/-- Of how many an operation is. -/
def ar (o : Int) : Int := if o = 0 ∨ o > 19 then 0 else if o = 15 then 1 else if o = 18 then 3 else 2

theorem arity_a (k : Nat) (o : Int) : num_Arity.f (k + 1) o = some (ar o) := by
  unfold num_Arity.f ar
  simp only [num_Arity.j0]
  by_cases h0 : o = 0
  · subst h0; rfl
  · by_cases h1 : o > 19
    · rw [if_neg h0, if_pos (decide_eq_true h1), if_pos (Or.inr h1)]
    · rw [if_neg h0, decide_eq_false h1, if_neg (by decide), if_neg (show ¬ (o = 0 ∨ o > 19) from fun h => h.elim h0 h1)]
      (repeat' split) <;> rfl

theorem two (x y : Int) : (([x, y] : List Int).length : Int) = 2 := rfl
theorem lst (x y : Int) : rd [x, y] 1 = y := rfl
theorem fst_ (x : Int) (l : List Int) : rd (x :: l) 0 = x := rfl

/-- What an operation that takes in many does. -/
def red (o x y : Int) : Int := if o = 1 then wrap64 (x + y) else if o = 6 then (if y < x then y else x) else if o = 7 then (if x < y then y else x) else if o = 16 then (if x = 0 ∨ y = 0 then 0 else 1) else (if x = 0 ∧ y = 0 then 0 else 1)
/-- Those that do. -/
def takes (o : Int) : Prop := o = 1 ∨ o = 6 ∨ o = 7 ∨ o = 16 ∨ o = 17

theorem do_red {o : Int} (ho : takes o) (k : Nat) (x y : Int) : num_Do.f (k + 1) o [x, y] = some (red o x y, 0) := by
  unfold num_Do.f
  have ha : ar o = 2 := by rcases ho with rfl | rfl | rfl | rfl | rfl <;> decide
  rw [arity_a, ha]
  simp only [Option.bind_some, two, lst, fst_]
  rcases ho with rfl | rfl | rfl | rfl | rfl
  · simp [num_reckon.f, red]
  · simp [num_reckon.f, red, mn]
  · simp [num_reckon.f, red, mx]
  · simp [num_reckon.f, num_told.f, num_Truth.f, red]
    by_cases hx : x = 0 <;> by_cases hy : y = 0 <;> simp [hx, hy]
  · simp [num_reckon.f, num_told.f, num_Truth.f, red]
    by_cases hx : x = 0 <;> by_cases hy : y = 0 <;> simp [hx, hy]

theorem red_comm {o : Int} (ho : takes o) (a x y : Int) : red o (red o a x) y = red o (red o a y) x := by
  rcases ho with rfl | rfl | rfl | rfl | rfl <;> simp only [red]
  · simp; unfold wrap64; omega
  · simp; (repeat' split) <;> omega
  · simp; (repeat' split) <;> omega
  · simp; by_cases ha : a = 0 <;> by_cases hx : x = 0 <;> by_cases hy : y = 0 <;> simp [ha, hx, hy]
  · simp; by_cases ha : a = 0 <;> by_cases hx : x = 0 <;> by_cases hy : y = 0 <;> simp [ha, hx, hy]

theorem red_of (k : Nat) (o f : Int) (h : num_Reduces.f (k + 1) o = some (f, true)) : takes o := by
  unfold num_Reduces.f at h
  simp only [num_Reduces.j0] at h
  unfold takes
  by_cases h1 : o = 1
  · omega
  · rw [if_neg h1] at h
    by_cases h2 : o = 17
    · omega
    · rw [beq_eq_false_iff_ne.2 h2, if_neg Bool.false_ne_true] at h
      by_cases h3 : o = 16
      · omega
      · rw [if_neg h3] at h
        by_cases h4 : o = 6
        · omega
        · rw [if_neg h4] at h
          by_cases h5 : o = 7
          · omega
          · rw [if_neg h5] at h; simp at h

theorem reduces_some (k : Nat) (o : Int) : ∃ f b, num_Reduces.f (k + 1) o = some (f, b) := by
  unfold num_Reduces.f
  simp only [num_Reduces.j0]
  (repeat' split) <;> exact ⟨_, _, rfl⟩

theorem wrap_one (i : Nat) (h : i < 100) : wrap64 ((i : Int) + 1) = ((i + 1 : Nat) : Int) := by unfold wrap64; omega

/-- What is taken in of the number at a place. -/
def seen (o : Int) (l : List Int) (i : Int) : Int := if o = 16 ∨ o = 17 then Go.bits .and .i64 (rd l i) 1 else rd l i

theorem loop1 (o : Int) (ho : takes o) (l p q : List Int) (hpq : p.length = q.length) (hp : ∀ x ∈ p, 0 ≤ x ∧ x < l.length) (hq : ∀ x ∈ q, 0 ≤ x ∧ x < l.length) (h16 : p.length ≤ 16) (d : Nat) :
    ∀ (i k : Nat) (a b : Int), i + d = p.length → 2 * d + 2 < k →
      reticuletop_TopTaken.l1 k o l p q a b i = some (((p.drop i).foldl (fun a x => red o a (seen o l x)) a) == ((q.drop i).foldl (fun a x => red o a (seen o l x)) b)) := by
  induction d with
  | zero =>
    intro i k a b hi hk
    obtain ⟨k, rfl⟩ : ∃ m, k = m + 1 := ⟨k - 1, by omega⟩
    simp only [reticuletop_TopTaken.l1]
    rw [if_neg (by omega), List.drop_of_length_le (by omega), List.drop_of_length_le (by omega)]
    rfl
  | succ d ih =>
    intro i k a b hi hk
    obtain ⟨k, rfl⟩ : ∃ m, k = m + 3 := ⟨k - 3, by omega⟩
    have hip : i < p.length := by omega
    have hiq : i < q.length := by omega
    have ep : rd p i = p[i] := by simp [rd, List.getD, List.getElem?_eq_getElem hip]
    have eq : rd q i = q[i] := by simp [rd, List.getD, List.getElem?_eq_getElem hiq]
    have hp' := hp p[i] (List.getElem_mem hip)
    have hq' := hq q[i] (List.getElem_mem hiq)
    rw [List.drop_eq_getElem_cons hip, List.drop_eq_getElem_cons hiq]
    simp only [reticuletop_TopTaken.l1, ep, eq]
    rw [if_pos (by omega), if_pos (by omega), if_pos hp'.1, if_pos hp'.2, if_pos (by omega), if_pos hq'.1, if_pos hq'.2]
    have key : ∀ z, (if z = true then (reticuletop_TopTaken.j4 (k + 2) o l p q a b i (rd l p[i]) (rd l q[i]) true) else (reticuletop_TopTaken.j4 (k + 2) o l p q a b i (rd l p[i]) (rd l q[i]) false)) = some ((((p.drop (i + 1)).foldl (fun a x => red o a (seen o l x)) (red o a (if z = true then Go.bits .and .i64 (rd l p[i]) 1 else rd l p[i])))) == ((q.drop (i + 1)).foldl (fun a x => red o a (seen o l x)) (red o b (if z = true then Go.bits .and .i64 (rd l q[i]) 1 else rd l q[i])))) := by
      intro z
      cases z
      · rw [if_neg Bool.false_ne_true]
        simp only [reticuletop_TopTaken.j4]
        rw [if_neg Bool.false_ne_true, do_red ho, Option.bind_some, do_red ho, Option.bind_some, wrap_one i (by omega), ih (i + 1) (k + 1) _ _ (by omega) (by omega)]
        rfl
      · simp only [reticuletop_TopTaken.j4, if_true]
        rw [do_red ho, Option.bind_some, do_red ho, Option.bind_some, wrap_one i (by omega), ih (i + 1) (k + 1) _ _ (by omega) (by omega)]
    have hz : (if o = 16 then (reticuletop_TopTaken.j4 (k + 2) o l p q a b i (rd l p[i]) (rd l q[i]) true) else (reticuletop_TopTaken.j4 (k + 2) o l p q a b i (rd l p[i]) (rd l q[i]) (o == 17))) = (if decide (o = 16 ∨ o = 17) = true then (reticuletop_TopTaken.j4 (k + 2) o l p q a b i (rd l p[i]) (rd l q[i]) true) else (reticuletop_TopTaken.j4 (k + 2) o l p q a b i (rd l p[i]) (rd l q[i]) false)) := by
      by_cases h1 : o = 16
      · rw [if_pos h1, if_pos (by simp [h1])]
      · by_cases h2 : o = 17
        · rw [if_neg h1, if_pos (by simp [h2]), beq_iff_eq.2 h2]
        · rw [if_neg h1, if_neg (by simp [h1, h2]), beq_eq_false_iff_ne.2 h2]
    rw [hz, key]
    simp only [List.foldl_cons, seen, decide_eq_true_eq]

theorem loop0 (o : Int) (l : List Int) (k2 f : Int) (d : Nat) : ∀ (i k : Nat), i + d = min l.length 16 → d < k → reticuletop_TopTaken.l0 k o l k2 f (upto i) i = reticuletop_TopTaken.j1 (k - d - 1) o l k2 f (upto (min l.length 16)) := by
  induction d with
  | zero =>
    intro i k hi hk
    obtain ⟨k, rfl⟩ : ∃ m, k = m + 1 := ⟨k - 1, by omega⟩
    simp only [reticuletop_TopTaken.l0]
    rw [show min l.length 16 = i by omega]
    by_cases h : (i : Int) < l.length
    · rw [if_pos h, if_neg (by omega)]; rfl
    · rw [if_neg h]; rfl
  | succ d ih =>
    intro i k hi hk
    obtain ⟨k, rfl⟩ : ∃ m, k = m + 1 := ⟨k - 1, by omega⟩
    simp only [reticuletop_TopTaken.l0]
    rw [if_pos (by omega), if_pos (by omega), if_pos (by simp [upto]; omega), wrap_one i (by omega), ← upto_snoc, ih (i + 1) k (by omega) (by omega)]
    congr 1
    omega

theorem rd_upto {n : Nat} {x : Int} (h0 : 0 ≤ x) (h1 : x < n) : rd (upto n) x = x := by
  unfold rd upto
  rw [List.getD_eq_getElem?_getD, List.getElem?_map, List.getElem?_range (by omega)]
  simp; omega

theorem turn_l0 (n : Nat) (p : List Int) (hp : p.length = n) (hr : ∀ x ∈ p, 0 ≤ x ∧ x < n) (hn : n ≤ 16) (d : Nat) : ∀ (i k : Nat), i + d = n → d < k → perm_Turn.l0 k (upto n) (p.take i ++ List.replicate (n - i) 0) p n i = some (p, 0) := by
  induction d with
  | zero =>
    intro i k hi hk
    obtain ⟨k, rfl⟩ : ∃ m, k = m + 1 := ⟨k - 1, by omega⟩
    simp only [perm_Turn.l0]
    rw [if_neg (by omega), show n - i = 0 by omega, List.take_of_length_le (by omega)]
    simp
  | succ d ih =>
    intro i k hi hk
    obtain ⟨k, rfl⟩ : ∃ m, k = m + 1 := ⟨k - 1, by omega⟩
    have hip : i < p.length := by omega
    have ep : rd p i = p[i] := by simp [rd, List.getD, List.getElem?_eq_getElem hip]
    have hp' := hr p[i] (List.getElem_mem hip)
    simp only [perm_Turn.l0, ep]
    rw [if_pos (by omega), if_pos (by omega), if_pos (by omega), if_pos hp'.1, if_pos (by simp [upto]; omega), if_pos (by simp; omega), rd_upto hp'.1 hp'.2, wrap_one i (by omega)]
    have e : (p.take i ++ List.replicate (n - i) 0).set ((i : Int)).toNat p[i] = p.take (i + 1) ++ List.replicate (n - (i + 1)) 0 := by
      rw [Int.toNat_natCast, List.set_append_right _ _ (by simp; omega), show n - i = (n - (i + 1)) + 1 by omega, List.replicate_succ]
      rw [show i - (p.take i).length = 0 by simp; omega, List.set_cons_zero, List.take_succ_eq_append_getElem hip, List.append_assoc]
      rfl
    rw [e, ih (i + 1) k (by omega) (by omega)]

theorem TopTaken : reticuletop_TopTaken.Pure := by
  intro o l k2 _ _ _ _ hk2
  obtain ⟨f, b, hf⟩ := reduces_some 199 o
  refine ⟨200, ?_⟩
  unfold reticuletop_TopTaken.f
  rw [hf, Option.bind_some]
  cases b with
  | false => rfl
  | true =>
    have ho := red_of 199 o f hf
    rw [if_pos rfl]
    have hm : min l.length 16 ≤ 16 := by omega
    obtain ⟨n, hn⟩ : ∃ n, n = min l.length 16 := ⟨_, rfl⟩
    have e0 := loop0 o l k2 f n 0 200 (by omega) (by omega)
    rw [show (upto 0 : List Int) = [] from rfl, ← hn] at e0
    have e00 : reticuletop_TopTaken.l0 200 o l k2 f [] 0 = reticuletop_TopTaken.j1 (200 - n - 1) o l k2 f (upto n) := e0
    rw [show ((o, f, true) : Int × Int × Bool).2.1 = f from rfl] at *
    refine e00.trans ?_
    obtain ⟨k, hk⟩ : ∃ k, 200 - n - 1 = k + 2 := ⟨200 - n - 3, by omega⟩
    rw [hk]
    simp only [reticuletop_TopTaken.j1]
    have hul : (upto n).length = n := by simp [upto]
    have hkr : 0 ≤ k2 ∧ k2 ≤ 18446744073709551615 := by
      have h1 : IntKind.u64.min = 0 := by decide
      have h2 : IntKind.u64.max = 18446744073709551615 := by decide
      simp [Lit.wf, h1, h2] at hk2
      omega
    have e1 : perm_From.f ((upto n).length : Int) k2 = some (ord n k2.toNat, 0) := by
      unfold perm_From.f
      rw [hul, if_pos ⟨by omega, by omega, hkr.1, hkr.2⟩, Int.toNat_natCast]
    rw [e1, Option.bind_some]
    have hpm := ord_perm n k2.toNat
    have hpl : (ord n k2.toNat).length = n := by rw [hpm.length_eq, hul]
    have hpr : ∀ x ∈ ord n k2.toNat, 0 ≤ x ∧ x < n := fun x hx => upto_mem.1 (hpm.mem_iff.1 hx)
    have hnd : (ord n k2.toNat).Nodup := by
      refine (hpm.nodup_iff).2 ?_
      unfold upto
      rw [List.nodup_iff_pairwise_ne, List.pairwise_map]
      exact List.nodup_range.imp fun h e => h (by omega)
    have e2 : perm_Turn.f (k + 1) (ord n k2.toNat) (upto n) = some (ord n k2.toNat, 0) := by
      unfold perm_Turn.f perm_Right.f
      rw [if_pos ⟨by omega, fun x hx => by rw [hpl]; exact hpr x hx, hnd⟩, Option.bind_some, if_pos rfl, hul, hpl]
      simp only [perm_Turn.j0]
      rw [hpl, if_neg (by simp), if_pos (by omega), if_pos (by simp; omega), Int.toNat_natCast]
      have := turn_l0 n (ord n k2.toNat) hpl hpr (by omega) n 0 k (by omega) (by omega)
      simpa using this
    rw [e2, Option.bind_some, if_pos rfl, if_pos rfl]
    simp only [reticuletop_TopTaken.j2]
    rw [hpl, hul, if_neg (by simp)]
    have hlt : ∀ x : Int, 0 ≤ x ∧ x < n → 0 ≤ x ∧ x < l.length := fun x h => by omega
    have e3 := loop1 o ho l (upto n) (ord n k2.toNat) (by rw [hul, hpl]) (fun x hx => hlt x (upto_mem.1 hx)) (fun x hx => hlt x (hpr x hx)) (by omega) n 0 k f f (by omega) (by omega)
    refine e3.trans ?_
    simp only [List.drop_zero]
    rw [hpm.foldl_eq' (f := fun a x => red o a (seen o l x)) (fun x _ y _ z => red_comm ho z _ _)]
    simp

end Go.Proofs.Ytdohoajphknciaa.Pure
