/- Orders of some numbers: plain lists, no program in sight. -/
import Derived.Below
namespace Go.Proofs.Ytdohoajphknciaa.Perm

def fact : Nat → Nat
  | 0 => 1
  | n + 1 => (n + 1) * fact n

theorem fact_pos : ∀ n, 0 < fact n
  | 0 => Nat.one_pos
  | n + 1 => Nat.mul_pos (Nat.succ_pos n) (fact_pos n)
theorem fact_mono : ∀ {m n : Nat}, m ≤ n → fact m ≤ fact n
  | m, 0, h => by obtain rfl : m = 0 := by omega
                  exact Nat.le_refl _
  | m, n + 1, h => by
    by_cases e : m = n + 1
    · rw [e]; exact Nat.le_refl _
    · refine Nat.le_trans (fact_mono (show m ≤ n by omega)) ?_
      show fact n ≤ (n + 1) * fact n
      rw [Nat.succ_mul]
      exact Nat.le_add_left _ _

/-- The order of number k of what is left: r of them. -/
def ordF : Nat → Nat → List Int → List Int
  | 0, _, _ => []
  | r + 1, k, left => left.getD (k / fact r) 0 :: ordF r (k % fact r) (left.eraseIdx (k / fact r))

theorem div_lt {r k : Nat} (h : k < fact (r + 1)) : k / fact r < r + 1 := by
  rw [Nat.div_lt_iff_lt_mul (fact_pos r)]; exact h

theorem cons_erase {l : List Int} {i : Nat} (h : i < l.length) : (l[i] :: l.eraseIdx i).Perm l := by
  have e : l = l.take i ++ l[i] :: l.drop (i + 1) := by
    rw [← List.drop_eq_getElem_cons h, List.take_append_drop]
  rw [List.eraseIdx_eq_take_drop_succ]
  exact List.perm_middle.symm.trans (by rw [← e])

theorem ordF_perm : ∀ (r k : Nat) (left : List Int), left.length = r → k < fact r → (ordF r k left).Perm left
  | 0, _, left, hl, _ => by
    obtain rfl : left = [] := by simpa using hl
    exact List.Perm.nil
  | r + 1, k, left, hl, hk => by
    have hi := div_lt hk
    have hi' : k / fact r < left.length := by omega
    have h1 : (left.eraseIdx (k / fact r)).length = r := by rw [List.length_eraseIdx]; simp [hi']; omega
    refine (List.Perm.cons _ (ordF_perm r (k % fact r) _ h1 (Nat.mod_lt _ (fact_pos r)))).trans ?_
    rw [show left.getD (k / fact r) 0 = left[k / fact r] by simp [List.getD, hi']]
    exact cons_erase hi'

/-- 0, 1, .. below n. -/
def upto (n : Nat) : List Int := (List.range n).map (fun i : Nat => (i : Int))

/-- The order of number k of the numbers below n. -/
def ord (n k : Nat) : List Int := ordF n (k % fact n) (upto n)

theorem ord_perm (n k : Nat) : (ord n k).Perm (upto n) := ordF_perm n _ _ (by simp [upto]) (Nat.mod_lt _ (fact_pos n))

theorem upto_mem {n : Nat} {x : Int} : x ∈ upto n ↔ 0 ≤ x ∧ x < n := by
  unfold upto
  rw [List.mem_map]
  constructor
  · rintro ⟨i, hi, rfl⟩
    rw [List.mem_range] at hi
    omega
  · intro h
    exact ⟨x.toNat, by rw [List.mem_range]; omega, by omega⟩

theorem upto_snoc (n : Nat) : upto (n + 1) = upto n ++ [(n : Int)] := by simp [upto, List.range_succ]

end Go.Proofs.Ytdohoajphknciaa.Perm
