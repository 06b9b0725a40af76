/- Plain laws: which nodes hang together. -/
import Derived.Test.YtkpaefeaplgnmaaGraphRc
set_option linter.unusedSimpArgs false
set_option linter.unusedVariables false
namespace Go.Proofs.Ytkpaefeaplgnmaa.G
open Go.RowKit Go.Shelf Go.Proofs.Ytkpaefeaplgnmaa.PA Go.Proofs.Ytkpaefeaplgnmaa.Mp Go.Proofs.YtkpaefeaplgnmaaW.PrintWords Go.Proofs.YtkpaefeaplgnmaaW.PrintLast Go.Proofs.YtkpaefeaplgnmaaW.PrintMore

/-- The nodes from which edges come. -/
def prv (l : List S53) (v : Nat) : List Nat := (rw_ l (.i v)).map fun i => (l.getD i.toNat ⟨0, 0⟩).f0.toNat
def Adj (l : List S53) (x c : Nat) : Prop := c ∈ nxt l x ∨ c ∈ prv l x
/-- Two hang together. -/
inductive Con (l : List S53) (a : Nat) : Nat → Prop
  | refl : Con l a a
  | step {b c : Nat} : Con l a b → Adj l b c → Con l a c
theorem Con.trans {l : List S53} {a b c : Nat} (h : Con l a b) (k : Con l b c) : Con l a c := by
  induction k with
  | refl => exact h
  | step _ e ih => exact .step ih e
theorem mem_row {l : List S53} {x : Ix} {f : S53 → Int} {w : Nat} : w ∈ (rw_ l x).map (fun i => (f (l.getD i.toNat ⟨0, 0⟩)).toNat) ↔ ∃ e ∈ l, P_ x e = true ∧ (f e).toNat = w := by
  unfold rw_ idxs
  simp only [List.map_map, List.mem_map, List.mem_filter, List.mem_range]
  constructor
  · rintro ⟨i, ⟨hi, hp⟩, rfl⟩
    rw [List.getElem?_eq_getElem hi] at hp
    exact ⟨l[i], List.getElem_mem hi, hp, by simp [hi]⟩
  · rintro ⟨e, he, hp, rfl⟩
    obtain ⟨i, hi, rfl⟩ := List.getElem_of_mem he
    exact ⟨i, ⟨hi, by rw [List.getElem?_eq_getElem hi]; exact hp⟩, by simp [hi]⟩
theorem mem_nx {l : List S53} {v w : Nat} : w ∈ nxt l v ↔ ∃ e ∈ l, P_ (.o v) e = true ∧ e.f1.toNat = w := mem_row (f := S53.f1)
theorem mem_pr {l : List S53} {v w : Nat} : w ∈ prv l v ↔ ∃ e ∈ l, P_ (.i v) e = true ∧ e.f0.toNat = w := mem_row (f := S53.f0)
theorem prv_len (l : List S53) (v : Nat) : (prv l v).length ≤ l.length := by
  unfold prv
  rw [List.length_map]
  exact rw_len l (.i v)

def la (out : List Int) (x : Nat) : Int := out.getD x (-1)
theorem la_set (out : List Int) (v x : Nat) (k : Int) : la (out.set v k) x = if x = v ∧ v < out.length then k else la out x := by
  unfold la
  simp only [List.getD_eq_getElem?_getD, List.getElem?_set]
  by_cases e : v = x
  · subst e
    by_cases hb : v < out.length
    · simp [hb]
    · simp [hb]
  · rw [if_neg e, if_neg (fun q => e q.1.symm)]
def unl (out : List Int) : Nat := out.countP (· == -1)
theorem unl_le : ∀ (out out' : List Int), out'.length = out.length → (∀ x, la out x ≠ -1 → la out' x ≠ -1) → unl out' ≤ unl out
  | [], out', h, _ => by
    have : out' = [] := List.length_eq_zero_iff.1 h
    subst this
    exact Nat.le_refl _
  | a :: out, [], h, _ => by simp at h
  | a :: out, b :: out', h, hk => by
    have ih := unl_le out out' (by simpa using h) (fun x hx => hk (x + 1) hx)
    have h0 : a ≠ -1 → b ≠ -1 := hk 0
    simp only [unl, List.countP_cons] at ih ⊢
    by_cases ha : a = -1
    · subst ha
      simp
      split <;> omega
    · have hb := h0 ha
      simp [ha, hb]
      exact ih
theorem unl_set {out : List Int} {v : Nat} {k : Int} (hv : v < out.length) (h : la out v = -1) (hk : k ≠ -1) : unl (out.set v k) + 1 = unl out := by
  induction out generalizing v with
  | nil => simp at hv
  | cons a out ih =>
    cases v with
    | zero =>
      have ha : a = -1 := h
      subst ha
      simp [unl, hk]
    | succ v =>
      have := ih (v := v) (by simpa using hv) h
      simp only [List.set_cons_succ, unl, List.countP_cons] at this ⊢
      omega
theorem unl_len (out : List Int) : unl out ≤ out.length := List.countP_le_length

/-- What a labelling from v does. -/
structure Jn (l : List S53) (label : Int) (v : Nat) (out out' : List Int) : Prop where
  len : out'.length = out.length
  keep : ∀ x, la out x ≠ -1 → la out' x = la out x
  me : la out' v ≠ -1
  new : ∀ x, la out x = -1 → la out' x ≠ -1 → la out' x = label ∧ Con l v x
  done : ∀ x, la out x = -1 → la out' x ≠ -1 → ∀ c, Adj l x c → la out' c ≠ -1
/-- Amid it: some neighbours are done. -/
structure Jm (l : List S53) (label : Int) (v : Nat) (out out' : List Int) (dn : List Nat) : Prop where
  len : out'.length = out.length
  keep : ∀ x, la out x ≠ -1 → la out' x = la out x
  me : la out' v = label
  new : ∀ x, la out x = -1 → la out' x ≠ -1 → la out' x = label ∧ Con l v x
  done : ∀ x, x ≠ v → la out x = -1 → la out' x ≠ -1 → ∀ c, Adj l x c → la out' c ≠ -1
  nbs : ∀ c ∈ dn, la out' c ≠ -1
section
variable {l : List S53} {label : Int} {v : Nat} {out out' out2 : List Int} {dn : List Nat}
theorem Jn.same (h : la out v ≠ -1) : Jn l label v out out := ⟨rfl, fun _ _ => rfl, h, fun x h1 h2 => absurd h1 h2, fun x h1 h2 => absurd h1 h2⟩
theorem Jm.start (hv : v < out.length) (h : la out v = -1) : Jm l label v out (out.set v label) [] := by
  have hs := fun x => la_set out v x label
  have hm : la (out.set v label) v = label := by rw [hs, if_pos ⟨rfl, hv⟩]
  refine ⟨by simp, fun x hx => ?_, hm, fun x h1 h2 => ?_, fun x hx h1 h2 => ?_, fun c hc => by cases hc⟩
  · rw [hs, if_neg (fun q => hx (by rw [q.1]; exact h))]
  · by_cases e : x = v
    · subst e
      exact ⟨hm, .refl⟩
    · rw [hs, if_neg (fun q => e q.1)] at h2
      exact absurd h1 h2
  · rw [hs, if_neg (fun q => hx q.1)] at h2
    exact absurd h1 h2
theorem Jm.step (h : Jm l label v out out' dn) (hl : label ≠ -1) {c : Nat} (hc : Adj l v c) (hj : Jn l label c out' out2) : Jm l label v out out2 (dn ++ [c]) := by
  have mono : ∀ x, la out' x ≠ -1 → la out2 x ≠ -1 := fun x hx => by rw [hj.keep x hx]; exact hx
  refine ⟨hj.len.trans h.len, fun x hx => ?_, ?_, fun x h1 h2 => ?_, fun x hx h1 h2 y hy => ?_, fun y hy => ?_⟩
  · have h1 := h.keep x hx
    rw [hj.keep x (by rw [h1]; exact hx), h1]
  · rw [hj.keep v (by rw [h.me]; exact hl)]
    exact h.me
  · by_cases e : la out' x = -1
    · obtain ⟨q1, q2⟩ := hj.new x e h2
      exact ⟨q1, (Con.step .refl hc).trans q2⟩
    · rw [hj.keep x e]
      exact h.new x h1 e
  · by_cases e : la out' x = -1
    · exact hj.done x e h2 y hy
    · exact mono y (h.done x hx h1 e y hy)
  · rcases List.mem_append.1 hy with hy | hy
    · exact mono y (h.nbs y hy)
    · rw [List.mem_singleton.1 hy]
      exact hj.me
theorem Jm.close (h : Jm l label v out out' dn) (hl : label ≠ -1) (ho : la out v = -1) (hall : ∀ c, Adj l v c → c ∈ dn) : Jn l label v out out' :=
  ⟨h.len, h.keep, by rw [h.me]; exact hl, h.new, fun x h1 h2 c hc => by
    by_cases e : x = v
    · subst e
      exact h.nbs c (hall c hc)
    · exact h.done x e h1 h2 c hc⟩
theorem Jm.unl (h : Jm l label v out out' dn) (hv : v < out.length) (ho : la out v = -1) (hl : label ≠ -1) : unl out' + 1 ≤ unl out := by
  have := unl_le (out.set v label) out' (by rw [h.len, List.length_set]) (fun x hx => by
    rw [la_set] at hx
    by_cases e : x = v
    · subst e
      rw [h.me]; exact hl
    · rw [if_neg (fun q => e q.1)] at hx
      rw [h.keep x hx]
      exact hx)
  have h2 := unl_set hv ho hl
  omega
end
/-- The nodes below i have labels; each label is the least node that hangs together with it. -/
structure Jo (l : List S53) (n i : Nat) (out : List Int) : Prop where
  len : out.length = n
  low : ∀ u, u < i → la out u ≠ -1
  least : ∀ x, la out x ≠ -1 → ∃ k : Nat, la out x = (k : Int) ∧ Con l x k ∧ ∀ y, Con l x y → k ≤ y
  shut : ∀ x, la out x ≠ -1 → ∀ c, Adj l x c → la out c ≠ -1
theorem Jo.con {l : List S53} {n i : Nat} {out : List Int} (h : Jo l n i out) {x y : Nat} (hx : la out x ≠ -1) (hc : Con l x y) : la out y ≠ -1 := by
  induction hc with
  | refl => exact hx
  | step _ e ih => exact h.shut _ ih _ e
theorem Jo.step {l : List S53} {n i : Nat} {out out' : List Int} (hsym : ∀ x c, Adj l x c → Adj l c x) (h : Jo l n i out) (hj : Jn l (i : Int) i out out') : Jo l n (i + 1) out' := by
  have sym : ∀ x y, Con l x y → Con l y x := fun x y hc => by
    induction hc with
    | refl => exact .refl
    | step _ e ih => exact (Con.step .refl (hsym _ _ e)).trans ih
  have mono : ∀ x, la out x ≠ -1 → la out' x ≠ -1 := fun x hx => by rw [hj.keep x hx]; exact hx
  refine ⟨hj.len.trans h.len, fun u hu => ?_, fun x hx => ?_, fun x hx c hc => ?_⟩
  · rcases Nat.lt_succ_iff_lt_or_eq.1 hu with q | rfl
    · exact mono u (h.low u q)
    · exact hj.me
  · by_cases e : la out x = -1
    · obtain ⟨q1, q2⟩ := hj.new x e hx
      refine ⟨i, q1, sym _ _ q2, fun y hy => ?_⟩
      apply Nat.le_of_not_lt
      intro hyi
      exact h.con (h.low y hyi) (sym _ _ hy) e
    · rw [hj.keep x e]
      exact h.least x e
  · by_cases e : la out x = -1
    · exact hj.done x e hx c hc
    · exact mono c (h.shut x e c hc)
theorem Jo.start (l : List S53) (n : Nat) : Jo l n 0 (List.replicate n (-1)) := by
  have hf : ∀ x, la (List.replicate n (-1)) x = -1 := fun x => by
    unfold la
    rw [List.getD_eq_getElem?_getD, List.getElem?_replicate]
    split <;> rfl
  exact ⟨by simp, fun u hu => by omega, fun x hx => absurd (hf x) hx, fun x hx => absurd (hf x) hx⟩
theorem adj_sym {l : List S53} (hf : ∀ e ∈ l, 0 ≤ e.f0 ∧ 0 ≤ e.f1) (x c : Nat) (h : Adj l x c) : Adj l c x := by
  rcases h with h | h
  · obtain ⟨e, he, hp, hc⟩ := mem_nx.1 h
    have := hf e he
    refine .inr (mem_pr.2 ⟨e, he, ?_, ?_⟩)
    · simp only [P_, beq_iff_eq, decide_eq_true_eq] at hp ⊢
      omega
    · simp only [P_, beq_iff_eq, decide_eq_true_eq] at hp
      omega
  · obtain ⟨e, he, hp, hc⟩ := mem_pr.1 h
    have := hf e he
    refine .inl (mem_nx.2 ⟨e, he, ?_, ?_⟩)
    · simp only [P_, beq_iff_eq, decide_eq_true_eq] at hp ⊢
      omega
    · simp only [P_, beq_iff_eq, decide_eq_true_eq] at hp
      omega
end Go.Proofs.Ytkpaefeaplgnmaa.G
