/- Plain facts on levels: the document's rounds come to the same. -/
import Derived.Test.YtkpaefeaplgnmaaRefLib
set_option linter.unusedSimpArgs false
set_option linter.unusedVariables false
namespace Go.Proofs.Ytkpaefeaplgnmaa.G
open Go.RowKit Go.Proofs.Ytkpaefeaplgnmaa.PA Go.Proofs.Ytkpaefeaplgnmaa.Mp Go.Proofs.YtkpaefeaplgnmaaW.PrintWords Go.Proofs.YtkpaefeaplgnmaaW.PrintLast Go.Proofs.YtkpaefeaplgnmaaW.PrintMore

/-- How far nodes are. -/
structure Dst (n : Nat) (l : List S53) (root : Int) (D : Nat → Int) : Prop where
  p0 : ∀ v, v < n → (D v = 0 ↔ (v : Int) = root)
  p2 : ∀ v, v < n → 0 < D v → ∃ e ∈ l, e.f1 = (v : Int) ∧ D e.f0.toNat = D v - 1
  p3 : ∀ v, v < n → 0 ≤ D v → ∀ e ∈ l, e.f0 = (v : Int) → 0 ≤ D e.f1.toNat ∧ D e.f1.toNat ≤ D v + 1
  p4 : ∀ v, v < n → -1 ≤ D v ∧ D v ≤ (n : Int) - 1
theorem dst_levs (n : Nat) (l : List S53) (root : Int) (hf : InB n l) (h1 : 1 ≤ n) (hn : n ≤ 12) : Dst n l root (lv (levs true n l root)) ∧ (levs true n l root).length = n := by
  by_cases hr : 0 ≤ root ∧ root < n
  · obtain ⟨r, rfl⟩ := Int.eq_ofNat_of_zero_le hr.1
    have h := levs_spec (root := r) (by omega) hn hf
    refine ⟨⟨fun v hv => ⟨fun h0 => by rw [h.zero v hv h0], fun e => ?_⟩, h.from_, fun v hv hp => h.done v hv hp (by simp), fun v hv => ?_⟩, h.len⟩
    · have : v = r := by omega
      subst this
      exact h.root0.2
    · have := h.lo v hv
      omega
  · have hl : levs true n l root = List.replicate n (-1) := by
      unfold levs
      rw [if_neg (by decide), if_pos (by omega)]
    rw [hl]
    refine ⟨⟨fun v hv => ?_, fun v hv hp => ?_, fun v hv hp => ?_, fun v hv => ?_⟩, by simp⟩
    · rw [lv_rep hv]; omega
    · rw [lv_rep hv] at hp; omega
    · rw [lv_rep hv] at hp; omega
    · rw [lv_rep hv]; omega
/-- One edge in a round. -/
def rnd1 (k : Int) (o : List Int) (e : S53) : List Int := if lv o e.f0.toNat = k ∧ lv o e.f1.toNat < 0 then o.set e.f1.toNat (k + 1) else o
theorem rnd1_len (k : Int) (o : List Int) (e : S53) : (rnd1 k o e).length = o.length := by unfold rnd1; split <;> simp
theorem rnd_len (k : Int) (es : List S53) : ∀ o : List Int, (es.foldl (rnd1 k) o).length = o.length := by
  induction es with
  | nil => exact fun o => rfl
  | cons e es ih => exact fun o => by rw [List.foldl_cons, ih, rnd1_len]
open Classical in
/-- What a node's level is in a round of which some edges are done. -/
noncomputable def part (D : Nat → Int) (k : Int) (pre : List S53) (v : Nat) : Int := if 0 ≤ D v ∧ D v ≤ k then D v else if D v = k + 1 ∧ ∃ e ∈ pre, e.f1 = (v : Int) ∧ D e.f0.toNat = k then k + 1 else -1
theorem rnd_part {n : Nat} {l : List S53} {root : Int} {D : Nat → Int} (hD : Dst n l root D) (hf : InB n l) (k : Int) (hk : 0 ≤ k) : ∀ (es pre : List S53) (o : List Int), l = pre ++ es → o.length = n → (∀ v, v < n → lv o v = part D k pre v) →
    ∀ v, v < n → lv (es.foldl (rnd1 k) o) v = part D k l v := by
  intro es
  induction es with
  | nil => intro pre o hl _ ho v hv; rw [hl, List.append_nil]; exact ho v hv
  | cons e es ih =>
    intro pre o hl hlen ho v hv
    rw [List.foldl_cons]
    refine ih (pre ++ [e]) _ (by rw [hl]; simp) (by rw [rnd1_len]; exact hlen) (fun w hw => ?_) v hv
    have he : e ∈ l := by rw [hl]; simp
    have hfe := hf e he
    have ha := ho e.f0.toNat (by omega)
    have hb := ho e.f1.toNat (by omega)
    have hw' := ho w hw
    have hp3 := hD.p3 e.f0.toNat (by omega)
    have hex : ∀ x : Nat, (∃ e' ∈ pre ++ [e], e'.f1 = (x : Int) ∧ D e'.f0.toNat = k) ↔ (∃ e' ∈ pre, e'.f1 = (x : Int) ∧ D e'.f0.toNat = k) ∨ (e.f1 = (x : Int) ∧ D e.f0.toNat = k) := fun x => by
      constructor
      · rintro ⟨e', he', h⟩
        rcases List.mem_append.1 he' with q | q
        · exact .inl ⟨e', q, h⟩
        · rw [List.mem_singleton.1 q] at h; exact .inr h
      · rintro (⟨e', he', h⟩ | h)
        · exact ⟨e', List.mem_append_left _ he', h⟩
        · exact ⟨e, List.mem_append_right _ (List.mem_singleton_self _), h⟩
    unfold rnd1
    by_cases hc : lv o e.f0.toNat = k ∧ lv o e.f1.toNat < 0
    · rw [if_pos hc, lv_set (by omega)]
      have hDk : D e.f0.toNat = k := by
        have h1 := hc.1
        rw [ha] at h1
        unfold part at h1
        split at h1
        · exact h1
        · split at h1 <;> omega
      have hnb := hc.2
      rw [hb] at hnb
      have h3 := hp3 (by omega) e he (by omega)
      have hD1 : D e.f1.toNat = k + 1 := by
        unfold part at hnb
        split at hnb
        · omega
        · omega
      by_cases hwe : w = e.f1.toNat
      · rw [if_pos hwe]
        unfold part
        rw [if_neg (by rw [hwe]; omega), if_pos ⟨by rw [hwe]; exact hD1, (hex w).2 (.inr ⟨by omega, hDk⟩)⟩]
      · rw [if_neg hwe, hw']
        unfold part
        split
        · rfl
        · have : (∃ e' ∈ pre ++ [e], e'.f1 = (w : Int) ∧ D e'.f0.toNat = k) ↔ (∃ e' ∈ pre, e'.f1 = (w : Int) ∧ D e'.f0.toNat = k) := by
            rw [hex]
            constructor
            · rintro (h | h)
              · exact h
              · omega
            · exact .inl
          simp only [this]
    · rw [if_neg hc, hw']
      unfold part
      split
      · rfl
      · by_cases hq : e.f1 = (w : Int) ∧ D e.f0.toNat = k
        · have hwe : w = e.f1.toNat := by omega
          have h1 : lv o e.f0.toNat = k := by rw [ha]; unfold part; rw [if_pos (by omega)]; exact hq.2
          have h2 : ¬ lv o e.f1.toNat < 0 := fun q => hc ⟨h1, q⟩
          rw [hb, ← hwe] at h2
          unfold part at h2
          have : D w = k + 1 ∧ ∃ e' ∈ pre, e'.f1 = (w : Int) ∧ D e'.f0.toNat = k := by
            split at h2
            · contradiction
            · split at h2
              · assumption
              · omega
          rw [if_pos this, if_pos ⟨this.1, (hex w).2 (.inl this.2)⟩]
        · have : (∃ e' ∈ pre ++ [e], e'.f1 = (w : Int) ∧ D e'.f0.toNat = k) ↔ (∃ e' ∈ pre, e'.f1 = (w : Int) ∧ D e'.f0.toNat = k) := by
            rw [hex]
            exact ⟨fun h => h.resolve_right hq, .inl⟩
          simp only [this]
/-- All rounds ahead of one. -/
def upto (D : Nat → Int) (k : Int) (v : Nat) : Int := if 0 ≤ D v ∧ D v ≤ k then D v else -1
theorem rnd_all {n : Nat} {l : List S53} {root : Int} {D : Nat → Int} (hD : Dst n l root D) (hf : InB n l) (k : Int) (hk : 0 ≤ k) (o : List Int) (hlen : o.length = n) (ho : ∀ v, v < n → lv o v = upto D k v) :
    ∀ v, v < n → lv (l.foldl (rnd1 k) o) v = upto D (k + 1) v := by
  intro v hv
  rw [rnd_part hD hf k hk l [] o rfl hlen (fun w hw => by rw [ho w hw]; unfold part upto; simp) v hv]
  unfold part upto
  have hp2 := hD.p2 v hv
  by_cases h1 : 0 ≤ D v ∧ D v ≤ k
  · rw [if_pos h1, if_pos (by omega)]
  · rw [if_neg h1]
    by_cases h2 : D v = k + 1
    · obtain ⟨e, he, h3, h4⟩ := hp2 (by omega)
      rw [if_pos ⟨h2, e, he, h3, by omega⟩, if_pos (by omega), h2]
    · rw [if_neg (fun q => h2 q.1), if_neg (by omega)]
theorem w64_small {x : Int} (h : -1 ≤ x ∧ x < 1000) : wrap64 (x + 1) = x + 1 := by unfold wrap64; omega
theorem rd_lv {o : List Int} {x : Int} : rd o x = lv o x.toNat := rfl
theorem ref_l2 (l : List S53) (n : Nat) (k : Int) (hk : 0 ≤ k ∧ k < 100) (hf : InB n l) (hl : l.length ≤ 100) (r : List Int × Int) : ∀ (d i : Nat) (o : List Int) (K : Nat), l.length - i = d → i ≤ l.length → o.length = n →
    reticuleref03_Graph_Levels.l1 K ((l.drop i).foldl (rnd1 k) o) (k + 1) (n : Int) l = some r → reticuleref03_Graph_Levels.l2 (K + d + 1) o k (i : Int) (n : Int) l = some r := by
  intro d
  induction d with
  | zero =>
    intro i o K h0 h1 h2 hr
    simp only [reticuleref03_Graph_Levels.l2, reticuleref03_Graph_M.f, Option.bind_some]
    rw [if_neg (by omega), w64_small (by omega)]
    rw [List.drop_of_length_le (by omega)] at hr
    exact hr
  | succ d ih =>
    intro i o K h0 h1 h2 hr
    have hi : i < l.length := by omega
    have hfe := hf _ (List.getElem_mem hi)
    rw [List.drop_eq_getElem_cons hi, List.foldl_cons] at hr
    have hn := ih (i + 1) (rnd1 k o l[i]) K (by omega) (by omega) (by rw [rnd1_len]; exact h2) hr
    rw [show K + (d + 1) + 1 = (K + d + 1) + 1 from by omega]
    generalize K + d + 1 = F at hn ⊢
    simp only [reticuleref03_Graph_Levels.l2, reticuleref03_Graph_M.f, Option.bind_some]
    rw [if_pos (by omega), if_pos (by omega), if_pos (by omega), rd53 hi, if_pos hfe.1, if_pos (by omega), w64_succ (by omega), w64_small (by omega), rd_lv, rd_lv]
    by_cases c1 : lv o l[i].f0.toNat = k
    · rw [if_pos c1, if_pos hfe.2.2.1, if_pos (by omega)]
      by_cases c2 : lv o l[i].f1.toNat < 0
      · rw [if_pos c2]
        unfold rnd1 at hn
        rw [if_pos ⟨c1, c2⟩] at hn
        exact hn
      · rw [if_neg c2]
        unfold rnd1 at hn
        rw [if_neg (fun q => c2 q.2)] at hn
        exact hn
    · rw [if_neg c1]
      unfold rnd1 at hn
      rw [if_neg (fun q => c1 q.1)] at hn
      exact hn
theorem ref_l1 (l : List S53) (n : Nat) (root : Int) (hf : InB n l) (hl : l.length ≤ 100) (h1 : 1 ≤ n) (hn : n ≤ 12) : ∀ (d i : Nat) (o : List Int), n - i = d → i ≤ n → o.length = n → (∀ v, v < n → lv o v = upto (lv (levs true n l root)) i v) →
    ∃ K, reticuleref03_Graph_Levels.l1 K o (i : Int) (n : Int) l = some (levs true n l root, (n : Int)) := by
  obtain ⟨hD, hlen⟩ := dst_levs n l root hf h1 hn
  intro d
  induction d with
  | zero =>
    intro i o h0 h1 h2 ho
    refine ⟨1, ?_⟩
    simp only [reticuleref03_Graph_Levels.l1, reticuleref03_Graph_N.f, Option.bind_some]
    rw [if_neg (by omega)]
    have : o = levs true n l root := by
      apply List.ext_getElem (by omega)
      intro v hv hv2
      have h4 := hD.p4 v (by omega)
      have h5 := ho v (by omega)
      unfold upto at h5
      have e1 : lv o v = o[v] := by simp [lv, hv]
      have e2 : lv (levs true n l root) v = (levs true n l root)[v] := by simp [lv, hv2]
      rw [← e1, ← e2, h5]
      split <;> omega
    rw [this]
  | succ d ih =>
    intro i o h0 h1 h2 ho
    obtain ⟨K, hK⟩ := ih (i + 1) (l.foldl (rnd1 i) o) (by omega) (by omega) (by rw [rnd_len]; exact h2) (fun v hv => by
      rw [rnd_all hD hf (i : Int) (by omega) o h2 ho v hv]
      rfl)
    refine ⟨K + l.length + 1 + 1, ?_⟩
    simp only [reticuleref03_Graph_Levels.l1, reticuleref03_Graph_N.f, Option.bind_some]
    rw [if_pos (by omega)]
    exact ref_l2 l n (i : Int) (by omega) hf hl _ l.length 0 o K (by omega) (by omega) h2 (by simpa using hK)
/-- How levels begin. -/
def beg (root : Int) (i : Nat) : List Int := (List.range i).map (fun v : Nat => if (v : Int) = root then 0 else -1)
theorem levels_f (l : List S53) (n : Nat) (root : Int) (hf : InB n l) (hl : l.length ≤ 100) (h1 : 1 ≤ n) (hn : n ≤ 12) : ∃ k, reticuleref03_Graph_Levels.f k (n : Int) l root = some (levs true n l root, (n : Int)) := by
  obtain ⟨hD, hlen⟩ := dst_levs n l root hf h1 hn
  have key : ∀ (d i : Nat), n - i = d → i ≤ n → ∃ k, reticuleref03_Graph_Levels.l0 k root (beg root i) (i : Int) (n : Int) l = some (levs true n l root, (n : Int)) := by
    intro d
    induction d with
    | zero =>
      intro i h0 h1'
      have hi : i = n := by omega
      subst hi
      obtain ⟨K, hK⟩ := ref_l1 l i root hf hl h1 hn i 0 (beg root i) (by omega) (by omega) (by simp [beg]) (fun v hv => by
        have e : lv (beg root i) v = if (v : Int) = root then 0 else -1 := by simp [lv, beg, hv]
        have hp := hD.p0 v hv
        rw [e]
        unfold upto
        by_cases c : (v : Int) = root
        · rw [if_pos c]
          have := hp.2 c
          rw [if_pos (by omega), this]
        · rw [if_neg c, if_neg (fun q => c (hp.1 (by omega)))])
      refine ⟨K + 1, ?_⟩
      simp only [reticuleref03_Graph_Levels.l0, reticuleref03_Graph_N.f, Option.bind_some]
      rw [if_neg (by omega)]
      exact hK
    | succ d ih =>
      intro i h0 h1'
      obtain ⟨k, hk⟩ := ih (i + 1) (by omega) (by omega)
      refine ⟨k + 1, ?_⟩
      have hb : beg root (i + 1) = beg root i ++ [if (i : Int) = root then 0 else -1] := by simp [beg, List.range_succ]
      have hbl : (beg root i).length = i := by simp [beg]
      simp only [reticuleref03_Graph_Levels.l0, reticuleref03_Graph_N.f, Option.bind_some]
      rw [if_pos (by omega), w64_succ (by omega)]
      rw [hb] at hk
      by_cases c : (i : Int) = root
      · rw [if_pos c, if_pos (by omega)]
        rw [if_pos c] at hk
        exact hk
      · rw [if_neg c, if_pos (by omega)]
        rw [if_neg c] at hk
        exact hk
  exact key n 0 (by omega) (by omega)
theorem rows_f (l : List S53) (n : Nat) (hf : InB n l) (hl : l.length ≤ 100) (hn : n ≤ 12) : ∃ k, reticuleref03_Graph_Rows.f k (n : Int) l = some (rowsN l (n + 1), colsN l n, (n : Int)) := ref_rows l n hf hl hn n 0 (by omega) (by omega)
end Go.Proofs.Ytkpaefeaplgnmaa.G
