/- Plain facts on levels: what waits, and the rounds, come to the same. -/
import Derived.Test.YtkpaefeaplgnmaaOnceLib
set_option linter.unusedSimpArgs false
set_option linter.unusedVariables false
namespace Go.Proofs.Ytkpaefeaplgnmaa.G
open Go.RowKit Go.Proofs.Ytkpaefeaplgnmaa.PA Go.Proofs.Ytkpaefeaplgnmaa.Mp Go.Proofs.YtkpaefeaplgnmaaW.PrintWords Go.Proofs.YtkpaefeaplgnmaaW.PrintLast Go.Proofs.YtkpaefeaplgnmaaW.PrintMore

def InB (n : Nat) (l : List S53) : Prop := ∀ e ∈ l, 0 ≤ e.f0 ∧ e.f0 < n ∧ 0 ≤ e.f1 ∧ e.f1 < n
/-- The level of a node. -/
def lv (out : List Int) (v : Nat) : Int := out.getD v 0
theorem mem_nxt {l : List S53} {v w : Nat} (hf : ∀ e ∈ l, 0 ≤ e.f1) : w ∈ nxt l v ↔ ∃ e ∈ l, e.f0 = (v : Int) ∧ e.f1 = (w : Int) := by
  unfold nxt
  constructor
  · intro h
    obtain ⟨i, hi, rfl⟩ := List.mem_map.1 h
    obtain ⟨k, hk, rfl⟩ := List.getElem_of_mem hi
    obtain ⟨j, hj, hjl, hp⟩ := rw_at hk
    rw [hj]
    refine ⟨l[j], List.getElem_mem hjl, by simpa [P_] using hp, ?_⟩
    have := hf _ (List.getElem_mem hjl)
    simp [hjl]
    omega
  · rintro ⟨e, he, h0, h1⟩
    obtain ⟨j, hj, rfl⟩ := List.getElem_of_mem he
    refine List.mem_map.2 ⟨(j : Int), ?_, ?_⟩
    · unfold rw_ idxs
      refine List.mem_map.2 ⟨j, List.mem_filter.2 ⟨List.mem_range.2 hj, ?_⟩, rfl⟩
      rw [List.getElem?_eq_getElem hj]
      simpa [P_] using h0
    · simp [hj, h1]

/-- What holds while nodes wait. c: the one whose turn it is, with those of its edges that are done already. -/
structure Bf (n : Nat) (l : List S53) (root : Nat) (out : List Int) (todo : List Nat) : Prop where
  len : out.length = n
  lo : ∀ v, v < n → -1 ≤ lv out v ∧ lv out v + (unr out : Int) ≤ (n : Int) - 1
  nd : ∀ q ∈ todo, q < n ∧ 0 ≤ lv out q
  root0 : root < n ∧ lv out root = 0
  zero : ∀ v, v < n → lv out v = 0 → v = root
  from_ : ∀ v, v < n → 0 < lv out v → ∃ e ∈ l, e.f1 = (v : Int) ∧ lv out e.f0.toNat = lv out v - 1
  sorted : todo.Pairwise (fun a b => lv out a ≤ lv out b)
  near : ∀ q t, todo = q :: t → ∀ v, v < n → lv out v ≤ lv out q + 1
  done : ∀ v, v < n → 0 ≤ lv out v → v ∉ todo → ∀ e ∈ l, e.f0 = (v : Int) → 0 ≤ lv out e.f1.toNat ∧ lv out e.f1.toNat ≤ lv out v + 1
theorem lv_set {out : List Int} {v w : Nat} {x : Int} (hv : v < out.length) : lv (out.set v x) w = if w = v then x else lv out w := by
  unfold lv
  by_cases h : w = v
  · subst h; simp [hv]
  · simp only [List.getD_eq_getElem?_getD]
    rw [List.getElem?_set_ne (fun e => h e.symm), if_neg h]
/-- One of the first one's edges is done: where it leads has a level then. -/
structure Mf (n : Nat) (l : List S53) (root u : Nat) (t : List Nat) (out : List Int) (todo : List Nat) (dn : List Nat) : Prop where
  bf : (∀ v, v < n → -1 ≤ lv out v ∧ lv out v + (unr out : Int) ≤ (n : Int) - 1) ∧ out.length = n
  nd : ∀ q ∈ todo, q < n ∧ 0 ≤ lv out q
  root0 : root < n ∧ lv out root = 0
  zero : ∀ v, v < n → lv out v = 0 → v = root
  from_ : ∀ v, v < n → 0 < lv out v → ∃ e ∈ l, e.f1 = (v : Int) ∧ lv out e.f0.toNat = lv out v - 1
  sorted : todo.Pairwise (fun a b => lv out a ≤ lv out b)
  near : ∀ v, v < n → lv out v ≤ lv out u + 1
  hd : ∃ t', todo = u :: t'
  done : ∀ v, v < n → 0 ≤ lv out v → v ∉ todo → ∀ e ∈ l, e.f0 = (v : Int) → 0 ≤ lv out e.f1.toNat ∧ lv out e.f1.toNat ≤ lv out v + 1
  dn : ∀ w ∈ dn, w < n → 0 ≤ lv out w
theorem Mf.step {n root u v : Nat} {l : List S53} {t : List Nat} {out : List Int} {todo dn : List Nat} (h : Mf n l root u t out todo dn) (hv : v < n) (he : ∃ e ∈ l, e.f0 = (u : Int) ∧ e.f1 = (v : Int)) (hn : n ≤ 1000) :
    Mf n l root u t (take1 u (out, todo) v).1 (take1 u (out, todo) v).2 (v :: dn) := by
  obtain ⟨t', ht⟩ := h.hd
  have hu := h.nd u (by rw [ht]; exact List.mem_cons_self)
  have hlen := h.bf.2
  unfold take1
  by_cases hx : out.getD v 0 = -1
  · rw [if_pos hx]
    have hx' : lv out v = -1 := hx
    have hbu := h.bf.1 u hu.1
    have hwr : wrap64 (out.getD u 0 + 1) = lv out u + 1 := by
      show wrap64 (lv out u + 1) = _
      unfold wrap64
      omega
    simp only [hwr]
    have hvl : v < out.length := by omega
    have hs : ∀ w, lv (out.set v (lv out u + 1)) w = if w = v then lv out u + 1 else lv out w := fun w => lv_set hvl
    have hr := unr_set (x := lv out u + 1) hx hvl (by omega)
    have huv : u ≠ v := fun e => by rw [e, hx'] at hu; omega
    have hnv : v ∉ todo := fun hm => by have := (h.nd v hm).2; omega
    have hrv : root ≠ v := fun e => by have := h.root0.2; rw [e, hx'] at this; omega
    refine ⟨⟨fun w hw => ?_, by simp [hlen]⟩, fun q hq => ?_, ⟨h.root0.1, ?_⟩, fun w hw hz => ?_, fun w hw hpos => ?_, ?_, fun w hw => ?_, ⟨t' ++ [v], by rw [ht]; rfl⟩, fun w hw h0 hnt e hel hef => ?_, fun w hw hwn => ?_⟩
    · rw [hs]
      have := h.bf.1 w hw
      split <;> omega
    · rcases List.mem_append.1 hq with hq | hq
      · have := h.nd q hq
        refine ⟨this.1, ?_⟩
        rw [hs]
        split <;> omega
      · rw [List.mem_singleton.1 hq, hs, if_pos rfl]
        exact ⟨hv, by omega⟩
    · rw [hs, if_neg hrv]; exact h.root0.2
    · rw [hs] at hz
      split at hz
      · omega
      · exact h.zero w hw hz
    · rw [hs] at hpos ⊢
      by_cases hwv : w = v
      · subst hwv
        obtain ⟨e, hel, h0, h1⟩ := he
        refine ⟨e, hel, h1, ?_⟩
        rw [if_pos rfl, h0, Int.toNat_natCast, hs, if_neg huv]
        omega
      · rw [if_neg hwv] at hpos ⊢
        obtain ⟨e, hel, h1, h2⟩ := h.from_ w hw hpos
        refine ⟨e, hel, h1, ?_⟩
        rw [hs, if_neg (fun q => by rw [q, hx'] at h2; omega)]
        exact h2
    · rw [List.pairwise_append]
      refine ⟨?_, List.pairwise_singleton _ _, fun a ha b hb => ?_⟩
      · refine h.sorted.imp_of_mem (fun {a b} ha hb hab => ?_)
        rw [hs, hs, if_neg (fun (q : a = v) => hnv (by rw [← q]; exact ha)), if_neg (fun (q : b = v) => hnv (by rw [← q]; exact hb))]
        exact hab
      · rw [List.mem_singleton.1 hb, hs, hs, if_pos rfl, if_neg (fun (q : a = v) => hnv (by rw [← q]; exact ha))]
        exact h.near a (h.nd a ha).1
    · rw [hs, hs, if_neg huv]
      have := h.near w hw
      split <;> omega
    · have hnt' : w ∉ todo ∧ w ≠ v := ⟨fun q => hnt (List.mem_append_left _ q), fun q => hnt (List.mem_append_right _ (by rw [q]; exact List.mem_singleton_self _))⟩
      rw [hs, if_neg hnt'.2] at h0
      have := h.done w hw h0 hnt'.1 e hel hef
      rw [hs, hs, if_neg hnt'.2]
      split
      · rename_i q; rw [q, hx'] at this; omega
      · exact this
    · rw [hs]
      rcases List.mem_cons.1 hw with rfl | hw
      · rw [if_pos rfl]; omega
      · have := h.dn w hw hwn
        split <;> omega
  · rw [if_neg hx]
    have hx' : lv out v ≠ -1 := hx
    refine ⟨h.bf, h.nd, h.root0, h.zero, h.from_, h.sorted, h.near, h.hd, h.done, fun w hw hwn => ?_⟩
    rcases List.mem_cons.1 hw with rfl | hw
    · have := (h.bf.1 _ hv).1
      show 0 ≤ lv out w
      omega
    · exact h.dn w hw hwn
theorem Mf.fold {n root u : Nat} {l : List S53} {t : List Nat} (hn : n ≤ 1000) (vs : List Nat) (hvs : ∀ v ∈ vs, v < n ∧ ∃ e ∈ l, e.f0 = (u : Int) ∧ e.f1 = (v : Int)) : ∀ {out : List Int} {todo dn : List Nat}, Mf n l root u t out todo dn →
    Mf n l root u t (vs.foldl (take1 u) (out, todo)).1 (vs.foldl (take1 u) (out, todo)).2 (vs.reverse ++ dn) := by
  induction vs with
  | nil => exact fun h => h
  | cons v vs ih =>
    intro out todo dn h
    have h2 := ih (fun w hw => hvs w (List.mem_cons_of_mem _ hw)) (h.step (hvs v List.mem_cons_self).1 (hvs v List.mem_cons_self).2 hn)
    rw [List.foldl_cons, List.reverse_cons, List.append_assoc]
    exact h2
theorem Bf.turn {n root u : Nat} {l : List S53} {t : List Nat} {out : List Int} (hn : n ≤ 1000) (hf : InB n l) (h : Bf n l root out (u :: t)) :
    ∃ t', ((nxt l u).foldl (take1 u) (out, u :: t)).2 = u :: t' ∧ Bf n l root ((nxt l u).foldl (take1 u) (out, u :: t)).1 t' := by
  have hm : ∀ v ∈ nxt l u, v < n ∧ ∃ e ∈ l, e.f0 = (u : Int) ∧ e.f1 = (v : Int) := fun v hv => by
    obtain ⟨e, he, h0, h1⟩ := (mem_nxt (fun e he => (hf e he).2.2.1)).1 hv
    have := hf e he
    exact ⟨by omega, e, he, h0, h1⟩
  have h0 : Mf n l root u t out (u :: t) [] := ⟨⟨h.lo, h.len⟩, h.nd, h.root0, h.zero, h.from_, h.sorted, h.near u t rfl, ⟨t, rfl⟩, h.done, fun w hw => by cases hw⟩
  have h1 := h0.fold hn (nxt l u) hm
  obtain ⟨t', ht⟩ := h1.hd
  rw [ht] at h1
  refine ⟨t', ht, h1.bf.2, h1.bf.1, fun q hq => h1.nd q (List.mem_cons_of_mem _ hq), h1.root0, h1.zero, h1.from_, (List.pairwise_cons.1 h1.sorted).2, fun q t2 e v hv => ?_, fun v hv hp hnt e he hef => ?_⟩
  · have a := h1.near v hv
    have b := (List.pairwise_cons.1 h1.sorted).1 q (by rw [e]; exact List.mem_cons_self)
    omega
  · by_cases hvu : v = u
    · subst hvu
      have hfe := hf e he
      have hm2 : e.f1.toNat ∈ nxt l v := (mem_nxt (fun e he => (hf e he).2.2.1)).2 ⟨e, he, hef, by omega⟩
      refine ⟨h1.dn _ (by simpa using hm2) (by omega), h1.near _ (by omega)⟩
    · exact h1.done v hv hp (fun q => by rcases List.mem_cons.1 q with q | q; exact hvu q; exact hnt q) e he hef
theorem Bf.run {n root : Nat} {l : List S53} (hn : n ≤ 1000) (hf : InB n l) : ∀ (k : Nat) (out : List Int) (todo : List Nat), Wk n (out, todo) k → Bf n l root out todo → Bf n l root (bfs l k out todo) []
  | k, out, [], _, h => by rw [bfs_nil]; exact h
  | k, out, u :: t, hw, h => by
    obtain ⟨k', rfl, t', ht, hw', he⟩ := bfs_turn hw hf
    obtain ⟨t2, ht2, hb⟩ := h.turn hn hf
    rw [ht] at ht2
    injection ht2 with _ e
    subst e
    rw [he]
    exact Bf.run hn hf k' _ _ hw' hb
theorem unr_rep (n : Nat) : unr (List.replicate n (-1)) = n := by
  induction n with
  | zero => rfl
  | succ n ih => rw [List.replicate_succ]; simp only [unr, List.countP_cons] at *; simp; exact ih
theorem lv_rep {n v : Nat} (hv : v < n) : lv (List.replicate n (-1)) v = -1 := by simp [lv, hv]
/-- What levels are. -/
theorem levs_spec {n root : Nat} {l : List S53} (h1 : root < n) (hn : n ≤ 12) (hf : InB n l) : Bf n l root (levs true n l root) [] := by
  have hlevs : levs true n l root = bfs l (unr ((List.replicate n (-1)).set root 0) + 1) ((List.replicate n (-1)).set root 0) [root] := by
    unfold levs
    rw [if_neg (by decide), if_neg (by omega), Int.toNat_natCast]
  rw [hlevs]
  have hs : ∀ w, lv ((List.replicate n (-1)).set root 0) w = if w = root then 0 else lv (List.replicate n (-1)) w := fun w => lv_set (by simpa using h1)
  have hu : unr ((List.replicate n (-1)).set root 0) + 1 = n := by
    have := unr_set (out := List.replicate n (-1)) (v := root) (x := 0) (lv_rep h1) (by simpa using h1) (by decide)
    rw [unr_rep] at this
    exact this
  refine Bf.run (by omega) hf _ _ _ (Wk.start h1 hn) ⟨by simp, fun v hv => ?_, fun q hq => ?_, ⟨h1, by rw [hs, if_pos rfl]⟩, fun v hv hz => ?_, fun v hv hp => ?_, List.pairwise_singleton _ _, fun q t e v hv => ?_, fun v hv hp hnt => ?_⟩
  · rw [hs]
    split
    · omega
    · rw [lv_rep hv]; omega
  · rw [List.mem_singleton.1 hq, hs, if_pos rfl]; exact ⟨h1, by decide⟩
  · rw [hs] at hz
    split at hz
    · assumption
    · rw [lv_rep hv] at hz; omega
  · rw [hs] at hp
    split at hp
    · omega
    · rw [lv_rep hv] at hp; omega
  · injection e with e1 _
    subst e1
    rw [hs, hs, if_pos rfl]
    split
    · decide
    · rw [lv_rep hv]; decide
  · rw [hs] at hp
    split at hp
    · rename_i q; exact absurd (by rw [q]; exact List.mem_singleton_self _) hnt
    · rw [lv_rep hv] at hp; omega
end Go.Proofs.Ytkpaefeaplgnmaa.G
