/- The walks of graph: how far nodes are from one. -/
import Derived.Test.YtkpaefeaplgnmaaGraphJ
import Derived.Outline
set_option linter.unusedSimpArgs false
set_option linter.unusedVariables false
namespace Go.Proofs.Ytkpaefeaplgnmaa.G
open Go.RowKit Go.Shelf Go.Proofs.Ytkpaefeaplgnmaa.PA Go.Proofs.Ytkpaefeaplgnmaa.Mp Go.Proofs.YtkpaefeaplgnmaaW.PrintWords Go.Proofs.YtkpaefeaplgnmaaW.PrintLast Go.Proofs.YtkpaefeaplgnmaaW.PrintMore
attribute [local go_sem] Oper.semAt_some

theorem next_stops (m : Nat) (hm : 1 ≤ m) (Bg g n v : Nat) (l : List S53) (w0 w : World) (hv : v < n) (hf : Fits n l) (hg : IsG w0 g n l) (hB0 : w0.heap.size ≤ Bg) (hb : Below w0.heap.size w0 w) (hBg : w.heap[Bg]? = some (.cells #[.pointer (some ⟨g, 0, none⟩)] 24 (0, 0))) (hBv : w.heap[Bg + 1]? = some (.cells #[.int .i64 (v : Int)] 3 (0, 0))) :
    SeqStopsK Fence.wide m Try.prog 64 #[.pointer (some ⟨Bg, 0, none⟩), .pointer (some ⟨Bg + 1, 0, none⟩)] (fun x : Fin n => #[Value.int .i64 (x.1 : Int)]) (KpG w0.heap.size Bg) (fun ys => ys.map Fin.val = nxt l v) (fun _ => True) 30 w := fun L J Jx W hW hJ _ hY h0 =>
  next1_in m hm L Bg g n v l w0 hv hf hg hB0 J Jx hY W (fun pre W1 k hj => hJ pre W1 _ none hj (grown_none (pw_below_drewN (Below.refl _ _) k)) (fun r e => by cases e))
    ((hW.block Bg (Array.getElem?_eq_some_iff.1 hBg).1).trans hBg) ((hW.block (Bg + 1) (Array.getElem?_eq_some_iff.1 hBv).1).trans hBv) (below_then hb hb.size hW) h0

/-- One node comes: if it has no level it has one, and waits. -/
def take1 (u : Nat) (s : List Int × List Nat) (v : Nat) : List Int × List Nat := if s.1.getD v 0 = -1 then (s.1.set v (wrap64 (s.1.getD u 0 + 1)), s.2 ++ [v]) else s
/-- Nodes wait: the first one's turn, and so on. -/
def bfs (l : List S53) : Nat → List Int → List Nat → List Int
  | 0, out, _ => out
  | _ + 1, out, [] => out
  | k + 1, out, u :: t => bfs l k ((nxt l u).foldl (take1 u) (out, u :: t)).1 ((nxt l u).foldl (take1 u) (out, u :: t)).2.tail
/-- How many have no level. -/
def unr (out : List Int) : Nat := out.countP (· == -1)
def levs (live : Bool) (n : Nat) (l : List S53) (root : Int) : List Int :=
  if live = false then [] else if root < 0 ∨ (n : Int) ≤ root then List.replicate n (-1) else bfs l (unr ((List.replicate n (-1)).set root.toNat 0) + 1) ((List.replicate n (-1)).set root.toNat 0) [root.toNat]

def qs (todo : List Nat) : List Int := todo.map (fun u : Nat => (u : Int))
/-- Levels, as they stand: where nodes' levels lie, what waits. -/
structure Lv (w0 W : World) (Bo go n Bt : Nat) (ok : Nat → Prop) (out : List Int) (todo : List Nat) : Prop where
  bo : Boxed W Bo 27 (.slice (some ⟨go, 0, none⟩) n n)
  ot : W.heap[go]? = some (.cells (out.map I).toArray 3 (0, 0))
  bt : ∃ v, Boxed W Bt 27 v ∧ Kd.Q (Kd.int .i64) 3 W w0.heap.size ok v (qs todo)
  bl : Below w0.heap.size w0 W
  len : out.length = n
  ne : Bo ≠ Bt
  okg : ∀ k, ok k → k ≠ go
  ago : w0.heap.size ≤ go
  abo : w0.heap.size ≤ Bo
  abt : w0.heap.size ≤ Bt
section
variable {w0 W : World} {Bo go n Bt : Nat} {ok ok' : Nat → Prop} {out : List Int} {todo : List Nat}
theorem Lv.kept {W' : World} {r : Option Nat} (h : Lv w0 W Bo go n Bt ok out todo) (hg : W.grownBy W' r) (h0 : ∀ k, r = some k → w0.heap.size ≤ k) (hr : ∀ k, r = some k → ∀ c t, W.heap[k]? ≠ some (.cells c t (0, 0))) : Lv w0 W' Bo go n Bt ok out todo := by
  have far : ∀ {k : Nat} {c : Array Value} {t : TypeId}, W.heap[k]? = some (.cells c t (0, 0)) → W'.heap[k]? = some (.cells c t (0, 0)) := fun {k c t} hk =>
    (hg.block k (Array.getElem?_eq_some_iff.1 hk).1 (fun e => hr k e.symm c t hk)).trans hk
  obtain ⟨v, hv, hq⟩ := h.bt
  refine ⟨far h.bo, far h.ot, ⟨v, far hv, Kd.Q_grown2 hq rfl hg (fun k e he => ?_)⟩, h.bl.grown hg h.bl.size h0, h.len, h.ne, h.okg, h.ago, h.abo, h.abt⟩
  obtain ⟨c, hc⟩ := Kd.Q_typed hq k he.symm
  exact hr k e c 3 hc
theorem Lv.drewN (h : Lv w0 W Bo go n Bt ok out todo) (k : Nat) : Lv w0 (W.drewN k) Bo go n Bt ok out todo := h.kept (r := none) (grown_none (pw_below_drewN (Below.refl _ _) k)) (fun _ e => by cases e) (fun _ e => by cases e)
theorem Lv.drew (h : Lv w0 W Bo go n Bt ok out todo) : Lv w0 W.drew Bo go n Bt ok out todo := h.kept (r := none) (grown_none (below_drew1 (Below.refl _ _))) (fun _ e => by cases e) (fun _ e => by cases e)
theorem Lv.mono (h : Lv w0 W Bo go n Bt ok out todo) (h1 : ∀ k, ok k → k < W.heap.size → ok' k) (h2 : ∀ k, ok' k → k ≠ go) : Lv w0 W Bo go n Bt ok' out todo := by
  obtain ⟨v, hv, hq⟩ := h.bt
  exact ⟨h.bo, h.ot, ⟨v, hv, Kd.Q_mono (Kd.Q_bound hq) (fun k hk => h1 k hk.1 hk.2.2.1)⟩, h.bl, h.len, h.ne, h2, h.ago, h.abo, h.abt⟩
theorem Lv.set (h : Lv w0 W Bo go n Bt ok out todo) (v : Nat) (x : Int) : Lv w0 (W.setCell ⟨go, v, none⟩ (.int .i64 x)) Bo go n Bt ok (out.set v x) todo := by
  obtain ⟨u, hu, hq⟩ := h.bt
  have n1 : Bo ≠ go := cells_ne h.bo h.ot (by decide)
  have n2 : Bt ≠ go := cells_ne hu h.ot (by decide)
  refine ⟨set_far h.bo n1, ?_, ⟨u, set_far hu n2, Kd.Q_far hq (fun k hk => h.okg k hk) _⟩, h.bl.setCell (p := ⟨go, v, none⟩) h.ago _, by rw [List.length_set]; exact h.len, h.ne, h.okg, h.ago, h.abo, h.abt⟩
  rw [heap_setCell_same W go v _ 3 _ h.ot]
  simp [I]
theorem Lv.cell (h : Lv w0 W Bo go n Bt ok out todo) {v : Nat} (hv : v < n) : W.cell? ⟨go, v, none⟩ = some (.int .i64 (out.getD v 0)) := by
  rw [cell_of h.ot]
  have : v < out.length := by rw [h.len]; exact hv
  simp [I, this]
theorem Lv.free (h : Lv w0 W Bo go n Bt ok out todo) (v : Nat) : W.frozen? ⟨go, v, none⟩ = false := by simp [World.frozen?, h.ot]
/-- One more waits. -/
theorem Lv.push (h : Lv w0 W Bo go n Bt ok out todo) (hfr : ∀ k, W.heap.size ≤ k → ok k) (hlen : todo.length ≤ 1000) (x : Nat) : ∃ (A : Option Addr) (cap : Nat) (g1 o1 cap1 : Nat) (w1 : World),
    W.cell? ⟨Bt, 0, none⟩ = some (.slice A todo.length cap) ∧ (Builtin.append_ #[27, 27] 27 #[.slice A todo.length cap, .slice (some ⟨W.heap.size, 0, none⟩) 1 1]).run Try.prog (W.alloc (.cells #[.int .i64 (x : Int)] 3)) = .ok (.slice (some ⟨g1, o1, none⟩) (todo.length + 1) cap1) w1 ∧
    w1.cell? ⟨Bt, 0, none⟩ = some (.slice A todo.length cap) ∧ w1.frozen? ⟨Bt, 0, none⟩ = false ∧
    Lv w0 (w1.setCell ⟨Bt, 0, none⟩ (.slice (some ⟨g1, o1, none⟩) (todo.length + 1) cap1)) Bo go n Bt ok out (todo ++ [x]) ∧ KeepsOthers W (w1.setCell ⟨Bt, 0, none⟩ (.slice (some ⟨g1, o1, none⟩) (todo.length + 1) cap1)) ∧
    Below w0.heap.size W (w1.setCell ⟨Bt, 0, none⟩ (.slice (some ⟨g1, o1, none⟩) (todo.length + 1) cap1)) ∧
    (∀ k, k < W.heap.size → k ≠ Bt → ¬ ok k → (w1.setCell ⟨Bt, 0, none⟩ (.slice (some ⟨g1, o1, none⟩) (todo.length + 1) cap1)).heap[k]? = W.heap[k]?) := by
  obtain ⟨u, hu, hq⟩ := h.bt
  obtain ⟨A, cap, rfl, hc⟩ := Kd.Q_slice hq
  have hql : (qs todo).length = todo.length := by simp [qs]
  obtain ⟨v1, w1, hrun, hq1, hb1, hg1, hat1⟩ := Kd.Q_run (P := Try.prog) (Kd.int .i64) (w0 := W) w0.heap.size 27 27 3 (.int .i64 0) 8 Try.underlying27 info3' rfl (by decide) (by decide) _ _ (x : Int) [.int .i64 (x : Int)] ok (fun _ => False) rfl (fun _ h => h.elim) hfr hq (Below.refl _ _) h.bl.size (by rw [hql]; omega)
  obtain ⟨g1, o1, cap1, rfl, hg1b, hg1l, cs1, hcs1⟩ := Kd.Q_form hq1 (by simp)
  have hl1 : ((qs todo) ++ [(x : Int)]).length = todo.length + 1 := by simp [qs]
  have hqa : qs todo ++ [(x : Int)] = qs (todo ++ [x]) := by simp [qs]
  rw [hl1] at hrun hq1
  rw [hql] at hrun hu hg1 hq
  have far : ∀ {k : Nat} {c : Array Value} {t : TypeId}, W.heap[k]? = some (.cells c t (0, 0)) → t ≠ 3 → w1.heap[k]? = some (.cells c t (0, 0)) := fun {k c t} hk ht => by
    refine (hg1.block k (Array.getElem?_eq_some_iff.1 hk).1 (fun e => ?_)).trans hk
    obtain ⟨c', hc'⟩ := Kd.Q_typed hq k e.symm
    exact cells_ne hk hc' ht rfl
  have farok : ∀ k, k < W.heap.size → ¬ ok k → w1.heap[k]? = W.heap[k]? := fun k hk hn => hg1.block k hk (fun e => hn (hq.1 k e.symm))
  have bt1 : Boxed w1 Bt 27 _ := far hu (by decide)
  have gB : Bt ≠ g1 := cells_ne bt1 hcs1 (by decide)
  have hgol : go < W.heap.size := (Array.getElem?_eq_some_iff.1 h.ot).1
  have hgBt : go ≠ Bt := fun e => cells_ne h.ot hu (by decide) e
  refine ⟨A, cap, g1, o1, cap1, w1, hu.cell, hrun, bt1.cell, bt1.frozen, ⟨set_far (far h.bo (by decide)) h.ne, ?_, ⟨_, bt1.set _, ?_⟩, (h.bl.trans hb1).setCell (p := ⟨Bt, 0, none⟩) h.abt _, h.len, h.ne, h.okg, h.ago, h.abo, h.abt⟩, ?_, hb1.setCell (p := ⟨Bt, 0, none⟩) h.abt _, fun k hk hb hn => ?_⟩
  · exact set_far ((farok go hgol (fun e => h.okg go e rfl)).trans h.ot) hgBt
  · rw [← hqa]
    exact Kd.Q_grown1 hq1 rfl (setCell_grown w1 Bt 0 _) (fun e => gB (by simpa [Value.ownBlock] using e))
  · refine (KeepsOthers.of_grownBy hg1 fun j o ej hj => ?_).trans (KeepsOthers.setCell _ _ _)
    obtain ⟨c', hc'⟩ := Kd.Q_typed hq j ej
    rw [hc'] at hj
    cases hj
    rfl
  · rw [Below.heap_setCell _ _ _ _ hb]
    exact farok k hk hn
/-- The first one that waits. -/
theorem Lv.head {u : Nat} {t : List Nat} (h : Lv w0 W Bo go n Bt ok out (u :: t)) : ∃ (gq oq cap : Nat), W.cell? ⟨Bt, 0, none⟩ = some (.slice (some ⟨gq, oq, none⟩) (t.length + 1) cap) ∧ W.cell? ⟨gq, oq, none⟩ = some (.int .i64 (u : Int)) := by
  obtain ⟨v, hu, hq⟩ := h.bt
  obtain ⟨gq, oq, cap, rfl, _, _, _⟩ := Kd.Q_form hq (by simp [qs])
  have hql : (qs (u :: t)).length = t.length + 1 := by simp [qs]
  rw [hql] at hu hq
  have := (Kd.Q_cell (0 : Int) hq 0 (by decide) (by simp)).1
  exact ⟨gq, oq, cap, hu.cell, by simpa [rdOf, qs] using this⟩
theorem Lv.none_ (h : Lv w0 W Bo go n Bt ok out []) : ∃ (A : Option Addr) (cap : Nat), W.cell? ⟨Bt, 0, none⟩ = some (.slice A 0 cap) := by
  obtain ⟨v, hu, hq⟩ := h.bt
  obtain ⟨A, cap, rfl, _⟩ := Kd.Q_slice hq
  exact ⟨A, cap, by simpa [qs] using hu.cell⟩
/-- The first one's turn is over. -/
theorem Lv.pop {u : Nat} {t : List Nat} (h : Lv w0 W Bo go n Bt ok out (u :: t)) : ∃ (A : Option Addr) (cap : Nat) (A' : Option Addr), W.cell? ⟨Bt, 0, none⟩ = some (.slice A (t.length + 1) cap) ∧
    (∀ X : World, (Instr.slice 27 (.slice A (t.length + 1) cap) (some (.int .i64 1)) none none).run Try.prog X = .ok (.slice A' t.length (cap - 1)) X) ∧
    Lv w0 (W.alloc (.cells #[.slice A' t.length (cap - 1)] 27)) Bo go n W.heap.size ok out t := by
  obtain ⟨v, hu, hq⟩ := h.bt
  obtain ⟨A, cap, rfl, hc⟩ := Kd.Q_slice hq
  have hql : (qs (u :: t)).length = t.length + 1 := by simp [qs]
  obtain ⟨i3, hi3, z3, s3, b3⟩ := info_parts info3'
  have hcut := cut_from (P := Try.prog) 27 3 .i64 Try.underlying27 hi3 1 s3 A (t.length + 1) cap 1 (by decide) (by omega)
  have hd := Kd.Q_drop hq (k := 1) (by rw [hql]; omega)
  rw [hql] at hu hd
  rw [show (Kd.int .i64).sz = 1 from rfl] at hd
  rw [show (1 : Int).toNat = 1 from rfl, Nat.add_sub_cancel] at hcut
  rw [Nat.add_sub_cancel] at hd
  have ht : (qs (u :: t)).drop 1 = qs t := rfl
  rw [ht] at hd
  have gA := World.grownBy_alloc W (.cells #[.slice (if cap = 1 then A else A.map (·.add (1 * 1))) t.length (cap - 1)] 27) none
  have hgol : go < W.heap.size := (Array.getElem?_eq_some_iff.1 h.ot).1
  have hBol : Bo < W.heap.size := (Array.getElem?_eq_some_iff.1 h.bo).1
  exact ⟨A, cap, _, hu.cell, hcut, h.bo.alloc _, (Below.heap_alloc _ _ go hgol).trans h.ot, ⟨_, Boxed.new _ _ _, Kd.Q_alloc hd _⟩, h.bl.alloc h.bl.size _, h.len, by omega, h.okg, h.ago, h.abo, h.bl.size⟩
end
theorem take1_len (u : Nat) (s : List Int × List Nat) (v : Nat) : (take1 u s v).1.length = s.1.length ∧ (take1 u s v).2.length ≤ s.2.length + 1 := by
  unfold take1
  split
  · simp
  · exact ⟨rfl, by omega⟩
theorem fold_len (u : Nat) (vs : List Nat) (s : List Int × List Nat) : (vs.foldl (take1 u) s).1.length = s.1.length ∧ (vs.foldl (take1 u) s).2.length ≤ s.2.length + vs.length := by
  induction vs generalizing s with
  | nil => exact ⟨rfl, by simp⟩
  | cons v vs ih =>
    have h1 := take1_len u s v
    have h2 := ih (take1 u s v)
    simp only [List.foldl_cons, List.length_cons]
    omega
theorem fold_head (u : Nat) (vs : List Nat) (s : List Int × List Nat) (a : Nat) (t : List Nat) (h : s.2 = a :: t) : ∃ t', (vs.foldl (take1 u) s).2 = a :: t' := by
  induction vs generalizing s t with
  | nil => exact ⟨t, h⟩
  | cons v vs ih =>
    rw [List.foldl_cons]
    unfold take1
    split
    · exact ih _ (t ++ [v]) (by simp [h])
    · exact ih _ t h
theorem unr_set {out : List Int} {v : Nat} {x : Int} (h : out.getD v 0 = -1) (hv : v < out.length) (hx : x ≠ -1) : unr (out.set v x) + 1 = unr out := by
  induction out generalizing v with
  | nil => simp at hv
  | cons y out ih =>
    cases v with
    | zero =>
      simp at h
      subst h
      simp [unr, hx]
    | succ v =>
      have := ih (v := v) (by simpa using h) (by simpa using hv)
      simp only [List.set_cons_succ, unr, List.countP_cons] at this ⊢
      omega
/-- Levels on the way: none too great; those that wait are nodes; how much is left to do. -/
structure Wk (n : Nat) (s : List Int × List Nat) (k : Nat) : Prop where
  len : s.1.length = n
  ok : ∀ x ∈ s.1, -1 ≤ x ∧ x + (unr s.1 : Int) ≤ 20
  nd : ∀ u ∈ s.2, u < n
  sum : unr s.1 + s.2.length = k
theorem getD_mem {out : List Int} {v : Nat} (hv : v < out.length) : out.getD v 0 ∈ out := by
  rw [List.getD_eq_getElem?_getD, List.getElem?_eq_getElem hv]
  exact List.getElem_mem hv
theorem unr_le (out : List Int) : unr out ≤ out.length := List.countP_le_length
theorem Wk.lvl {n k u : Nat} {s : List Int × List Nat} (h : Wk n s k) (hu : u < n) : wrap64 (s.1.getD u 0 + 1) = s.1.getD u 0 + 1 := by
  have := h.ok _ (getD_mem (by rw [h.len]; exact hu))
  unfold wrap64
  omega
theorem Wk.step {n k u v : Nat} {s : List Int × List Nat} (h : Wk n s k) (hu : u < n) (hv : v < n) : Wk n (take1 u s v) k := by
  unfold take1
  split
  · rename_i hx
    have hlt : v < s.1.length := by rw [h.len]; exact hv
    have hk := h.ok _ (getD_mem (v := u) (by rw [h.len]; exact hu))
    rw [h.lvl hu]
    have hr := unr_set (x := s.1.getD u 0 + 1) hx hlt (by omega)
    refine ⟨by simp [h.len], fun x hm => ?_, fun w hw => ?_, ?_⟩
    · rcases List.mem_or_eq_of_mem_set hm with hm | rfl
      · have := h.ok x hm
        simp only at *
        omega
      · simp only at *
        omega
    · rcases List.mem_append.1 hw with hw | hw
      · exact h.nd w hw
      · rw [List.mem_singleton.1 hw]; exact hv
    · have := h.sum
      simp only [List.length_append, List.length_singleton] at *
      omega
  · exact h
theorem Wk.fold {n k u : Nat} (vs : List Nat) (hvs : ∀ v ∈ vs, v < n) (hu : u < n) : ∀ {s : List Int × List Nat}, Wk n s k → Wk n (vs.foldl (take1 u) s) k := by
  induction vs with
  | nil => exact fun h => h
  | cons v vs ih => exact fun h => ih (fun w hw => hvs w (List.mem_cons_of_mem _ hw)) (h.step hu (hvs v List.mem_cons_self))
theorem nxt_lt {l : List S53} {n v : Nat} (hf : ∀ e ∈ l, 0 ≤ e.f0 ∧ e.f0 < n ∧ 0 ≤ e.f1 ∧ e.f1 < n) : ∀ x ∈ nxt l v, x < n := by
  intro x hx
  unfold nxt at hx
  obtain ⟨i, hi, rfl⟩ := List.mem_map.1 hx
  obtain ⟨k, hk, rfl⟩ := List.getElem_of_mem hi
  obtain ⟨j, hj, hjl, _⟩ := rw_at hk
  rw [hj]
  have := hf _ (List.getElem_mem hjl)
  simp [hjl]
  omega
theorem bfs_nil (l : List S53) (k : Nat) (out : List Int) : bfs l k out [] = out := by cases k <;> rfl
/-- One turn. -/
theorem bfs_turn {l : List S53} {n k u : Nat} {out : List Int} {t : List Nat} (h : Wk n (out, u :: t) k) (hf : ∀ e ∈ l, 0 ≤ e.f0 ∧ e.f0 < n ∧ 0 ≤ e.f1 ∧ e.f1 < n) :
    ∃ k', k = k' + 1 ∧ ∃ t', ((nxt l u).foldl (take1 u) (out, u :: t)).2 = u :: t' ∧ Wk n (((nxt l u).foldl (take1 u) (out, u :: t)).1, t') k' ∧ bfs l k out (u :: t) = bfs l k' ((nxt l u).foldl (take1 u) (out, u :: t)).1 t' := by
  have hu : u < n := h.nd u List.mem_cons_self
  have h2 := h.fold (nxt l u) (nxt_lt hf) hu
  obtain ⟨t', ht⟩ := fold_head u (nxt l u) (out, u :: t) u t rfl
  have hs := h.sum
  simp only [List.length_cons] at hs
  obtain ⟨k', rfl⟩ : ∃ k', k = k' + 1 := ⟨k - 1, by omega⟩
  refine ⟨k', rfl, t', ht, ⟨h2.len, h2.ok, fun w hw => h2.nd w (by rw [ht]; exact List.mem_cons_of_mem _ hw), ?_⟩, ?_⟩
  · have := h2.sum
    rw [ht] at this
    simp only [List.length_cons] at *
    omega
  · show bfs l k' _ _ = _
    rw [ht]
    rfl
end Go.Proofs.Ytkpaefeaplgnmaa.G
