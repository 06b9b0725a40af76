/- GraphRa, GraphRb, GraphRc, GraphRd, GraphRe, GraphRf, GraphRg, GraphRj -/
import Derived.Test.YtkpaefeaplgnmaaGraphL
section
/- The walks of graph: AppendSeq over a node's successors. -/
set_option linter.unusedSimpArgs false
set_option linter.unusedVariables false
namespace Go.Proofs.Ytkpaefeaplgnmaa.G
open Go.RowKit Go.Shelf Go.Proofs.Ytkpaefeaplgnmaa.PA Go.Proofs.Ytkpaefeaplgnmaa.Mp Go.Proofs.YtkpaefeaplgnmaaW.PrintWords Go.Proofs.YtkpaefeaplgnmaaW.PrintLast Go.Proofs.YtkpaefeaplgnmaaW.PrintMore
attribute [local go_sem] Oper.semAt_some

/-- A queue in a box: what lay there before stays, but for what the queue may have. -/
structure Tb (W1 W : World) (b0 Bt : Nat) (ok : Nat → Prop) (todo : List Nat) : Prop where
  bt : ∃ v, Boxed W Bt 27 v ∧ Kd.Q (Kd.int .i64) 3 W b0 ok v (qs todo)
  bl : Below b0 W1 W
  abt : W1.heap.size ≤ Bt
  kp : ∀ k, k < W1.heap.size → ¬ ok k → W.heap[k]? = W1.heap[k]?
section
variable {W1 W : World} {b0 Bt : Nat} {ok : Nat → Prop} {todo : List Nat}
theorem Tb.kept {W' : World} {r : Option Nat} (h : Tb W1 W b0 Bt ok todo) (hg : W.grownBy W' r) (h0 : ∀ k, r = some k → W1.heap.size ≤ k ∧ b0 ≤ k) (hr : ∀ k, r = some k → ∀ c t, W.heap[k]? ≠ some (.cells c t (0, 0))) (hb : b0 ≤ W.heap.size) : Tb W1 W' b0 Bt ok todo := by
  have far : ∀ {k : Nat} {c : Array Value} {t : TypeId}, W.heap[k]? = some (.cells c t (0, 0)) → W'.heap[k]? = some (.cells c t (0, 0)) := fun {k c t} hk =>
    (hg.block k (Array.getElem?_eq_some_iff.1 hk).1 (fun e => hr k e.symm c t hk)).trans hk
  obtain ⟨v, hv, hq⟩ := h.bt
  refine ⟨⟨v, far hv, ?_⟩, h.bl.grown hg hb (fun k e => (h0 k e).2), h.abt, fun k hk hn => ?_⟩
  · refine Kd.Q_mono (Kd.Q_step (Kd.Q_tight rfl hq) (fun k hk hlt => ?_)) (fun k hk => hq.1 k hk.symm)
    obtain ⟨c, hc⟩ := Kd.Q_typed hq k hk.symm
    rw [far hc, hc]
  · rw [hg.block k (Nat.lt_of_lt_of_le hk h.bl.size) (fun e => by have := (h0 k e.symm).1; omega)]
    exact h.kp k hk hn
theorem Tb.push (h : Tb W1 W b0 Bt ok todo) (hb0 : b0 ≤ W.heap.size) (hbB : b0 ≤ Bt) (hfr : ∀ k, W.heap.size ≤ k → ok k) (hlen : todo.length ≤ 1000) (x : Nat) : ∃ (A : Option Addr) (cap : Nat) (g1 o1 cap1 : Nat) (w1 : World),
    W.cell? ⟨Bt, 0, none⟩ = some (.slice A todo.length cap) ∧ (Builtin.append_ #[27, 27] 27 #[.slice A todo.length cap, .slice (some ⟨W.heap.size, 0, none⟩) 1 1]).run Try.prog (W.alloc (.cells #[.int .i64 (x : Int)] 3)) = .ok (.slice (some ⟨g1, o1, none⟩) (todo.length + 1) cap1) w1 ∧
    w1.cell? ⟨Bt, 0, none⟩ = some (.slice A todo.length cap) ∧ w1.frozen? ⟨Bt, 0, none⟩ = false ∧
    Tb W1 (w1.setCell ⟨Bt, 0, none⟩ (.slice (some ⟨g1, o1, none⟩) (todo.length + 1) cap1)) b0 Bt ok (todo ++ [x]) ∧ KeepsOthers W (w1.setCell ⟨Bt, 0, none⟩ (.slice (some ⟨g1, o1, none⟩) (todo.length + 1) cap1)) ∧
    Below b0 W (w1.setCell ⟨Bt, 0, none⟩ (.slice (some ⟨g1, o1, none⟩) (todo.length + 1) cap1)) ∧
    (∀ k, k < W.heap.size → k ≠ Bt → ¬ ok k → (w1.setCell ⟨Bt, 0, none⟩ (.slice (some ⟨g1, o1, none⟩) (todo.length + 1) cap1)).heap[k]? = W.heap[k]?) := by
  obtain ⟨u, hu, hq⟩ := h.bt
  obtain ⟨A, cap, rfl, hc⟩ := Kd.Q_slice hq
  have hql : (qs todo).length = todo.length := by simp [qs]
  obtain ⟨v1, w1, hrun, hq1, hb1, hg1, hat1⟩ := Kd.Q_run (P := Try.prog) (Kd.int .i64) (w0 := W) b0 27 27 3 (.int .i64 0) 8 Try.underlying27 info3' rfl (by decide) (by decide) _ _ (x : Int) [.int .i64 (x : Int)] ok (fun _ => False) rfl (fun _ h => h.elim) hfr hq (Below.refl _ _) hb0 (by rw [hql]; omega)
  obtain ⟨g1, o1, cap1, rfl, hg1b, hg1l, cs1, hcs1⟩ := Kd.Q_form hq1 (by simp)
  have hl1 : ((qs todo) ++ [(x : Int)]).length = todo.length + 1 := by simp [qs]
  have hqa : qs todo ++ [(x : Int)] = qs (todo ++ [x]) := by simp [qs]
  rw [hl1] at hrun hq1
  rw [hql] at hrun hu hg1 hq
  have far : ∀ {k : Nat} {c : Array Value} {t : TypeId}, W.heap[k]? = some (.cells c t (0, 0)) → t ≠ 3 → w1.heap[k]? = some (.cells c t (0, 0)) := fun {k c t} hk ht => by
    refine (hg1.block k (Array.getElem?_eq_some_iff.1 hk).1 (fun e => ?_)).trans hk
    obtain ⟨c', hc'⟩ := Kd.Q_typed hq k e.symm
    exact cells_ne hk hc' ht rfl
  have farok : ∀ k, k < W.heap.size → ¬ ok k → w1.heap[k]? = W.heap[k]? := fun k hk hn => hg1.block k hk (fun e => hn (hq.1 k e.symm))
  have bt1 : Boxed w1 Bt 27 _ := far hu (by decide)
  have gB : Bt ≠ g1 := cells_ne bt1 hcs1 (by decide)
  refine ⟨A, cap, g1, o1, cap1, w1, hu.cell, hrun, bt1.cell, bt1.frozen, ⟨⟨_, bt1.set _, ?_⟩, (h.bl.trans hb1).setCell (p := ⟨Bt, 0, none⟩) hbB _, h.abt, fun k hk hn => ?_⟩, ?_, hb1.setCell (p := ⟨Bt, 0, none⟩) hbB _, fun k hk hb hn => ?_⟩
  · rw [← hqa]
    exact Kd.Q_grown1 hq1 rfl (setCell_grown w1 Bt 0 _) (fun e => gB (by simpa [Value.ownBlock] using e))
  · rw [Below.heap_setCell _ _ _ _ (show k ≠ Bt from by have := h.abt; omega), farok k (Nat.lt_of_lt_of_le hk h.bl.size) hn]
    exact h.kp k hk hn
  · refine (KeepsOthers.of_grownBy hg1 fun j o ej hj => ?_).trans (KeepsOthers.setCell _ _ _)
    obtain ⟨c', hc'⟩ := Kd.Q_typed hq j ej
    rw [hc'] at hj
    cases hj
    rfl
  · rw [Below.heap_setCell _ _ _ _ hb]
    exact farok k hk hn
end
/-- Between two rounds. -/
def Mid2 (W1 : World) (b0 Bt Bg n : Nat) (ok : Nat → Prop) (todo : List Nat) (pre : List (Fin n)) (W : World) : Prop :=
  Tb W1 W b0 Bt (fun k => ok k ∧ k ≠ Bg ∧ k ≠ Bg + 1) (todo ++ pre.map Fin.val) ∧ Bg + 1 < W.heap.size ∧ b0 ≤ W.heap.size
theorem Mid2.own {W1 : World} {b0 Bt Bg n : Nat} {ok : Nat → Prop} {todo : List Nat} {B : Nat} (hB : W1.heap.size ≤ B) (hb : b0 ≤ B) : OwnFrom B (Mid2 W1 b0 Bt Bg n ok todo) := fun s W W' row hs hg hr => by
  refine ⟨hs.1.kept hg (fun k e => ⟨Nat.le_trans hB (hr k e).1, Nat.le_trans hb (hr k e).1⟩) (fun k e c t hk => ?_) hs.2.2, Nat.lt_of_lt_of_le hs.2.1 hg.size, Nat.le_trans hs.2.2 hg.size⟩
  obtain ⟨_, o, ho, hc⟩ := hr k e
  rw [hk] at ho
  cases ho
  cases hc
set_option maxRecDepth 100000 in
set_option maxHeartbeats 4000000 in
theorem appseq_in (m g n v : Nat) (l : List S53) (w0 W1 : World) (hg : IsG w0 g n l) (hf : Fits n l) (hv : v < n) (hm : 5 ≤ m) (hb : Below w0.heap.size w0 W1) (Bg : Nat) (hB0 : w0.heap.size ≤ Bg)
    (hBg : W1.heap[Bg]? = some (.cells #[.pointer (some ⟨g, 0, none⟩)] 24 (0, 0))) (hBv : W1.heap[Bg + 1]? = some (.cells #[.int .i64 (v : Int)] 3 (0, 0))) (ok : Nat → Prop) (hfr : ∀ k, W1.heap.size ≤ k → ok k) (A : Option Addr) (cap : Nat) (todo : List Nat) (hQ : Kd.Q (Kd.int .i64) 3 W1 w0.heap.size (fun k => ok k ∧ k ≠ Bg ∧ k ≠ Bg + 1) (.slice A todo.length cap) (qs todo)) (hlen : todo.length ≤ 900) :
    CallsIn Fence.wide m Try.prog 61 #[.slice A todo.length cap, .func (.func 64) #[] #[.pointer (some ⟨Bg, 0, none⟩), .pointer (some ⟨Bg + 1, 0, none⟩)]] W1 fun e W' => ∃ x', e = .returned x' ∧ Kd.Q (Kd.int .i64) 3 W' w0.heap.size (fun k => ok k ∧ k ≠ Bg ∧ k ≠ Bg + 1) x' (qs (todo ++ nxt l v)) ∧ Below w0.heap.size W1 W' ∧ ∀ k, k < W1.heap.size → ¬ (ok k ∧ k ≠ Bg ∧ k ≠ Bg + 1) → W'.heap[k]? = W1.heap[k]? := by
  have HG := Lib.hid hg
  have HF := Lib.hid hf
  have HB := Lib.hid hb
  have HQ := Lib.hid hQ
  have lB := (Array.getElem?_eq_some_iff.1 hBv).1
  have hs := hb.size
  have HBg := Lib.hid hBg
  have HBv := Lib.hid hBv
  clear hg hf hb hQ hBg hBv
  refine callsIn_of_wp_marks Try.func61 rfl trivial ?_ rfl
  simp only [Try.ntmps61, List.size_toArray, List.length_cons, List.length_nil, Nat.reduceAdd, Nat.reduceSub, Array.replicate_succ, Array.replicate_zero, List.push_toArray, List.append_toArray, List.nil_append, List.cons_append]
  gi_wp2
  have b1 := Boxed.new W1 27 (.slice A todo.length cap)
  have hA1 : Below W1.heap.size W1 (W1.alloc (.cells #[.slice A todo.length cap] 27)) := (Below.refl _ W1).alloc (Nat.le_refl _) _
  have hz : (W1.alloc (.cells #[.slice A todo.length cap] 27)).heap.size = W1.heap.size + 1 := by simp
  have hT : Tb W1 (W1.alloc (.cells #[.slice A todo.length cap] 27)) w0.heap.size W1.heap.size (fun k => ok k ∧ k ≠ Bg ∧ k ≠ Bg + 1) todo := ⟨⟨_, b1, Kd.Q_below HQ.out hA1⟩, (Below.refl _ W1).alloc hs _, Nat.le_refl _, fun k hk _ => hA1.block k hk⟩
  generalize W1.alloc (.cells #[.slice A todo.length cap] 27) = W2 at b1 hA1 hT hz ⊢
  have hbW2 : Below w0.heap.size w0 W2 := HB.out.trans hT.bl
  refine wpIn_rangeFunc_ownG rfl (by omega) (gf := 64) (lb := #[.pointer (some ⟨Bg, 0, none⟩), .pointer (some ⟨Bg + 1, 0, none⟩)]) rfl trivial (enters_of Try.func64 (by kernel_rfl) rfl)
    (next_stops (m - 1) (by omega) Bg g n v l w0 W2 hv HF.out HG.out hB0 hbW2 ((hA1.block _ (by omega)).trans HBg.out) ((hA1.block _ lB).trans HBv.out)) KpG.t (KpG.b (by omega) (by omega)) (Below.refl _ _) (fun _ => rfl)
    (Mid2 W1 w0.heap.size W1.heap.size Bg n ok todo) (fun _ _ _ => False) (Mid2.own (by omega) (by omega)) (fun _ _ _ _ _ hs _ _ => hs) ⟨by simpa using hT, by omega, by omega⟩
    (fun x => { tmps := #[.slice A todo.length cap, .func (.func 64) #[] #[.pointer (some ⟨Bg, 0, none⟩), .pointer (some ⟨Bg + 1, 0, none⟩)], .pointer (some ⟨W1.heap.size, 0, none⟩), undef, .slice none 0 0, .int .i64 (x.1 : Int), .func (.func 64) #[] #[.pointer (some ⟨Bg, 0, none⟩), .pointer (some ⟨Bg + 1, 0, none⟩)], .int .i64 (x.1 : Int), undef, undef, undef, undef, undef], defers := [] }) ?assign ?body ?done ?stop
  case assign =>
    intro L x W3 K hK
    gi_wp2
    exact hK
  case body =>
    rintro L pre x W3 ⟨hT3, hl3, hz3⟩ hpl
    have hpl' : (pre.map Fin.val).length < 30 := by simpa using hpl
    have hqe : ∃ q, q = todo ++ pre.map Fin.val := ⟨_, rfl⟩
    obtain ⟨q, hq0⟩ := hqe
    rw [← hq0] at hT3
    have hql : q.length ≤ 1000 := by rw [hq0, List.length_append]; omega
    have HQ0 := Lib.hid hq0
    clear hq0
    obtain ⟨A4, cap4, g4, o4, c4, w4, p1, p2, p3, p4, hT4, hK4, hb4, hF4⟩ := hT3.push hz3 (by omega) (fun k hk => ⟨hfr k (by have := hT3.bl.size; omega), by omega, by omega⟩) hql x.1
    have HT4 := Lib.hid hT4
    have HK4 := Lib.hid hK4
    have HF4 := Lib.hid hF4
    have HP2 := Lib.hid p2
    have HB4 := Lib.hid hb4
    have l3 : W1.heap.size < W3.heap.size := World.block_lt_of_cell? W3 _ p1
    have l4 : W1.heap.size < w4.heap.size := World.block_lt_of_cell? w4 _ p3
    clear hT3 hT4 hK4 hF4 p2 hb4 hT
    gi_wp2_with (gi_at_builtin; refine wpListIn_run (fun _ => trivial) rfl _ _ rfl rfl rfl HP2.out ?_)
    refine ⟨HK4.out.from _, ⟨HB4.out, HF4.out _ (by omega) (by omega) (fun h => h.2.1 rfl), HF4.out _ (by omega) (by omega) (fun h => h.2.2 rfl)⟩, ⟨?_, Nat.lt_of_lt_of_le hl3 HK4.out.size, Nat.le_trans hz3 HK4.out.size⟩⟩
    rw [List.map_append, ← List.append_assoc, ← HQ0.out]
    exact HT4.out
  case done =>
    rintro D ys W3 hD hys ⟨hT3, hl3, hz3⟩ hDk
    rw [hys] at hT3
    obtain ⟨u, hu, hq⟩ := hT3.bt
    have c1 := hu.cell
    have l5 : W1.heap.size < W3.heap.size := World.block_lt_of_cell? W3 _ c1
    have HT3 := Lib.hid hT3
    have HQ3 := Lib.hid hq
    have HDK := Lib.hid hDk
    clear hT3 hq hu hys hDk
    gi_wp2
    refine leaves_all (n₀ := W1.heap.size) [D] W3 ⟨List.nodup_cons.2 ⟨(by simp), List.nodup_nil⟩, fun D' hD' => ?_⟩ (fun W' hb hc => ?_)
    · rw [List.mem_singleton.1 hD']
      exact ⟨by omega, HDK.out⟩
    · refine ⟨_, results_tmp rfl _ _ _, _, rfl, ?_, HT3.out.bl.trans ⟨hb.os, hb.tape, hb.output, hb.size, fun q hq => hb.block q (by omega)⟩, fun k hk hn => (hb.block k hk).trans (HT3.out.kp k hk hn)⟩
      refine Kd.Q_mono (Kd.Q_step (Kd.Q_tight rfl HQ3.out) (fun k hk hlt => ?_)) (fun k hk => HQ3.out.1 k hk.symm)
      obtain ⟨c, hcc⟩ := Kd.Q_typed HQ3.out k hk.symm
      rw [hc k _ _ _ hcc, hcc]
  case stop =>
    rintro D c pre W3 _ _ h _
    exact h.elim
end Go.Proofs.Ytkpaefeaplgnmaa.G
end
section
/- The walks of graph: as many rows of as many. -/
set_option linter.unusedSimpArgs false
set_option linter.unusedVariables false
namespace Go.Proofs.Ytkpaefeaplgnmaa.G
open Go.RowKit Go.Proofs.Ytkpaefeaplgnmaa.PA Go.Proofs.Ytkpaefeaplgnmaa.Mp Go.Proofs.YtkpaefeaplgnmaaW.PrintWords Go.Proofs.YtkpaefeaplgnmaaW.PrintLast Go.Proofs.YtkpaefeaplgnmaaW.PrintMore

theorem info54 : (Try.prog.info? 54).map (fun i => (i.zero, i.size, i.bytes)) = some (some (.slice none 0 0), 1, 24) := by kernel_rfl
theorem info4 : (Try.prog.info? 4).map (fun i => (i.zero, i.size, i.bytes)) = some (some (.bool false), 1, 1) := by kernel_rfl
theorem made_list (z : Value) (hz : z.cells = #[z]) (n : Nat) : madeCells z.cells (n * 1) = Array.replicate n z := by
  rw [hz]
  have := toList_madeCells_one z n
  rw [Nat.mul_one]
  apply Array.ext'
  rw [this]
  simp
theorem mk_of (t e : TypeId) (z : Value) (by' : Nat) (ht : Try.prog.underlying t = some (.slice e)) (hi : (Try.prog.info? e).map (fun i => (i.zero, i.size, i.bytes)) = some (some z, 1, by')) (hz : z.cells = #[z]) (n : Nat) (hn : n ≤ 1000) (hby : by' ≤ 100) (W : World) :
    (Instr.makeSlice t (.int .i64 (n : Int)) (.int .i64 (n : Int))).run Try.prog W = .ok (.slice (some ⟨W.heap.size, 0, none⟩) n n) (W.alloc (.cells (Array.replicate n z) e)) := by
  obtain ⟨i, h1, h2, h3, h4⟩ := info_parts hi
  have hb : by' * n ≤ 100 * 1000 := Nat.mul_le_mul hby hn
  have := run_make (P := Try.prog) W t e i z ht h1 h2 .i64 .i64 (n : Int) (n : Int) (by omega) (by omega) (by rw [h4]; omega) (by omega)
  rw [this, h3]
  simp only [Int.toNat_natCast]
  rw [made_list z hz]

/-- As many rows of truths as there are nodes; the first i are made. -/
structure Rw (w0 W : World) (go n i : Nat) (gi : Nat → Nat) (R : Nat → List Bool) : Prop where
  ot : W.heap[go]? = some (.cells ((List.range n).map (fun v => if v < i then Value.slice (some ⟨gi v, 0, none⟩) n n else .slice none 0 0)).toArray 54 (0, 0))
  it : ∀ v, v < i → W.heap[gi v]? = some (.cells ((R v).map Value.bool).toArray 4 (0, 0)) ∧ (R v).length = n ∧ w0.heap.size ≤ gi v
  ne : ∀ u v, u < i → v < i → u ≠ v → gi u ≠ gi v
  ago : w0.heap.size ≤ go
  bl : Below w0.heap.size w0 W
theorem Rw.step {w0 W : World} {go n i : Nat} {gi : Nat → Nat} (h : Rw w0 W go n i gi (fun _ => List.replicate n false)) (hi : i < n) : Rw w0 ((W.setCell ⟨go, i, none⟩ (.slice (some ⟨W.heap.size, 0, none⟩) n n)).alloc (.cells (Array.replicate n (.bool false)) 4)) go n (i + 1) (fun v => if v = i then W.heap.size else gi v) (fun _ => List.replicate n false) := by
  have lgo := (Array.getElem?_eq_some_iff.1 h.ot).1
  have hlt : ∀ v, v < i → gi v < W.heap.size := fun v hv => (Array.getElem?_eq_some_iff.1 (h.it v hv).1).1
  refine ⟨?_, fun v hv => ?_, fun u v hu hv huv => ?_, h.ago, (h.bl.setCell (p := ⟨go, i, none⟩) h.ago _).alloc (by have := h.bl.size; simpa using this) _⟩
  · rw [Below.heap_alloc _ _ go (by simpa using lgo), heap_setCell_same W go i _ 54 _ h.ot, List.setIfInBounds_toArray]
    congr 3
    apply List.ext_getElem
    · simp
    · intro j h1 h2
      simp only [List.getElem_set, List.getElem_map, List.getElem_range]
      by_cases e : i = j
      · subst e; simp
      · rw [if_neg e]
        by_cases q : j < i
        · rw [if_pos q, if_pos (by omega), if_neg (by omega)]
        · rw [if_neg q, if_neg (by omega)]
  · by_cases e : v = i
    · subst e
      rw [if_pos rfl]
      refine ⟨?_, by simp, h.bl.size⟩
      have hsz : (W.setCell ⟨go, v, none⟩ (.slice (some ⟨W.heap.size, 0, none⟩) n n)).heap.size = W.heap.size := by simp
      generalize W.setCell ⟨go, v, none⟩ (.slice (some ⟨W.heap.size, 0, none⟩) n n) = W' at hsz ⊢
      rw [← hsz, World.alloc_heap_new]
      simp
    · rw [if_neg e]
      obtain ⟨h1, h2, h3⟩ := h.it v (by omega)
      refine ⟨?_, h2, h3⟩
      rw [Below.heap_alloc _ _ _ (by simpa using hlt v (by omega))]
      exact set_far h1 (cells_ne h1 h.ot (by decide))
  · by_cases eu : u = i
    · subst eu
      rw [if_pos rfl, if_neg (by omega)]
      have := hlt v (by omega)
      omega
    · rw [if_neg eu]
      by_cases ev : v = i
      · subst ev
        rw [if_pos rfl]
        have := hlt u (by omega)
        omega
      · rw [if_neg ev]
        exact h.ne u v (by omega) (by omega) huv
set_option maxHeartbeats 2000000 in
theorem rowsB_ok (g n : Nat) (l : List S53) (w : World) (hg : IsG w g n l) (hf : Fits n l) :
    Calls Try.prog 60 #[.pointer (some ⟨g, 0, none⟩)] w fun e w' => ∃ go gi, e = .returned (.slice (some ⟨go, 0, none⟩) n n) ∧ Rw w w' go n n gi (fun _ => List.replicate n false) := by
  obtain ⟨gO, p1, hrow⟩ := hg.rowO
  have lg := World.block_lt_of_cell? w _ p1
  have h12 := hf.top
  have hm1 := mk_of 49 54 (.slice none 0 0) 24 Try.underlying49 info54 rfl n (by omega) (by decide)
  have hm2 := mk_of 54 4 (.bool false) 1 Try.underlying54 info4 rfl n (by omega) (by decide)
  clear hrow
  go_enter Try.func60, Try.ntmps60
  go_wp2
  have hot : (w.alloc (.cells (Array.replicate n (Value.slice none 0 0)) 54)).heap[w.heap.size]? = some (.cells (Array.replicate n (Value.slice none 0 0)) 54 (0, 0)) := World.alloc_heap_new _ _
  have hR0 : Rw w (w.alloc (.cells (Array.replicate n (Value.slice none 0 0)) 54)) w.heap.size n 0 (fun _ => 0) (fun _ => List.replicate n false) := by
    refine ⟨hot.trans ?_, fun v hv => by omega, fun u v hu => by omega, Nat.le_refl _, (Below.refl _ w).alloc (Nat.le_refl _) _⟩
    congr 2
    apply Array.ext'
    apply List.ext_getElem <;> simp
  have lg0 : g < w.heap.size := lg
  generalize w.alloc (.cells (Array.replicate n (Value.slice none 0 0)) 54) = W0 at hR0 ⊢
  have HR0 := Lib.hid hR0
  have HP1 := Lib.hid p1
  clear hR0 hot p1
  go_loopw [13] (fun v13 wr => ∃ (i : Nat) (gi : Nat → Nat), i ≤ n ∧ v13 = .int .i64 i ∧ Rw w wr w.heap.size n i gi (fun _ => List.replicate n false)) (fun v13 _ => n - (intOf v13).toNat)
  case atStart => exact ⟨0, _, Nat.zero_le _, rfl, HR0.out⟩
  case round =>
    obtain ⟨i, gi, hi, rfl, hR⟩ := hrel
    by_cases hlt : i < n
    · have d1 : decide (i < n) = true := decide_eq_true hlt
      have r1 := (hR.bl.cell (World.block_lt_of_cell? w _ HP1.out)).trans HP1.out
      have lgo := (Array.getElem?_eq_some_iff.1 hR.ot).1
      have lg1 : g < wr.heap.size := Nat.lt_of_lt_of_le lg hR.bl.size
      have r2 : wr.cell? ⟨w.heap.size, i, none⟩ = some (.slice none 0 0) := by rw [cell_of hR.ot]; simp [hlt]
      have r3 : wr.frozen? ⟨w.heap.size, i, none⟩ = false := by simp [World.frozen?, hR.ot]
      have HR := Lib.hid hR
      clear hR
      go_wp2
      exact ⟨⟨i + 1, _, by omega, by go_num, HR.out.step hlt⟩, by simp [intOf]; omega⟩
    · have d1 : decide (i < n) = false := decide_eq_false hlt
      obtain rfl : i = n := by omega
      have HR := Lib.hid hR
      clear hR
      go_wp2
      go_ret
      exact ⟨_, _, rfl, HR.out⟩
end Go.Proofs.Ytkpaefeaplgnmaa.G
end
section
/- The walks of graph: which nodes ways lead to. -/
set_option linter.unusedSimpArgs false
set_option linter.unusedVariables false
namespace Go.Proofs.Ytkpaefeaplgnmaa.G
open Go.RowKit Go.Shelf Go.Proofs.Ytkpaefeaplgnmaa.PA Go.Proofs.Ytkpaefeaplgnmaa.Mp Go.Proofs.YtkpaefeaplgnmaaW.PrintWords Go.Proofs.YtkpaefeaplgnmaaW.PrintLast Go.Proofs.YtkpaefeaplgnmaaW.PrintMore

/-- A way leads from a to b. -/
inductive Way (l : List S53) (a : Nat) : Nat → Prop
  | one {b : Nat} : b ∈ nxt l a → Way l a b
  | more {b c : Nat} : Way l a b → c ∈ nxt l b → Way l a c
open Classical in
/-- To which nodes ways lead. -/
noncomputable def ways (l : List S53) (n a : Nat) : List Bool := (List.range n).map fun b => decide (Way l a b)
theorem ways_iff {l : List S53} {n a b : Nat} : (ways l n a).getD b false = true ↔ b < n ∧ Way l a b := by
  unfold ways
  by_cases hb : b < n
  · simp [List.getD_eq_getElem?_getD, hb]
  · simp [List.getD_eq_getElem?_getD, hb]
def cf (r : List Bool) : Nat := r.countP (· == false)
theorem cf_le (r : List Bool) : cf r ≤ r.length := List.countP_le_length
theorem cf_set {r : List Bool} {b : Nat} (hb : b < r.length) (h : r.getD b false = false) : cf (r.set b true) + 1 = cf r := by
  induction r generalizing b with
  | nil => simp at hb
  | cons x r ih =>
    cases b with
    | zero =>
      have hx : x = false := h
      subst hx
      simp [cf]
    | succ b =>
      have := ih (b := b) (by simpa using hb) (by simpa using h)
      simp only [List.set_cons_succ, cf, List.countP_cons] at this ⊢
      omega
theorem nxt_len (l : List S53) (v : Nat) : (nxt l v).length ≤ l.length := by
  unfold nxt
  rw [List.length_map]
  exact rw_len l (.o v)
/-- What holds while nodes are looked for. -/
structure Sk (l : List S53) (n a : Nat) (r : List Bool) (todo : List Nat) : Prop where
  len : r.length = n
  mark : ∀ b, r.getD b false = true → Way l a b
  wait : ∀ b ∈ todo, Way l a b ∧ b < n
  first : ∀ c ∈ nxt l a, r.getD c false = true ∨ c ∈ todo
  next : ∀ b, r.getD b false = true → ∀ c ∈ nxt l b, r.getD c false = true ∨ c ∈ todo
  sum : todo.length + 30 * cf r ≤ 390
theorem Sk.start {l : List S53} {n a : Nat} (h12 : n ≤ 12) (h30 : l.length ≤ 30) (hn : ∀ v, ∀ x ∈ nxt l v, x < n) : Sk l n a (List.replicate n false) (nxt l a) := by
  have hf : ∀ b, (List.replicate n false).getD b false = false := fun b => by
    rw [List.getD_eq_getElem?_getD, List.getElem?_replicate]
    split <;> rfl
  refine ⟨by simp, fun b h => (by rw [hf] at h; cases h), fun b hb => ⟨.one hb, hn _ _ hb⟩, fun c hc => .inr hc, fun b h => (by rw [hf] at h; cases h), ?_⟩
  have h1 := nxt_len l a
  have h2 := cf_le (List.replicate n false)
  rw [List.length_replicate] at h2
  omega
theorem Sk.skip {l : List S53} {n a b : Nat} {r : List Bool} {t : List Nat} (h : Sk l n a r (b :: t)) (hb : r.getD b false = true) : Sk l n a r t := by
  have go : ∀ c, r.getD c false = true ∨ c ∈ b :: t → r.getD c false = true ∨ c ∈ t := fun c hc => by
    rcases hc with hc | hc
    · exact .inl hc
    · rcases List.mem_cons.1 hc with rfl | hc
      · exact .inl hb
      · exact .inr hc
  exact ⟨h.len, h.mark, fun x hx => h.wait x (List.mem_cons_of_mem _ hx), fun c hc => go c (h.first c hc), fun x hx c hc => go c (h.next x hx c hc), by have := h.sum; simp only [List.length_cons] at this; omega⟩
theorem getD_set (r : List Bool) (b c : Nat) : (r.set b true).getD c false = if c = b ∧ b < r.length then true else r.getD c false := by
  simp only [List.getD_eq_getElem?_getD, List.getElem?_set]
  by_cases e : b = c
  · subst e
    by_cases hb : b < r.length
    · simp [hb]
    · simp [hb]
  · rw [if_neg e, if_neg (fun q => e q.1.symm)]
theorem Sk.take {l : List S53} {n a b : Nat} {r : List Bool} {t : List Nat} (h : Sk l n a r (b :: t)) (hb : r.getD b false = false) (h30 : l.length ≤ 30) (hn : ∀ v, ∀ x ∈ nxt l v, x < n) : Sk l n a (r.set b true) (t ++ nxt l b) ∧ cf (r.set b true) + 1 = cf r := by
  obtain ⟨hw, hbn⟩ := h.wait b List.mem_cons_self
  have hlt : b < r.length := by rw [h.len]; exact hbn
  have hc1 := cf_set hlt hb
  have go : ∀ c, r.getD c false = true ∨ c ∈ b :: t → (r.set b true).getD c false = true ∨ c ∈ t ++ nxt l b := fun c hc => by
    rw [getD_set]
    by_cases e : c = b
    · exact .inl (if_pos ⟨e, hlt⟩)
    · rw [if_neg (fun q => e q.1)]
      rcases hc with hc | hc
      · exact .inl hc
      · rcases List.mem_cons.1 hc with rfl | hc
        · exact absurd rfl e
        · exact .inr (List.mem_append_left _ hc)
  refine ⟨⟨by rw [List.length_set]; exact h.len, fun x hx => ?_, fun x hx => ?_, fun c hc => go c (h.first c hc), fun x hx c hc => ?_, ?_⟩, hc1⟩
  · rw [getD_set] at hx
    split at hx
    · rename_i e
      rw [e.1]; exact hw
    · exact h.mark x hx
  · rcases List.mem_append.1 hx with hx | hx
    · exact h.wait x (List.mem_cons_of_mem _ hx)
    · exact ⟨.more hw hx, hn _ _ hx⟩
  · rw [getD_set] at hx
    split at hx
    · rename_i e
      rw [e.1] at hc
      exact .inr (List.mem_append_right _ hc)
    · exact go c (h.next x hx c hc)
  · have := h.sum
    have h1 := nxt_len l b
    simp only [List.length_cons] at this
    rw [List.length_append]
    omega
theorem Sk.done {l : List S53} {n a : Nat} {r : List Bool} (h : Sk l n a r []) : r = ways l n a := by
  have key : ∀ b, Way l a b → r.getD b false = true := fun b hw => by
    induction hw with
    | one hc => exact (h.first _ hc).resolve_right (by simp)
    | more _ hc ih => exact (h.next _ ih _ hc).resolve_right (by simp)
  have hl : (ways l n a).length = n := by simp [ways]
  apply List.ext_getElem
  · rw [hl, h.len]
  · intro b h1 h2
    have e : ∀ (x : List Bool) (hx : b < x.length), x.getD b false = x[b] := fun x hx => by rw [List.getD_eq_getElem?_getD, List.getElem?_eq_getElem hx]; rfl
    rw [← e _ h1, ← e _ h2]
    apply Bool.eq_iff_iff.2
    rw [ways_iff]
    exact ⟨fun q => ⟨by omega, h.mark b q⟩, fun q => key b q.2⟩

theorem Q_pop {W : World} {b : Nat} {ok : Nat → Prop} {u : Nat} {t : List Nat} {A : Option Addr} {cap : Nat} (hq : Kd.Q (Kd.int .i64) 3 W b ok (.slice A (t.length + 1) cap) (qs (u :: t))) : ∃ (gq oq : Nat) (A' : Option Addr), A = some ⟨gq, oq, none⟩ ∧ W.cell? ⟨gq, oq, none⟩ = some (.int .i64 (u : Int)) ∧
    (∀ X : World, (Instr.slice 27 (.slice A (t.length + 1) cap) (some (.int .i64 1)) none none).run Try.prog X = .ok (.slice A' t.length (cap - 1)) X) ∧ Kd.Q (Kd.int .i64) 3 W b ok (.slice A' t.length (cap - 1)) (qs t) := by
  obtain ⟨i3, hi3, z3, s3, b3⟩ := info_parts info3'
  have hcut := cut_from (P := Try.prog) 27 3 .i64 Try.underlying27 hi3 1 s3 A (t.length + 1) cap 1 (by decide) (by omega)
  have hql : (qs (u :: t)).length = t.length + 1 := by simp [qs]
  have hd := Kd.Q_drop hq (k := 1) (by rw [hql]; omega)
  rw [show (Kd.int .i64).sz = 1 from rfl] at hd
  rw [show (1 : Int).toNat = 1 from rfl, Nat.add_sub_cancel] at hcut
  rw [Nat.add_sub_cancel] at hd
  have ht : (qs (u :: t)).drop 1 = qs t := rfl
  rw [ht] at hd
  obtain ⟨gq, oq, cap', e, _, _, _⟩ := Kd.Q_form hq (by simp [qs])
  injection e with e1 e2 e3
  subst e1
  have hC := (Kd.Q_reads' hq).2.2
  rw [hql] at hC
  obtain ⟨ad, ea, hc⟩ := int_at (i := 0) hC (by simp [qs])
  injection ea with ea
  refine ⟨gq, oq, _, rfl, ?_, hcut, hd⟩
  rw [← ea] at hc
  simpa [qs, Addr.add] using hc

/-- The rows, the first a of them told. -/
theorem Rw.cellRow {w0 W : World} {go n i : Nat} {gi : Nat → Nat} {R : Nat → List Bool} (h : Rw w0 W go n i gi R) {v : Nat} (hv : v < i) (hin : i ≤ n) : W.cell? ⟨go, v, none⟩ = some (.slice (some ⟨gi v, 0, none⟩) n n) := by
  rw [cell_of h.ot]
  simp [show v < n by omega, hv]
theorem Rw.cellBit {w0 W : World} {go n i : Nat} {gi : Nat → Nat} {R : Nat → List Bool} (h : Rw w0 W go n i gi R) {v b : Nat} (hv : v < i) (hb : b < n) : W.cell? ⟨gi v, b, none⟩ = some (.bool ((R v).getD b false)) ∧ W.frozen? ⟨gi v, b, none⟩ = false := by
  obtain ⟨h1, h2, _⟩ := h.it v hv
  refine ⟨?_, by simp [World.frozen?, h1]⟩
  rw [cell_of h1]
  simp [show b < (R v).length by omega]
theorem Rw.set {w0 W : World} {go n i : Nat} {gi : Nat → Nat} {R : Nat → List Bool} (h : Rw w0 W go n i gi R) {v b : Nat} (hv : v < i) : Rw w0 (W.setCell ⟨gi v, b, none⟩ (.bool true)) go n i gi (fun x => if x = v then (R v).set b true else R x) := by
  obtain ⟨h1, h2, h3⟩ := h.it v hv
  refine ⟨set_far h.ot (cells_ne h.ot h1 (by decide)), fun x hx => ?_, h.ne, h.ago, h.bl.setCell (p := ⟨gi v, b, none⟩) h3 _⟩
  obtain ⟨q1, q2, q3⟩ := h.it x hx
  by_cases e : x = v
  · subst e
    rw [if_pos rfl]
    refine ⟨?_, by rw [List.length_set]; exact h2, h3⟩
    rw [heap_setCell_same W (gi x) b _ 4 _ h1, List.setIfInBounds_toArray]
    simp [List.map_set]
  · rw [if_neg e]
    exact ⟨set_far q1 (h.ne x v hx hv e), q2, q3⟩
theorem Rw.kept {w0 W W' : World} {go n i : Nat} {gi : Nat → Nat} {R : Nat → List Bool} (h : Rw w0 W go n i gi R) (hk : ∀ k, k < W.heap.size → (k = go ∨ ∃ v, v < i ∧ k = gi v) → W'.heap[k]? = W.heap[k]?) (hb : Below w0.heap.size w0 W') : Rw w0 W' go n i gi R :=
  ⟨(hk go (Array.getElem?_eq_some_iff.1 h.ot).1 (.inl rfl)).trans h.ot, fun v hv => ⟨(hk _ (Array.getElem?_eq_some_iff.1 (h.it v hv).1).1 (.inr ⟨v, hv, rfl⟩)).trans (h.it v hv).1, (h.it v hv).2⟩, h.ne, h.ago, hb⟩
theorem Rw.congr {w0 W : World} {go n i : Nat} {gi : Nat → Nat} {R R' : Nat → List Bool} (h : Rw w0 W go n i gi R) (e : ∀ v, v < i → R v = R' v) : Rw w0 W go n i gi R' :=
  ⟨h.ot, fun v hv => by rw [← e v hv]; exact h.it v hv, h.ne, h.ago, h.bl⟩
end Go.Proofs.Ytkpaefeaplgnmaa.G
end
section
/- The walk of Reaches. -/
set_option linter.unusedSimpArgs false
set_option linter.unusedVariables false
namespace Go.Proofs.Ytkpaefeaplgnmaa.G
open Go.RowKit Go.Shelf Go.Proofs.Ytkpaefeaplgnmaa.PA Go.Proofs.Ytkpaefeaplgnmaa.Mp Go.Proofs.YtkpaefeaplgnmaaW.PrintWords Go.Proofs.YtkpaefeaplgnmaaW.PrintLast Go.Proofs.YtkpaefeaplgnmaaW.PrintMore

theorem next_c (g v : Nat) (w : World) : Calls Try.prog 59 #[.pointer (some ⟨g, 0, none⟩), .int .i64 (v : Int)] w fun e w' => e = .returned (.func (.func 64) #[] #[.pointer (some ⟨w.heap.size, 0, none⟩), .pointer (some ⟨w.heap.size + 1, 0, none⟩)]) ∧
    w'.heap.size = w.heap.size + 2 ∧ Below w.heap.size w w' ∧ w'.heap[w.heap.size]? = some (.cells #[.pointer (some ⟨g, 0, none⟩)] 24 (0, 0)) ∧ w'.heap[w.heap.size + 1]? = some (.cells #[.int .i64 (v : Int)] 3 (0, 0)) := by
  refine (callsIn_wide.1 (next_in Fence.wide 5 trivial rfl g (v : Int) w)).mono ?_
  rintro e w' ⟨rfl, rfl⟩
  refine ⟨rfl, by simp, ((Below.refl _ w).alloc (Nat.le_refl _) _).alloc (by simp) _, ?_, ?_⟩
  · exact (Boxed.new w 24 _).alloc _
  · have := Boxed.new (w.alloc (.cells #[.pointer (some ⟨g, 0, none⟩)] 24)) 3 (.int .i64 (v : Int))
    rwa [World.size_alloc] at this
theorem appseq_c (g n v : Nat) (l : List S53) (w0 W1 : World) (hg : IsG w0 g n l) (hf : Fits n l) (hv : v < n) (hb : Below w0.heap.size w0 W1) (Bg : Nat) (hB0 : w0.heap.size ≤ Bg)
    (hBg : W1.heap[Bg]? = some (.cells #[.pointer (some ⟨g, 0, none⟩)] 24 (0, 0))) (hBv : W1.heap[Bg + 1]? = some (.cells #[.int .i64 (v : Int)] 3 (0, 0))) (ok : Nat → Prop) (hfr : ∀ k, W1.heap.size ≤ k → ok k) (A : Option Addr) (N cap : Nat) (todo : List Nat) (hN : N = todo.length) (hQ : Kd.Q (Kd.int .i64) 3 W1 w0.heap.size (fun k => ok k ∧ k ≠ Bg ∧ k ≠ Bg + 1) (.slice A N cap) (qs todo)) (hlen : todo.length ≤ 900) :
    Calls Try.prog 61 #[.slice A N cap, .func (.func 64) #[] #[.pointer (some ⟨Bg, 0, none⟩), .pointer (some ⟨Bg + 1, 0, none⟩)]] W1 fun e W' => ∃ A' cap', e = .returned (.slice A' (todo ++ nxt l v).length cap') ∧ Kd.Q (Kd.int .i64) 3 W' w0.heap.size ok (.slice A' (todo ++ nxt l v).length cap') (qs (todo ++ nxt l v)) ∧ Below w0.heap.size W1 W' ∧ ∀ k, k < W1.heap.size → ¬ ok k → W'.heap[k]? = W1.heap[k]? := by
  subst hN
  refine (callsIn_wide.1 (appseq_in 5 g n v l w0 W1 hg hf hv (by decide) hb Bg hB0 hBg hBv ok hfr A cap todo hQ hlen)).mono ?_
  rintro e W' ⟨x, rfl, hq, hb', hk⟩
  obtain ⟨A', c', rfl, _⟩ := Kd.Q_slice hq
  rw [show (qs (todo ++ nxt l v)).length = (todo ++ nxt l v).length by simp [qs]] at hq ⊢
  exact ⟨A', c', rfl, Kd.Q_mono hq (fun k hk => hk.1), hb', fun k h1 h2 => hk k h1 (fun h => h2 h.1)⟩
def okk (go n : Nat) (gi : Nat → Nat) (k : Nat) : Prop := k ≠ go ∧ ∀ v, v < n → k ≠ gi v
theorem Rw.ok_ge {w0 W : World} {go n : Nat} {gi : Nat → Nat} {R : Nat → List Bool} (h : Rw w0 W go n n gi R) {k : Nat} (hk : W.heap.size ≤ k) : okk go n gi k :=
  ⟨by have := (Array.getElem?_eq_some_iff.1 h.ot).1; omega, fun v hv => by have := (Array.getElem?_eq_some_iff.1 (h.it v hv).1).1; omega⟩
theorem not_okk {go n k : Nat} {gi : Nat → Nat} (h : k = go ∨ ∃ v, v < n ∧ k = gi v) : ¬ okk go n gi k := fun q => by
  rcases h with rfl | ⟨v, hv, rfl⟩
  · exact q.1 rfl
  · exact q.2 v hv rfl
set_option maxRecDepth 100000 in
set_option maxHeartbeats 4000000 in
theorem reaches_ok (g n : Nat) (l : List S53) (w : World) (hg : IsG w g n l) (hf : Fits n l) :
    Calls Try.prog 30 #[.pointer (some ⟨g, 0, none⟩)] w fun e w' => ∃ go gi, e = .returned (.slice (some ⟨go, 0, none⟩) n n) ∧ Rw w w' go n n gi (ways l n) := by
  have h12 := hf.top
  have h30 := hf.few
  have HN := Lib.hid (show ∀ v, ∀ x ∈ nxt l v, x < n from fun v => nxt_lt hf.fit)
  have HG := Lib.hid hg
  have HF := Lib.hid hf
  clear hg hf
  go_enter Try.func30, Try.ntmps30
  go_wp2_with fail
  with_reducible refine (rowsB_ok g n l _ HG.out HF.out).mono ?_
  rintro e W0 ⟨go, gi, rfl, hR⟩
  have HR := Lib.hid hR
  clear hR
  go_wp2
  go_loopw [13] (fun v13 wr => ∃ a : Nat, a ≤ n ∧ v13 = .int .i64 a ∧ Rw w wr go n n gi (fun v => if v < a then ways l n v else List.replicate n false)) (fun v13 _ => n - (intOf v13).toNat)
  case atStart => exact ⟨0, Nat.zero_le _, rfl, HR.out.congr (fun v hv => by rw [if_neg (by omega)])⟩
  case round =>
    obtain ⟨a, ha, rfl, hR⟩ := hrel
    by_cases hlt : a < n
    · have d1 : decide (a < n) = true := decide_eq_true hlt
      have HR2 := Lib.hid hR
      clear hR
      go_wp2_with fail
      with_reducible refine (next_c g a wr).mono ?_
      rintro e w1 ⟨rfl, hs1, hb1, hx1, hy1⟩
      have hbs := HR2.out.bl.size
      have hbw : Below w.heap.size w w1 := HR2.out.bl.trans ⟨hb1.os, hb1.tape, hb1.output, hb1.size, fun q hq => hb1.block q (by omega)⟩
      have HB1 := Lib.hid hbw
      have HX := Lib.hid hx1
      have HY := Lib.hid hy1
      have HR3 := Lib.hid (HR2.out.kept (fun k hk _ => hb1.block k hk) hbw)
      clear hb1 hx1 hy1 hbw
      go_wp2_with fail
      with_reducible refine (appseq_c g n a l w w1 HG.out HF.out hlt HB1.out wr.heap.size hbs HX.out HY.out (okk go n gi) (fun k hk => HR3.out.ok_ge hk) none 0 0 [] rfl (Kd.Q_nil _ _ _ _ _) (by decide)).mono ?_
      rintro e w2 ⟨A2, c2, rfl, hq2, hb2, hk2⟩
      rw [List.nil_append] at hq2 ⊢
      have HR4 := Lib.hid (HR3.out.kept (fun k hk h => hk2 k hk (not_okk h)) (HB1.out.trans hb2))
      have HQ := Lib.hid hq2
      clear hq2 hb2 hk2
      go_wp2
      have hsk := Sk.start (l := l) (n := n) (a := a) h12 h30 HN.out
      have HSK := Lib.hid hsk
      have hcf0 := cf_le (List.replicate n false)
      rw [List.length_replicate] at hcf0
      have hnl0 := nxt_len l a
      clear hsk
      go_loopg [5] 500 (fun kq v5 wr => ∃ (r : List Bool) (todo : List Nat) (A : Option Addr) (c : Nat), v5 = .slice A todo.length c ∧ Kd.Q (Kd.int .i64) 3 wr w.heap.size (okk go n gi) (.slice A todo.length c) (qs todo) ∧ Sk l n a r todo ∧ Rw w wr go n n gi (fun v => if v = a then r else if v < a then ways l n v else List.replicate n false) ∧ todo.length + 31 * cf r < kq)
      case atStart => exact ⟨_, _, _, _, rfl, HQ.out, HSK.out, HR4.out.congr (fun v hv => by
        by_cases e : v = a
        · rw [if_pos e, if_neg (by omega)]
        · rw [if_neg e]), by omega⟩
      case round =>
        clear HQ HR4 HR3 HR2 HX HY HB1 HSK hs1
        obtain ⟨r, todo, A, c, rfl, hq, hsk, hR, hm⟩ := hrel
        cases todo with
        | nil =>
          have hr := hsk.done
          have HR5 := Lib.hid hR
          have HRE := Lib.hid hr
          clear hR hr hq hsk
          go_wp2
          refine ⟨⟨a + 1, by omega, by go_num, HR5.out.congr (fun v hv => ?_)⟩, by simp [intOf]; omega⟩
          by_cases e : v = a
          · subst e
            rw [if_pos rfl, if_pos (by omega)]
            exact HRE.out
          · rw [if_neg e]
            by_cases q : v < a
            · rw [if_pos q, if_pos (by omega)]
            · rw [if_neg q, if_neg (by omega)]
        | cons b t =>
          obtain ⟨k1, rfl⟩ : ∃ k1, gk = k1 + 1 := ⟨gk - 1, by omega⟩
          obtain ⟨gq, oq, A', rfl, cq, hcut, hq'⟩ := Q_pop hq
          have hbn := (hsk.wait b List.mem_cons_self).2
          have c1 := hR.cellRow (v := a) hlt (Nat.le_refl _)
          obtain ⟨x, hx⟩ : ∃ x, x = r.getD b false := ⟨_, rfl⟩
          obtain ⟨c2, f2⟩ := hR.cellBit (v := a) (b := b) hlt hbn
          rw [if_pos rfl, ← hx] at c2
          have d2 : decide (b < n) = true := decide_eq_true hbn
          have hsz := hR.bl.size
          have HQ := Lib.hid hq'
          have HR5 := Lib.hid hR
          have HSK := Lib.hid hsk
          have HX := Lib.hid hx
          clear hq hq' hR hsk hx
          cases x with
          | true =>
            go_wp2
            go_roundg k1
            case measure => omega
            case rel => exact ⟨r, t, _, _, rfl, HQ.out, HSK.out.skip HX.out.symm, HR5.out, by simp only [List.length_cons] at hm; omega⟩
          | false =>
            go_wp2_with fail
            obtain ⟨hsk2, hcf2⟩ := HSK.out.take HX.out.symm h30 HN.out
            have hnl := nxt_len l b
            have hR6 := HR5.out.set (v := a) (b := b) hlt
            have hq6 := Kd.Q_far HQ.out (p := ⟨gi a, b, none⟩) (fun k hk => hk.2 a hlt) (.bool true)
            generalize wr.setCell ⟨gi a, b, none⟩ (.bool true) = wr2 at hR6 hq6 ⊢
            have HR6 := Lib.hid hR6
            have HQ6 := Lib.hid hq6
            have HSK2 := Lib.hid hsk2
            clear hR6 hq6 hsk2 c1 c2 f2 cq
            with_reducible refine (next_c g b wr2).mono ?_
            rintro e w5 ⟨rfl, hs1, hb1, hx1, hy1⟩
            have hbs := HR6.out.bl.size
            have hbw : Below w.heap.size w w5 := HR6.out.bl.trans ⟨hb1.os, hb1.tape, hb1.output, hb1.size, fun q hq => hb1.block q (by omega)⟩
            have HB5 := Lib.hid hbw
            have HX5 := Lib.hid hx1
            have HY5 := Lib.hid hy1
            have HR7 := Lib.hid (HR6.out.kept (fun k hk _ => hb1.block k hk) hbw)
            have hq7 := Kd.Q_below (Kd.Q_mono (Kd.Q_bound HQ6.out) (ok' := fun k => okk go n gi k ∧ k ≠ wr2.heap.size ∧ k ≠ wr2.heap.size + 1) (fun k hk => ⟨hk.1, by have := hk.2.2.1; omega, by have := hk.2.2.1; omega⟩)) hb1
            clear hb1 hx1 hy1 hbw
            go_wp2_with fail
            with_reducible refine (appseq_c g n b l w w5 HG.out HF.out hbn HB5.out wr2.heap.size hbs HX5.out HY5.out (okk go n gi) (fun k hk => HR7.out.ok_ge hk) A' t.length (c - 1) t rfl hq7 (by have := HSK.out.sum; simp only [List.length_cons] at this; omega)).mono ?_
            rintro e w6 ⟨A6, c6, rfl, hq6, hb6, hk6⟩
            have HR8 := Lib.hid (HR7.out.kept (fun k hk h => hk6 k hk (not_okk h)) (HB5.out.trans hb6))
            have HQ8 := Lib.hid hq6
            clear hq6 hb6 hk6 hq7
            go_wp2
            go_roundg k1
            case measure => omega
            case rel => exact ⟨r.set b true, t ++ nxt l b, _, _, (by rw [List.length_append]), HQ8.out, HSK2.out, HR8.out.congr (fun v hv => by
              by_cases e : v = a
              · subst e; simp
              · simp [e]), by simp only [List.length_cons] at hm; rw [List.length_append]; omega⟩
    · have d1 : decide (a < n) = false := decide_eq_false hlt
      obtain rfl : a = n := by omega
      have HR := Lib.hid hR
      clear hR
      go_wp2
      go_ret
      exact ⟨_, _, rfl, HR.out.congr (fun v hv => by rw [if_pos hv])⟩
end Go.Proofs.Ytkpaefeaplgnmaa.G
end
section
/- Plain laws: which nodes hang together. -/
set_option linter.unusedSimpArgs false
set_option linter.unusedVariables false
namespace Go.Proofs.Ytkpaefeaplgnmaa.G
open Go.RowKit Go.Shelf Go.Proofs.Ytkpaefeaplgnmaa.PA Go.Proofs.Ytkpaefeaplgnmaa.Mp Go.Proofs.YtkpaefeaplgnmaaW.PrintWords Go.Proofs.YtkpaefeaplgnmaaW.PrintLast Go.Proofs.YtkpaefeaplgnmaaW.PrintMore

/-- The nodes from which edges come. -/
def prv (l : List S53) (v : Nat) : List Nat := (rw_ l (.i v)).map fun i => (l.getD i.toNat ⟨0, 0⟩).f0.toNat
def Adj (l : List S53) (x c : Nat) : Prop := c ∈ nxt l x ∨ c ∈ prv l x
/-- Two hang together. -/
inductive Con (l : List S53) (a : Nat) : Nat → Prop
  | refl : Con l a a
  | step {b c : Nat} : Con l a b → Adj l b c → Con l a c
theorem Con.trans {l : List S53} {a b c : Nat} (h : Con l a b) (k : Con l b c) : Con l a c := by
  induction k with
  | refl => exact h
  | step _ e ih => exact .step ih e
theorem mem_row {l : List S53} {x : Ix} {f : S53 → Int} {w : Nat} : w ∈ (rw_ l x).map (fun i => (f (l.getD i.toNat ⟨0, 0⟩)).toNat) ↔ ∃ e ∈ l, P_ x e = true ∧ (f e).toNat = w := by
  unfold rw_ idxs
  simp only [List.map_map, List.mem_map, List.mem_filter, List.mem_range]
  constructor
  · rintro ⟨i, ⟨hi, hp⟩, rfl⟩
    rw [List.getElem?_eq_getElem hi] at hp
    exact ⟨l[i], List.getElem_mem hi, hp, by simp [hi]⟩
  · rintro ⟨e, he, hp, rfl⟩
    obtain ⟨i, hi, rfl⟩ := List.getElem_of_mem he
    exact ⟨i, ⟨hi, by rw [List.getElem?_eq_getElem hi]; exact hp⟩, by simp [hi]⟩
theorem mem_nx {l : List S53} {v w : Nat} : w ∈ nxt l v ↔ ∃ e ∈ l, P_ (.o v) e = true ∧ e.f1.toNat = w := mem_row (f := S53.f1)
theorem mem_pr {l : List S53} {v w : Nat} : w ∈ prv l v ↔ ∃ e ∈ l, P_ (.i v) e = true ∧ e.f0.toNat = w := mem_row (f := S53.f0)
theorem prv_len (l : List S53) (v : Nat) : (prv l v).length ≤ l.length := by
  unfold prv
  rw [List.length_map]
  exact rw_len l (.i v)

def la (out : List Int) (x : Nat) : Int := out.getD x (-1)
theorem la_set (out : List Int) (v x : Nat) (k : Int) : la (out.set v k) x = if x = v ∧ v < out.length then k else la out x := by
  unfold la
  simp only [List.getD_eq_getElem?_getD, List.getElem?_set]
  by_cases e : v = x
  · subst e
    by_cases hb : v < out.length
    · simp [hb]
    · simp [hb]
  · rw [if_neg e, if_neg (fun q => e q.1.symm)]
def unl (out : List Int) : Nat := out.countP (· == -1)
theorem unl_le : ∀ (out out' : List Int), out'.length = out.length → (∀ x, la out x ≠ -1 → la out' x ≠ -1) → unl out' ≤ unl out
  | [], out', h, _ => by
    have : out' = [] := List.length_eq_zero_iff.1 h
    subst this
    exact Nat.le_refl _
  | a :: out, [], h, _ => by simp at h
  | a :: out, b :: out', h, hk => by
    have ih := unl_le out out' (by simpa using h) (fun x hx => hk (x + 1) hx)
    have h0 : a ≠ -1 → b ≠ -1 := hk 0
    simp only [unl, List.countP_cons] at ih ⊢
    by_cases ha : a = -1
    · subst ha
      simp
      split <;> omega
    · have hb := h0 ha
      simp [ha, hb]
      exact ih
theorem unl_set {out : List Int} {v : Nat} {k : Int} (hv : v < out.length) (h : la out v = -1) (hk : k ≠ -1) : unl (out.set v k) + 1 = unl out := by
  induction out generalizing v with
  | nil => simp at hv
  | cons a out ih =>
    cases v with
    | zero =>
      have ha : a = -1 := h
      subst ha
      simp [unl, hk]
    | succ v =>
      have := ih (v := v) (by simpa using hv) h
      simp only [List.set_cons_succ, unl, List.countP_cons] at this ⊢
      omega
theorem unl_len (out : List Int) : unl out ≤ out.length := List.countP_le_length

/-- What a labelling from v does. -/
structure Jn (l : List S53) (label : Int) (v : Nat) (out out' : List Int) : Prop where
  len : out'.length = out.length
  keep : ∀ x, la out x ≠ -1 → la out' x = la out x
  me : la out' v ≠ -1
  new : ∀ x, la out x = -1 → la out' x ≠ -1 → la out' x = label ∧ Con l v x
  done : ∀ x, la out x = -1 → la out' x ≠ -1 → ∀ c, Adj l x c → la out' c ≠ -1
/-- Amid it: some neighbours are done. -/
structure Jm (l : List S53) (label : Int) (v : Nat) (out out' : List Int) (dn : List Nat) : Prop where
  len : out'.length = out.length
  keep : ∀ x, la out x ≠ -1 → la out' x = la out x
  me : la out' v = label
  new : ∀ x, la out x = -1 → la out' x ≠ -1 → la out' x = label ∧ Con l v x
  done : ∀ x, x ≠ v → la out x = -1 → la out' x ≠ -1 → ∀ c, Adj l x c → la out' c ≠ -1
  nbs : ∀ c ∈ dn, la out' c ≠ -1
section
variable {l : List S53} {label : Int} {v : Nat} {out out' out2 : List Int} {dn : List Nat}
theorem Jn.same (h : la out v ≠ -1) : Jn l label v out out := ⟨rfl, fun _ _ => rfl, h, fun x h1 h2 => absurd h1 h2, fun x h1 h2 => absurd h1 h2⟩
theorem Jm.start (hv : v < out.length) (h : la out v = -1) : Jm l label v out (out.set v label) [] := by
  have hs := fun x => la_set out v x label
  have hm : la (out.set v label) v = label := by rw [hs, if_pos ⟨rfl, hv⟩]
  refine ⟨by simp, fun x hx => ?_, hm, fun x h1 h2 => ?_, fun x hx h1 h2 => ?_, fun c hc => by cases hc⟩
  · rw [hs, if_neg (fun q => hx (by rw [q.1]; exact h))]
  · by_cases e : x = v
    · subst e
      exact ⟨hm, .refl⟩
    · rw [hs, if_neg (fun q => e q.1)] at h2
      exact absurd h1 h2
  · rw [hs, if_neg (fun q => hx q.1)] at h2
    exact absurd h1 h2
theorem Jm.step (h : Jm l label v out out' dn) (hl : label ≠ -1) {c : Nat} (hc : Adj l v c) (hj : Jn l label c out' out2) : Jm l label v out out2 (dn ++ [c]) := by
  have mono : ∀ x, la out' x ≠ -1 → la out2 x ≠ -1 := fun x hx => by rw [hj.keep x hx]; exact hx
  refine ⟨hj.len.trans h.len, fun x hx => ?_, ?_, fun x h1 h2 => ?_, fun x hx h1 h2 y hy => ?_, fun y hy => ?_⟩
  · have h1 := h.keep x hx
    rw [hj.keep x (by rw [h1]; exact hx), h1]
  · rw [hj.keep v (by rw [h.me]; exact hl)]
    exact h.me
  · by_cases e : la out' x = -1
    · obtain ⟨q1, q2⟩ := hj.new x e h2
      exact ⟨q1, (Con.step .refl hc).trans q2⟩
    · rw [hj.keep x e]
      exact h.new x h1 e
  · by_cases e : la out' x = -1
    · exact hj.done x e h2 y hy
    · exact mono y (h.done x hx h1 e y hy)
  · rcases List.mem_append.1 hy with hy | hy
    · exact mono y (h.nbs y hy)
    · rw [List.mem_singleton.1 hy]
      exact hj.me
theorem Jm.close (h : Jm l label v out out' dn) (hl : label ≠ -1) (ho : la out v = -1) (hall : ∀ c, Adj l v c → c ∈ dn) : Jn l label v out out' :=
  ⟨h.len, h.keep, by rw [h.me]; exact hl, h.new, fun x h1 h2 c hc => by
    by_cases e : x = v
    · subst e
      exact h.nbs c (hall c hc)
    · exact h.done x e h1 h2 c hc⟩
theorem Jm.unl (h : Jm l label v out out' dn) (hv : v < out.length) (ho : la out v = -1) (hl : label ≠ -1) : unl out' + 1 ≤ unl out := by
  have := unl_le (out.set v label) out' (by rw [h.len, List.length_set]) (fun x hx => by
    rw [la_set] at hx
    by_cases e : x = v
    · subst e
      rw [h.me]; exact hl
    · rw [if_neg (fun q => e q.1)] at hx
      rw [h.keep x hx]
      exact hx)
  have h2 := unl_set hv ho hl
  omega
end
/-- The nodes below i have labels; each label is the least node that hangs together with it. -/
structure Jo (l : List S53) (n i : Nat) (out : List Int) : Prop where
  len : out.length = n
  low : ∀ u, u < i → la out u ≠ -1
  least : ∀ x, la out x ≠ -1 → ∃ k : Nat, la out x = (k : Int) ∧ Con l x k ∧ ∀ y, Con l x y → k ≤ y
  shut : ∀ x, la out x ≠ -1 → ∀ c, Adj l x c → la out c ≠ -1
theorem Jo.con {l : List S53} {n i : Nat} {out : List Int} (h : Jo l n i out) {x y : Nat} (hx : la out x ≠ -1) (hc : Con l x y) : la out y ≠ -1 := by
  induction hc with
  | refl => exact hx
  | step _ e ih => exact h.shut _ ih _ e
theorem Jo.step {l : List S53} {n i : Nat} {out out' : List Int} (hsym : ∀ x c, Adj l x c → Adj l c x) (h : Jo l n i out) (hj : Jn l (i : Int) i out out') : Jo l n (i + 1) out' := by
  have sym : ∀ x y, Con l x y → Con l y x := fun x y hc => by
    induction hc with
    | refl => exact .refl
    | step _ e ih => exact (Con.step .refl (hsym _ _ e)).trans ih
  have mono : ∀ x, la out x ≠ -1 → la out' x ≠ -1 := fun x hx => by rw [hj.keep x hx]; exact hx
  refine ⟨hj.len.trans h.len, fun u hu => ?_, fun x hx => ?_, fun x hx c hc => ?_⟩
  · rcases Nat.lt_succ_iff_lt_or_eq.1 hu with q | rfl
    · exact mono u (h.low u q)
    · exact hj.me
  · by_cases e : la out x = -1
    · obtain ⟨q1, q2⟩ := hj.new x e hx
      refine ⟨i, q1, sym _ _ q2, fun y hy => ?_⟩
      apply Nat.le_of_not_lt
      intro hyi
      exact h.con (h.low y hyi) (sym _ _ hy) e
    · rw [hj.keep x e]
      exact h.least x e
  · by_cases e : la out x = -1
    · exact hj.done x e hx c hc
    · exact mono c (h.shut x e c hc)
theorem Jo.start (l : List S53) (n : Nat) : Jo l n 0 (List.replicate n (-1)) := by
  have hf : ∀ x, la (List.replicate n (-1)) x = -1 := fun x => by
    unfold la
    rw [List.getD_eq_getElem?_getD, List.getElem?_replicate]
    split <;> rfl
  exact ⟨by simp, fun u hu => by omega, fun x hx => absurd (hf x) hx, fun x hx => absurd (hf x) hx⟩
theorem adj_sym {l : List S53} (hf : ∀ e ∈ l, 0 ≤ e.f0 ∧ 0 ≤ e.f1) (x c : Nat) (h : Adj l x c) : Adj l c x := by
  rcases h with h | h
  · obtain ⟨e, he, hp, hc⟩ := mem_nx.1 h
    have := hf e he
    refine .inr (mem_pr.2 ⟨e, he, ?_, ?_⟩)
    · simp only [P_, beq_iff_eq, decide_eq_true_eq] at hp ⊢
      omega
    · simp only [P_, beq_iff_eq, decide_eq_true_eq] at hp
      omega
  · obtain ⟨e, he, hp, hc⟩ := mem_pr.1 h
    have := hf e he
    refine .inl (mem_nx.2 ⟨e, he, ?_, ?_⟩)
    · simp only [P_, beq_iff_eq, decide_eq_true_eq] at hp ⊢
      omega
    · simp only [P_, beq_iff_eq, decide_eq_true_eq] at hp
      omega
end Go.Proofs.Ytkpaefeaplgnmaa.G
end
section
/- The walks of graph: join. -/
set_option linter.unusedSimpArgs false
set_option linter.unusedVariables false
namespace Go.Proofs.Ytkpaefeaplgnmaa.G
open Go.RowKit Go.Shelf Go.Proofs.Ytkpaefeaplgnmaa.PA Go.Proofs.Ytkpaefeaplgnmaa.Mp Go.Proofs.YtkpaefeaplgnmaaW.PrintWords Go.Proofs.YtkpaefeaplgnmaaW.PrintLast Go.Proofs.YtkpaefeaplgnmaaW.PrintMore

/-- Labels, as they stand. -/
structure Ls (w0 W : World) (go n : Nat) (out : List Int) : Prop where
  ot : W.heap[go]? = some (.cells (out.map I).toArray 3 (0, 0))
  len : out.length = n
  ago : w0.heap.size ≤ go
  bl : Below w0.heap.size w0 W
theorem Ls.cell {w0 W : World} {go n : Nat} {out : List Int} (h : Ls w0 W go n out) {v : Nat} (hv : v < n) : W.cell? ⟨go, v, none⟩ = some (.int .i64 (la out v)) := by
  rw [cell_of h.ot]
  simp [la, I, show v < out.length by rw [h.len]; exact hv]
theorem Ls.free {w0 W : World} {go n : Nat} {out : List Int} (h : Ls w0 W go n out) (v : Nat) : W.frozen? ⟨go, v, none⟩ = false := by simp [World.frozen?, h.ot]
theorem Ls.set {w0 W : World} {go n : Nat} {out : List Int} (h : Ls w0 W go n out) (v : Nat) (k : Int) : Ls w0 (W.setCell ⟨go, v, none⟩ (.int .i64 k)) go n (out.set v k) := by
  refine ⟨?_, by rw [List.length_set]; exact h.len, h.ago, h.bl.setCell (p := ⟨go, v, none⟩) h.ago _⟩
  rw [heap_setCell_same W go v _ 3 _ h.ot, List.setIfInBounds_toArray]
  simp [I, List.map_set]
theorem take_nx {l : List S53} {v k j : Nat} (hk : k < (rw_ l (.o v)).length) (hj : (rw_ l (.o v))[k] = (j : Int)) (hjl : j < l.length) : (nxt l v).take (k + 1) = (nxt l v).take k ++ [l[j].f1.toNat] := by
  unfold nxt
  rw [List.take_succ_eq_append_getElem (by simpa using hk), List.getElem_map, hj]
  simp [hjl]
theorem take_pr {l : List S53} {v k j : Nat} (hk : k < (rw_ l (.i v)).length) (hj : (rw_ l (.i v))[k] = (j : Int)) (hjl : j < l.length) : (prv l v).take (k + 1) = (prv l v).take k ++ [l[j].f0.toNat] := by
  unfold prv
  rw [List.take_succ_eq_append_getElem (by simpa using hk), List.getElem_map, hj]
  simp [hjl]
set_option maxHeartbeats 1000000 in
theorem join_had (g n go : Nat) (l : List S53) (w : World) (label : Nat) (v : Nat) (out : List Int) (W : World) (hl : la out v ≠ -1) (hv : v < n) (hL : Ls w W go n out) :
    Calls Try.prog 62 #[.pointer (some ⟨g, 0, none⟩), .int .i64 (v : Int), .int .i64 (label : Int), .slice (some ⟨go, 0, none⟩) n n] W fun e W' => e = .returned (.tuple #[]) ∧ ∃ out', Ls w W' go n out' ∧ Jn l (label : Int) v out out' := by
  obtain ⟨x, hx⟩ : ∃ x, x = la out v := ⟨_, rfl⟩
  have c1 := hL.cell hv
  rw [← hx] at c1
  have hd : (x == -1) = false := by rw [hx]; simpa using hl
  have hd2 : (x != -1) = true := by rw [bne, hd]; rfl
  have hd3 : decide (v < n) = true := decide_eq_true hv
  have HL := Lib.hid hL
  have HN := Lib.hid hl
  clear hL hl hx
  go_enter Try.func62, Try.ntmps62
  go_wp2
  refine bodyPost_ret (results_none rfl _ _ _) rfl ?_
  exact ⟨rfl, out, HL.out, .same HN.out⟩
set_option maxRecDepth 100000 in
set_option maxHeartbeats 8000000 in
theorem join_ok (g n go : Nat) (l : List S53) (w : World) (hg : IsG w g n l) (hf : Fits n l) (label : Nat) : ∀ (F v : Nat) (out : List Int) (W : World), unl out ≤ F → v < n → Ls w W go n out →
    Calls Try.prog 62 #[.pointer (some ⟨g, 0, none⟩), .int .i64 (v : Int), .int .i64 (label : Int), .slice (some ⟨go, 0, none⟩) n n] W fun e W' => e = .returned (.tuple #[]) ∧ ∃ out', Ls w W' go n out' ∧ Jn l (label : Int) v out out' := by
  intro F
  induction F with
  | zero =>
    intro v out W hF hv hL
    refine join_had g n go l w label v out W (fun e => ?_) hv hL
    have := unl_set (out := out) (v := v) (k := 0) (by rw [hL.len]; exact hv) e (by decide)
    omega
  | succ F ih =>
    intro v out W hF hv hL
    by_cases hl : la out v = -1
    · obtain ⟨gO, pO, hrowO⟩ := hg.rowO
      obtain ⟨gI, pI, hrowI⟩ := hg.rowI
      obtain ⟨AO, cO, qO, hlcO, hCO⟩ := hrowO v hv
      obtain ⟨AI, cI, qI, hlcI, hCI⟩ := hrowI v hv
      obtain ⟨A0, c0, p0, hE⟩ : ∃ A0 c0, w.cell? ⟨g, 0, none⟩ = some (.slice A0 l.length c0) ∧ Kd.C k53 w A0 l.length l := by
        obtain ⟨base, gO, gI, b, A, c, val, K, h1, h2, h3⟩ := hg
        exact ⟨A, c, by rw [cell_of h1.st]; rfl, h2⟩
      have hlab : (label : Int) ≠ -1 := by omega
      have hvl : v < out.length := by rw [hL.len]; exact hv
      have hJm := Jm.start (l := l) (label := (label : Int)) hvl hl
      have c1 := hL.cell hv
      rw [hl] at c1
      have f1 := hL.free v
      have hd3 : decide (v < n) = true := decide_eq_true hv
      have hLs := hL.set v (label : Int)
      have lgo := (Array.getElem?_eq_some_iff.1 hL.ot).1
      have HL := Lib.hid hL
      have HLS := Lib.hid hLs
      have HJ := Lib.hid hJm
      have HP0 := Lib.hid p0
      have HPO := Lib.hid pO
      have HQO := Lib.hid qO
      have HPI := Lib.hid pI
      have HQI := Lib.hid qI
      have HCO := Lib.hid hCO
      have HCI := Lib.hid hCI
      have HE := Lib.hid hE
      have HF := Lib.hid hf
      have HLV := Lib.hid hl
      have HIH := Lib.hid ih
      have rO := rw_len l (.o v)
      have rI := rw_len l (.i v)
      have hl30 := hf.few
      have b0 := (hL.bl.cell (World.block_lt_of_cell? w _ p0)).trans p0
      have b1 := (hL.bl.cell (World.block_lt_of_cell? w _ pO)).trans pO
      have b2 := (hL.bl.cell (World.block_lt_of_cell? w _ qO)).trans qO
      have lg : g < w.heap.size := World.block_lt_of_cell? w _ p0
      have lgO : gO < w.heap.size := World.block_lt_of_cell? w _ qO
      have hag := hL.ago
      have ng : g ≠ go := by omega
      have ngO : gO ≠ go := by omega
      clear hL hLs hJm p0 pO qO pI qI hCO hCI hE hrowO hrowI hf hg ih hl
      go_enter Try.func62, Try.ntmps62
      go_wp2
      go_loopw [29] (fun vk wr => ∃ (k : Nat) (o1 : List Int), k ≤ (rw_ l (.o v)).length ∧ vk = .int .i64 k ∧ Ls w wr go n o1 ∧ Jm l (label : Int) v out o1 ((nxt l v).take k)) (fun vk _ => (rw_ l (.o v)).length - (intOf vk).toNat)
      case atStart => exact ⟨0, _, Nat.zero_le _, rfl, HLS.out, by simpa using HJ.out⟩
      case round =>
        obtain ⟨k, o1, hk, rfl, hL1, hJ1⟩ := hrel
        by_cases hlt : k < (rw_ l (.o v)).length
        · obtain ⟨j, hj, hjl, hP⟩ := rw_at hlt
          obtain ⟨ad, rfl, c1⟩ := int_at HCO.out hlt
          obtain ⟨ade, rfl, e0, e1⟩ := edge_at HE.out hjl
          have hfit := HF.out.fit _ (List.getElem_mem hjl)
          obtain ⟨x, hx⟩ : ∃ x : Nat, l[j].f1 = (x : Int) := ⟨l[j].f1.toNat, by omega⟩
          have hxn : x < n := by omega
          have hbl := hL1.bl
          have r1 := (hbl.cell (World.block_lt_of_cell? w _ c1)).trans c1
          have r2 := (hbl.cell (World.block_lt_of_cell? w _ e1)).trans e1
          have r0 := (hbl.cell (World.block_lt_of_cell? w _ HP0.out)).trans HP0.out
          rw [hj] at r1
          rw [hx] at r2
          have ht := take_nx hlt hj hjl
          rw [hx, Int.toNat_natCast] at ht
          have hadj : Adj l v x := .inl (List.mem_of_mem_take (i := k + 1) (by rw [ht]; simp))
          have hun : unl o1 ≤ F := by have := hJ1.unl hvl HLV.out hlab; omega
          have HL1 := Lib.hid hL1
          have HJ1 := Lib.hid hJ1
          have HT := Lib.hid ht
          have HADJ := Lib.hid hadj
          have d1 : decide (k < (rw_ l (.o v)).length) = true := decide_eq_true hlt
          have d2 : decide (j < l.length) = true := decide_eq_true hjl
          clear hL1 hJ1 ht hadj hbl c1 e0 e1 hfit hP hj hx
          go_wp2_with fail
          with_reducible refine (HIH.out x o1 _ hun hxn HL1.out).mono ?_
          rintro e w5 ⟨rfl, o2, hL2, hJ2⟩
          have HL2 := Lib.hid hL2
          have HJ2 := Lib.hid hJ2
          clear hL2 hJ2 r0 r1 r2
          go_wp2
          refine ⟨⟨k + 1, o2, by omega, by go_num, HL2.out, ?_⟩, by simp [intOf]; omega⟩
          rw [HT.out]
          exact HJ1.out.step hlab HADJ.out HJ2.out
        · have d1 : decide (k < (rw_ l (.o v)).length) = false := decide_eq_false hlt
          obtain rfl : k = (rw_ l (.o v)).length := by omega
          have HL1 := Lib.hid hL1
          have HJ1 := Lib.hid hJ1
          have hbl := hL1.bl
          have b0 := (hbl.cell (World.block_lt_of_cell? w _ HPI.out)).trans HPI.out
          have b1 := (hbl.cell (World.block_lt_of_cell? w _ HQI.out)).trans HQI.out
          clear hbl
          clear hL1 hJ1
          go_wp2
          go_loopw [54] (fun vk wr => ∃ (k : Nat) (o1 : List Int), k ≤ (rw_ l (.i v)).length ∧ vk = .int .i64 k ∧ Ls w wr go n o1 ∧ Jm l (label : Int) v out o1 (nxt l v ++ (prv l v).take k)) (fun vk _ => (rw_ l (.i v)).length - (intOf vk).toNat)
          case atStart => exact ⟨0, _, Nat.zero_le _, rfl, HL1.out, by have := HJ1.out; rw [List.take_of_length_le (by unfold nxt; simp)] at this; simpa using this⟩
          case round =>
            obtain ⟨k, o1, hk, rfl, hL1, hJ1⟩ := hrel
            by_cases hlt : k < (rw_ l (.i v)).length
            · obtain ⟨j, hj, hjl, hP⟩ := rw_at hlt
              obtain ⟨ad, rfl, c1⟩ := int_at HCI.out hlt
              obtain ⟨ade, rfl, e0, e1⟩ := edge_at HE.out hjl
              have hfit := HF.out.fit _ (List.getElem_mem hjl)
              obtain ⟨x, hx⟩ : ∃ x : Nat, l[j].f0 = (x : Int) := ⟨l[j].f0.toNat, by omega⟩
              have hxn : x < n := by omega
              have hbl := hL1.bl
              have r1 := (hbl.cell (World.block_lt_of_cell? w _ c1)).trans c1
              have r2 := (hbl.cell (World.block_lt_of_cell? w _ e0)).trans e0
              have r0 := (hbl.cell (World.block_lt_of_cell? w _ HP0.out)).trans HP0.out
              rw [hj] at r1
              rw [hx] at r2
              have ht := take_pr hlt hj hjl
              rw [hx, Int.toNat_natCast] at ht
              have hadj : Adj l v x := .inr (List.mem_of_mem_take (i := k + 1) (by rw [ht]; simp))
              have hun : unl o1 ≤ F := by have := hJ1.unl hvl HLV.out hlab; omega
              have HM1 := Lib.hid hL1
              have HK1 := Lib.hid hJ1
              have HT := Lib.hid ht
              have HADJ := Lib.hid hadj
              have d1 : decide (k < (rw_ l (.i v)).length) = true := decide_eq_true hlt
              have d2 : decide (j < l.length) = true := decide_eq_true hjl
              clear hL1 hJ1 ht hadj hbl c1 e0 e1 hfit hP hj hx
              go_wp2_with fail
              with_reducible refine (HIH.out x o1 _ hun hxn HM1.out).mono ?_
              rintro e w5 ⟨rfl, o2, hL2, hJ2⟩
              have HL2 := Lib.hid hL2
              have HJ2 := Lib.hid hJ2
              clear hL2 hJ2 r0 r1 r2
              go_wp2
              refine ⟨⟨k + 1, o2, by omega, by go_num, HL2.out, ?_⟩, by simp [intOf]; omega⟩
              rw [HT.out, ← List.append_assoc]
              exact HK1.out.step hlab HADJ.out HJ2.out
            · have d1 : decide (k < (rw_ l (.i v)).length) = false := decide_eq_false hlt
              obtain rfl : k = (rw_ l (.i v)).length := by omega
              have HM1 := Lib.hid hL1
              have HK1 := Lib.hid hJ1
              clear hL1 hJ1
              go_wp2
              go_end0
              refine ⟨rfl, _, HM1.out, HK1.out.close hlab HLV.out (fun c hc => ?_)⟩
              rw [List.take_of_length_le (by unfold prv; simp)]
              exact List.mem_append.2 hc
    · exact join_had g n go l w label v out W hl hv hL
end Go.Proofs.Ytkpaefeaplgnmaa.G
end
section
/- The walks of graph: Joined. -/
set_option linter.unusedSimpArgs false
set_option linter.unusedVariables false
namespace Go.Proofs.Ytkpaefeaplgnmaa.G
open Go.RowKit Go.Shelf Go.Proofs.Ytkpaefeaplgnmaa.PA Go.Proofs.Ytkpaefeaplgnmaa.Mp Go.Proofs.YtkpaefeaplgnmaaW.PrintWords Go.Proofs.YtkpaefeaplgnmaaW.PrintLast Go.Proofs.YtkpaefeaplgnmaaW.PrintMore

theorem ls_fill {out : List Int} {n i : Nat} (h : out = List.replicate i (-1) ++ List.replicate (n - i) 0) (hi : i < n) : out.set i (-1) = List.replicate (i + 1) (-1) ++ List.replicate (n - (i + 1)) 0 := by
  subst h
  rw [List.set_append_right _ _ (by simp), List.length_replicate, Nat.sub_self, show n - i = (n - (i + 1)) + 1 by omega, List.replicate_succ, List.set_cons_zero, List.replicate_succ', List.append_assoc]
  rfl
set_option maxRecDepth 100000 in
set_option maxHeartbeats 4000000 in
theorem joined_ok (g n : Nat) (l : List S53) (w : World) (hg : IsG w g n l) (hf : Fits n l) :
    Calls Try.prog 31 #[.pointer (some ⟨g, 0, none⟩)] w fun e w' => ∃ go out, e = .returned (.slice (some ⟨go, 0, none⟩) n n) ∧ Ls w w' go n out ∧ Jo l n n out := by
  obtain ⟨gO, p1, _⟩ := hg.rowO
  have lg := World.block_lt_of_cell? w _ p1
  have h12 := hf.top
  have hm := mk_of 27 3 (.int .i64 0) 8 Try.underlying27 info3' rfl n (by omega) (by decide)
  have hsym : ∀ x c, Adj l x c → Adj l c x := adj_sym (fun e he => ⟨(hf.fit e he).1, (hf.fit e he).2.2.1⟩)
  have HS := Lib.hid hsym
  have HG := Lib.hid hg
  have HF := Lib.hid hf
  clear hg hf hsym
  go_enter Try.func31, Try.ntmps31
  go_wp2
  have hot : (w.alloc (.cells (Array.replicate n (.int .i64 0)) 3)).heap[w.heap.size]? = some (.cells (Array.replicate n (.int .i64 0)) 3 (0, 0)) := World.alloc_heap_new _ _
  have hL0 : Ls w (w.alloc (.cells (Array.replicate n (.int .i64 0)) 3)) w.heap.size n (List.replicate n 0) := by
    refine ⟨hot.trans ?_, by simp, Nat.le_refl _, (Below.refl _ w).alloc (Nat.le_refl _) _⟩
    congr 2
    apply Array.ext'
    simp [I]
  generalize w.alloc (.cells (Array.replicate n (.int .i64 0)) 3) = W0 at hL0 ⊢
  have HL0 := Lib.hid hL0
  clear hL0 hot p1
  go_loopw [16] (fun vk wr => ∃ (i : Nat) (out : List Int), i ≤ n ∧ vk = .int .i64 i ∧ Ls w wr w.heap.size n out ∧ out = List.replicate i (-1) ++ List.replicate (n - i) 0) (fun vk _ => n - (intOf vk).toNat)
  case atStart => exact ⟨0, _, Nat.zero_le _, rfl, HL0.out, by simp⟩
  case round =>
    obtain ⟨i, out, hi, rfl, hL, ho⟩ := hrel
    by_cases hlt : i < n
    · have d1 : decide (i < n) = true := decide_eq_true hlt
      have c1 := hL.cell hlt
      have f1 := hL.free i
      have HL := Lib.hid hL
      have HO := Lib.hid ho
      clear hL ho
      go_wp2
      exact ⟨⟨i + 1, _, by omega, by go_num, HL.out.set i (-1), ls_fill HO.out hlt⟩, by simp [intOf]; omega⟩
    · have d1 : decide (i < n) = false := decide_eq_false hlt
      obtain rfl : i = n := by omega
      have ho' : out = List.replicate i (-1) := by rw [ho]; simp
      have HL := Lib.hid hL
      have HO := Lib.hid ho'
      clear hL ho ho'
      go_wp2
      go_loopw [25] (fun vk wr => ∃ (v : Nat) (out : List Int), v ≤ i ∧ vk = .int .i64 v ∧ Ls w wr w.heap.size i out ∧ Jo l i v out) (fun vk _ => i - (intOf vk).toNat)
      case atStart => exact ⟨0, _, Nat.zero_le _, rfl, HL.out, by rw [HO.out]; exact Jo.start l i⟩
      case round =>
        obtain ⟨v, o1, hv, rfl, hL1, hJ1⟩ := hrel
        by_cases hlt2 : v < i
        · have d2 : decide (v < i) = true := decide_eq_true hlt2
          have HL1 := Lib.hid hL1
          have HJ1 := Lib.hid hJ1
          clear hL1 hJ1
          go_wp2_with fail
          with_reducible refine (join_ok g i w.heap.size l w HG.out HF.out v i v o1 _ (by have := unl_len o1; rw [HL1.out.len] at this; exact this) hlt2 HL1.out).mono ?_
          rintro e w5 ⟨rfl, o2, hL2, hJ2⟩
          have HL2 := Lib.hid hL2
          have HJ2 := Lib.hid hJ2
          clear hL2 hJ2
          go_wp2
          exact ⟨⟨v + 1, o2, by omega, by go_num, HL2.out, HJ1.out.step HS.out HJ2.out⟩, by simp [intOf]; omega⟩
        · have d2 : decide (v < i) = false := decide_eq_false hlt2
          obtain rfl : v = i := by omega
          have HL1 := Lib.hid hL1
          have HJ1 := Lib.hid hJ1
          clear hL1 hJ1
          go_wp2
          go_ret
          exact ⟨_, o1, rfl, HL1.out, HJ1.out⟩
end Go.Proofs.Ytkpaefeaplgnmaa.G
end
section
/- The walks of graph: Distinct. -/
set_option linter.unusedSimpArgs false
set_option linter.unusedVariables false
namespace Go.Proofs.Ytkpaefeaplgnmaa.G
open Go.RowKit Go.Shelf Go.Proofs.Ytkpaefeaplgnmaa.PA Go.Proofs.Ytkpaefeaplgnmaa.Mp Go.Proofs.YtkpaefeaplgnmaaW.PrintWords Go.Proofs.YtkpaefeaplgnmaaW.PrintLast Go.Proofs.YtkpaefeaplgnmaaW.PrintMore

open Classical in
/-- Edges, each once, without those from a node to itself. -/
noncomputable def dl : List S53 → List S53 → List S53
  | acc, [] => acc
  | acc, e :: l => if e.f0 = e.f1 ∨ e ∈ acc then dl acc l else dl (acc ++ [e]) l
theorem zero4 (w : World) : (zeroValue 4).run Try.prog w = .ok (.bool false) w := by kernel_rfl
theorem mkmap (t : TypeId) (W : World) : (Instr.makeMap t none).run Try.prog W = .ok (.map (some W.heap.size)) (W.alloc (.map #[] 0)) := by
  simp [Instr.makeMap, newObj, Result.andThen, Sem.run]
def seen (acc : List S53) : List (Value × Value) := acc.map (fun e => (ke e, .bool true))
theorem ke_mem {acc : List S53} {e : S53} (h : e ∉ acc) : ∀ p ∈ seen acc, p.1 ≠ ke e := fun p hp q => by
  obtain ⟨f, hf, rfl⟩ := List.mem_map.1 hp
  exact h ((ke_inj q) ▸ hf)
theorem hO_kept {w1 w2 : World} {b base : Nat} {m : List (Value × Value)} {v : Value} {acc : List S53} (h : Kd.R k53 53 w1 base (fun _ => True) v acc) (hm : MapIs Try.prog 53 w1 b m) (hg : w1.grownBy w2 (some b)) : Kd.R k53 53 w2 base (fun _ => True) v acc := by
  refine Kd.R_mono (Kd.R_move (Kd.R_bound h) (fun k hk => hg.block k hk.2.2.1 (fun e => ?_))) (fun _ hk => hk.1)
  obtain ⟨_, _, _, q, _, cs, hcs⟩ := hk
  injection e with e
  exact hm.ne hcs e.symm
theorem hM_own {w1 : World} {b base : Nat} {m : List (Value × Value)} {v : Value} {acc : List S53} (h : Kd.R k53 53 w1 base (fun _ => True) v acc) (hm : MapIs Try.prog 53 w1 b m) : some b ≠ v.ownBlock := fun e => by
  obtain ⟨_, inner, ho, _⟩ := h
  obtain ⟨_, c, hc⟩ := own_lt ho e.symm
  exact hm.ne hc rfl
set_option maxRecDepth 100000 in
set_option maxHeartbeats 4000000 in
theorem distinct_ok (A : Option Addr) (c : Nat) (l : List S53) (w : World) (hr : Kd.C k53 w A l.length l) (hc : l.length ≤ c) (hl : l.length ≤ 1000) (hwf : ∀ x ∈ l, (Lit.int .i64 x.f0).wf = true ∧ (Lit.int .i64 x.f1).wf = true) :
    Calls Try.prog 35 #[.slice A l.length c] w fun e w' => ∃ v, e = .returned v ∧ Kd.R k53 53 w' w.heap.size (fun _ => True) v (dl [] l) ∧ Below w.heap.size w w' := by
  have HR := Lib.hid hr
  have HW := Lib.hid hwf
  clear hr hwf
  have hmm := mkmap 79
  go_enter Try.func35, Try.ntmps35
  go_wp2
  have hM0 : MapIs Try.prog 53 (w.alloc (.map #[] 0)) w.heap.size (seen []) := MapIs.made w
  have hB0 : Below w.heap.size w (w.alloc (.map #[] 0)) := (Below.refl _ w).alloc (Nat.le_refl _) _
  generalize w.alloc (.map #[] 0) = W0 at hM0 hB0 ⊢
  have HM0 := Lib.hid hM0
  have HB0 := Lib.hid hB0
  clear hM0 hB0 hmm
  go_loopw [4, 10] (fun v4 v10 wr => ∃ (i : Nat) (acc : List S53), i ≤ l.length ∧ v10 = .int .i64 i ∧ dl acc (l.drop i) = dl [] l ∧ acc.length ≤ i ∧ MapIs Try.prog 53 wr w.heap.size (seen acc) ∧ Kd.R k53 53 wr w.heap.size (fun _ => True) v4 acc ∧ Below w.heap.size w wr) (fun _ v10 _ => l.length - (intOf v10).toNat)
  case atStart => exact ⟨0, [], Nat.zero_le _, rfl, by rw [List.drop_zero], Nat.zero_le _, HM0.out, Kd.R_nil _ _ _ _ _, HB0.out⟩
  case round =>
    obtain ⟨i, acc, hi, rfl, hd, ha, hM, hO, hb⟩ := hrel
    by_cases hlt : i < l.length
    · have di : decide (i < l.length) = true := decide_eq_true hlt
      obtain ⟨ad, rfl, e0, e1⟩ := edge_at HR.out hlt
      obtain ⟨k, hk⟩ := key_ok l[i] (HW.out _ (List.getElem_mem hlt)).1 (HW.out _ (List.getElem_mem hlt)).2
      have q0 := (hb.cell (World.block_lt_of_cell? _ _ e0)).trans e0
      have q1 := (hb.cell (World.block_lt_of_cell? _ _ e1)).trans e1
      rw [List.drop_eq_getElem_cons hlt] at hd
      obtain ⟨x, hx⟩ : ∃ x, x = l[i] := ⟨_, rfl⟩
      rw [← hx] at hk q0 q1 hd
      have HM := Lib.hid hM
      have HO := Lib.hid hO
      have HB := Lib.hid hb
      have HD := Lib.hid hd
      have HK := Lib.hid hk
      clear hM hO hb hd hk e0 e1 hx
      have hA4 : Below wr.heap.size wr (wr.alloc (.cells #[.int .i64 x.f0, .int .i64 x.f1] 53)) := (Below.refl _ wr).alloc (Nat.le_refl _) _
      have hM4 := HM.out.below hA4
      have hB4 : Below w.heap.size w (wr.alloc (.cells #[.int .i64 x.f0, .int .i64 x.f1] 53)) := HB.out.alloc HB.out.size _
      have hO4 := Kd.R_below HO.out hA4
      have hbx : (wr.alloc (.cells #[.int .i64 x.f0, .int .i64 x.f1] 53)).heap[wr.heap.size]? = some (.cells #[.int .i64 x.f0, .int .i64 x.f1] 53 (0, 0)) := World.alloc_heap_new _ _
      by_cases hloop : x.f0 = x.f1
      · have ee : (x.f0 == x.f1) = true := by simpa using hloop
        have hdl : dl acc (l.drop (i + 1)) = dl [] l := by
          have := HD.out
          rw [dl, if_pos (.inl hloop)] at this
          exact this
        have HD2 := Lib.hid hdl
        have HM4 := Lib.hid hM4
        have HB4 := Lib.hid hB4
        have HO4 := Lib.hid hO4
        clear hM4 hB4 hO4 hA4 hbx hdl hloop
        go_wp2_with fail
        generalize wr.alloc (.cells #[.int .i64 x.f0, .int .i64 x.f1] 53) = W4 at HM4 HB4 HO4 ⊢
        exact ⟨⟨i + 1, acc, by omega, by go_num, HD2.out, by omega, HM4.out, HO4.out, HB4.out⟩, by simp [intOf]; omega⟩
      · have ee : (x.f0 == x.f1) = false := by simpa using hloop
        by_cases hin : x ∈ acc
        · obtain ⟨j, hj⟩ := List.getElem?_of_mem hin
          have hdl : dl acc (l.drop (i + 1)) = dl [] l := by
            have := HD.out
            rw [dl, if_pos (.inr hin)] at this
            exact this
          have hlk : (Instr.lookup 79 (.map (some w.heap.size)) (.agg #[.int .i64 x.f0, .int .i64 x.f1]) false).run Try.prog (wr.alloc (.cells #[.int .i64 x.f0, .int .i64 x.f1] 53)) = .ok (.bool true) (wr.alloc (.cells #[.int .i64 x.f0, .int .i64 x.f1] 53)) :=
            lookup_some keyed Try.underlying79 hM4 (key := ke x) (v := .bool true) (j := j) (by unfold seen; rw [List.getElem?_map, hj]; rfl) false
          have HD2 := Lib.hid hdl
          have HM4 := Lib.hid hM4
          have HB4 := Lib.hid hB4
          have HO4 := Lib.hid hO4
          clear hM4 hB4 hO4 hA4 hbx hdl hloop hin hj
          go_wp2_with fail
          exact ⟨⟨i + 1, acc, by omega, by go_num, HD2.out, by omega, HM4.out, HO4.out, HB4.out⟩, by simp [intOf]; omega⟩
        · have hdl : dl (acc ++ [x]) (l.drop (i + 1)) = dl [] l := by
            have := HD.out
            rw [dl, if_neg (fun q => q.elim hloop hin)] at this
            exact this
          have hlk : (Instr.lookup 79 (.map (some w.heap.size)) (.agg #[.int .i64 x.f0, .int .i64 x.f1]) false).run Try.prog (wr.alloc (.cells #[.int .i64 x.f0, .int .i64 x.f1] 53)) = .ok (.bool false) (wr.alloc (.cells #[.int .i64 x.f0, .int .i64 x.f1] 53)) :=
            lookup_none keyed Try.underlying79 hM4 (zero4 _) HK.out (ke_mem hin) false
          obtain ⟨w5, hup, hM5, hg5⟩ := update_new keyed Try.underlying79 hM4 (val := .bool true) HK.out (ke_mem hin)
          have hup' : (Instr.mapUpdate 79 (.map (some w.heap.size)) (.agg #[.int .i64 x.f0, .int .i64 x.f1]) (.bool true)).run Try.prog (wr.alloc (.cells #[.int .i64 x.f0, .int .i64 x.f1] 53)) = .ok () w5 := hup
          have hz4 : (wr.alloc (.cells #[.int .i64 x.f0, .int .i64 x.f1] 53)).heap.size = wr.heap.size + 1 := by simp
          have hne : w.heap.size ≠ wr.heap.size := hM4.ne hbx
          have hs := HB.out.size
          have hbx5 := (hg5.block wr.heap.size (by omega) (fun e => hne (by injection e with e; exact e.symm))).trans hbx
          have l5 : wr.heap.size < w5.heap.size := (Array.getElem?_eq_some_iff.1 hbx5).1
          have b0 : w5.cell? ⟨wr.heap.size, 0, none⟩ = some (.int .i64 x.f0) := by rw [cell_of hbx5]; rfl
          have b1 : w5.cell? ⟨wr.heap.size, 1, none⟩ = some (.int .i64 x.f1) := by rw [cell_of hbx5]; rfl
          have hB5 : Below w.heap.size w w5 := hB4.grown hg5 (by omega) (fun k hk => by injection hk with hk; omega)
          have hM5' : MapIs Try.prog 53 w5 w.heap.size (seen (acc ++ [x])) := by
            have : seen (acc ++ [x]) = seen acc ++ [(ke x, .bool true)] := by simp [seen]
            rw [this]
            exact hM5
          have hO5 : Kd.R k53 53 w5 w.heap.size (fun _ => True) u4 acc := hO_kept hO4 hM4 hg5
          have HD2 := Lib.hid hdl
          have HM5 := Lib.hid hM5'
          have HB5 := Lib.hid hB5
          have HO5 := Lib.hid hO5
          clear hM4 hB4 hO4 hA4 hbx hdl hloop hin hup hM5 hM5' hg5 hz4 hbx5 hB5 hO5
          have hmo := hM_own HO5.out HM5.out
          have HMO := Lib.hid hmo
          clear hmo
          go_wp2_with (first | ((with_reducible refine gate_builtin (b := .append) (xs := #[.tmp 26, .tmp 28]) rfl ?_); at_builtin; refine Kd.R_append k53 (w0 := w) w.heap.size rfl (.tmp 26) (.tmp 28) 22 53 (.agg #[(.int .i64 0), (.int .i64 0)]) 16 rfl Try.underlying22 info53 rfl (by decide) (by omega) u4 acc x [.int .i64 x.f0, .int .i64 x.f1] (fun _ => True) (fun _ => False) rfl rfl ?aP (fun _ hk => hk.elim) ?aF ?aO ?aB ?aS ?aL ?_; (case aP => exact k53_mkM _ _ _ x); (case aB => exact HB5.out); (case aF => exact (fun _ _ => trivial)); (case aO => exact HO5.out); (case aS => exact HB5.out.size); (case aL => omega); intro v6 w6 ho hb hg hat; have HO6 := Lib.hid ho; have HB6 := Lib.hid hb; have HG6 := Lib.hid hg; clear ho hb hg hat))
          refine ⟨⟨i + 1, acc ++ [x], by omega, by go_num, HD2.out, by rw [List.length_append]; simp; omega, HM5.out.kept HG6.out HMO.out, HO6.out, HB6.out⟩, by simp [intOf]; omega⟩
    · have di : decide (i < l.length) = false := decide_eq_false hlt
      obtain rfl : i = l.length := by omega
      rw [List.drop_length] at hd
      have HO := Lib.hid hO
      have HB := Lib.hid hb
      have HD := Lib.hid hd
      clear hM hO hb hd
      go_wp2
      go_ret
      refine ⟨_, rfl, ?_, HB.out⟩
      rw [← HD.out]
      exact HO.out
end Go.Proofs.Ytkpaefeaplgnmaa.G
end
