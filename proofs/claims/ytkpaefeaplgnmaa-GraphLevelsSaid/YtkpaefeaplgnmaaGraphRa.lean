/- The walks of graph: AppendSeq over a node's successors. -/
import Derived.Test.YtkpaefeaplgnmaaGraphL
set_option linter.unusedSimpArgs false
set_option linter.unusedVariables false
namespace Go.Proofs.Ytkpaefeaplgnmaa.G
open Go.RowKit Go.Shelf Go.Proofs.Ytkpaefeaplgnmaa.PA Go.Proofs.Ytkpaefeaplgnmaa.Mp Go.Proofs.YtkpaefeaplgnmaaW.PrintWords Go.Proofs.YtkpaefeaplgnmaaW.PrintLast Go.Proofs.YtkpaefeaplgnmaaW.PrintMore
attribute [local go_sem] Oper.semAt_some

/-- A queue in a box: what lay there before stays, but for what the queue may have. -/
structure Tb (W1 W : World) (b0 Bt : Nat) (ok : Nat → Prop) (todo : List Nat) : Prop where
  bt : ∃ v, Boxed W Bt 27 v ∧ Kd.Q (Kd.int .i64) 3 W b0 ok v (qs todo)
  bl : Below b0 W1 W
  abt : W1.heap.size ≤ Bt
  kp : ∀ k, k < W1.heap.size → ¬ ok k → W.heap[k]? = W1.heap[k]?
section
variable {W1 W : World} {b0 Bt : Nat} {ok : Nat → Prop} {todo : List Nat}
theorem Tb.kept {W' : World} {r : Option Nat} (h : Tb W1 W b0 Bt ok todo) (hg : W.grownBy W' r) (h0 : ∀ k, r = some k → W1.heap.size ≤ k ∧ b0 ≤ k) (hr : ∀ k, r = some k → ∀ c t, W.heap[k]? ≠ some (.cells c t (0, 0))) (hb : b0 ≤ W.heap.size) : Tb W1 W' b0 Bt ok todo := by
  have far : ∀ {k : Nat} {c : Array Value} {t : TypeId}, W.heap[k]? = some (.cells c t (0, 0)) → W'.heap[k]? = some (.cells c t (0, 0)) := fun {k c t} hk =>
    (hg.block k (Array.getElem?_eq_some_iff.1 hk).1 (fun e => hr k e.symm c t hk)).trans hk
  obtain ⟨v, hv, hq⟩ := h.bt
  refine ⟨⟨v, far hv, ?_⟩, h.bl.grown hg hb (fun k e => (h0 k e).2), h.abt, fun k hk hn => ?_⟩
  · refine Kd.Q_mono (Kd.Q_step (Kd.Q_tight rfl hq) (fun k hk hlt => ?_)) (fun k hk => hq.1 k hk.symm)
    obtain ⟨c, hc⟩ := Kd.Q_typed hq k hk.symm
    rw [far hc, hc]
  · rw [hg.block k (Nat.lt_of_lt_of_le hk h.bl.size) (fun e => by have := (h0 k e.symm).1; omega)]
    exact h.kp k hk hn
theorem Tb.push (h : Tb W1 W b0 Bt ok todo) (hb0 : b0 ≤ W.heap.size) (hbB : b0 ≤ Bt) (hfr : ∀ k, W.heap.size ≤ k → ok k) (hlen : todo.length ≤ 1000) (x : Nat) : ∃ (A : Option Addr) (cap : Nat) (g1 o1 cap1 : Nat) (w1 : World),
    W.cell? ⟨Bt, 0, none⟩ = some (.slice A todo.length cap) ∧ (Builtin.append_ #[27, 27] 27 #[.slice A todo.length cap, .slice (some ⟨W.heap.size, 0, none⟩) 1 1]).run Try.prog (W.alloc (.cells #[.int .i64 (x : Int)] 3)) = .ok (.slice (some ⟨g1, o1, none⟩) (todo.length + 1) cap1) w1 ∧
    w1.cell? ⟨Bt, 0, none⟩ = some (.slice A todo.length cap) ∧ w1.frozen? ⟨Bt, 0, none⟩ = false ∧
    Tb W1 (w1.setCell ⟨Bt, 0, none⟩ (.slice (some ⟨g1, o1, none⟩) (todo.length + 1) cap1)) b0 Bt ok (todo ++ [x]) ∧ KeepsOthers W (w1.setCell ⟨Bt, 0, none⟩ (.slice (some ⟨g1, o1, none⟩) (todo.length + 1) cap1)) ∧
    Below b0 W (w1.setCell ⟨Bt, 0, none⟩ (.slice (some ⟨g1, o1, none⟩) (todo.length + 1) cap1)) ∧
    (∀ k, k < W.heap.size → k ≠ Bt → ¬ ok k → (w1.setCell ⟨Bt, 0, none⟩ (.slice (some ⟨g1, o1, none⟩) (todo.length + 1) cap1)).heap[k]? = W.heap[k]?) := by
  obtain ⟨u, hu, hq⟩ := h.bt
  obtain ⟨A, cap, rfl, hc⟩ := Kd.Q_slice hq
  have hql : (qs todo).length = todo.length := by simp [qs]
  obtain ⟨v1, w1, hrun, hq1, hb1, hg1, hat1⟩ := Kd.Q_run (P := Try.prog) (Kd.int .i64) (w0 := W) b0 27 27 3 (.int .i64 0) 8 Try.underlying27 info3' rfl (by decide) (by decide) _ _ (x : Int) [.int .i64 (x : Int)] ok (fun _ => False) rfl (fun _ h => h.elim) hfr hq (Below.refl _ _) hb0 (by rw [hql]; omega)
  obtain ⟨g1, o1, cap1, rfl, hg1b, hg1l, cs1, hcs1⟩ := Kd.Q_form hq1 (by simp)
  have hl1 : ((qs todo) ++ [(x : Int)]).length = todo.length + 1 := by simp [qs]
  have hqa : qs todo ++ [(x : Int)] = qs (todo ++ [x]) := by simp [qs]
  rw [hl1] at hrun hq1
  rw [hql] at hrun hu hg1 hq
  have far : ∀ {k : Nat} {c : Array Value} {t : TypeId}, W.heap[k]? = some (.cells c t (0, 0)) → t ≠ 3 → w1.heap[k]? = some (.cells c t (0, 0)) := fun {k c t} hk ht => by
    refine (hg1.block k (Array.getElem?_eq_some_iff.1 hk).1 (fun e => ?_)).trans hk
    obtain ⟨c', hc'⟩ := Kd.Q_typed hq k e.symm
    exact cells_ne hk hc' ht rfl
  have farok : ∀ k, k < W.heap.size → ¬ ok k → w1.heap[k]? = W.heap[k]? := fun k hk hn => hg1.block k hk (fun e => hn (hq.1 k e.symm))
  have bt1 : Boxed w1 Bt 27 _ := far hu (by decide)
  have gB : Bt ≠ g1 := cells_ne bt1 hcs1 (by decide)
  refine ⟨A, cap, g1, o1, cap1, w1, hu.cell, hrun, bt1.cell, bt1.frozen, ⟨⟨_, bt1.set _, ?_⟩, (h.bl.trans hb1).setCell (p := ⟨Bt, 0, none⟩) hbB _, h.abt, fun k hk hn => ?_⟩, ?_, hb1.setCell (p := ⟨Bt, 0, none⟩) hbB _, fun k hk hb hn => ?_⟩
  · rw [← hqa]
    exact Kd.Q_grown1 hq1 rfl (setCell_grown w1 Bt 0 _) (fun e => gB (by simpa [Value.ownBlock] using e))
  · rw [Below.heap_setCell _ _ _ _ (show k ≠ Bt from by have := h.abt; omega), farok k (Nat.lt_of_lt_of_le hk h.bl.size) hn]
    exact h.kp k hk hn
  · refine (KeepsOthers.of_grownBy hg1 fun j o ej hj => ?_).trans (KeepsOthers.setCell _ _ _)
    obtain ⟨c', hc'⟩ := Kd.Q_typed hq j ej
    rw [hc'] at hj
    cases hj
    rfl
  · rw [Below.heap_setCell _ _ _ _ hb]
    exact farok k hk hn
end
/-- Between two rounds. -/
def Mid2 (W1 : World) (b0 Bt Bg n : Nat) (ok : Nat → Prop) (todo : List Nat) (pre : List (Fin n)) (W : World) : Prop :=
  Tb W1 W b0 Bt (fun k => ok k ∧ k ≠ Bg ∧ k ≠ Bg + 1) (todo ++ pre.map Fin.val) ∧ Bg + 1 < W.heap.size ∧ b0 ≤ W.heap.size
theorem Mid2.own {W1 : World} {b0 Bt Bg n : Nat} {ok : Nat → Prop} {todo : List Nat} {B : Nat} (hB : W1.heap.size ≤ B) (hb : b0 ≤ B) : OwnFrom B (Mid2 W1 b0 Bt Bg n ok todo) := fun s W W' row hs hg hr => by
  refine ⟨hs.1.kept hg (fun k e => ⟨Nat.le_trans hB (hr k e).1, Nat.le_trans hb (hr k e).1⟩) (fun k e c t hk => ?_) hs.2.2, Nat.lt_of_lt_of_le hs.2.1 hg.size, Nat.le_trans hs.2.2 hg.size⟩
  obtain ⟨_, o, ho, hc⟩ := hr k e
  rw [hk] at ho
  cases ho
  cases hc
set_option maxRecDepth 100000 in
set_option maxHeartbeats 4000000 in
theorem appseq_in (m g n v : Nat) (l : List S53) (w0 W1 : World) (hg : IsG w0 g n l) (hf : Fits n l) (hv : v < n) (hm : 5 ≤ m) (hb : Below w0.heap.size w0 W1) (Bg : Nat) (hB0 : w0.heap.size ≤ Bg)
    (hBg : W1.heap[Bg]? = some (.cells #[.pointer (some ⟨g, 0, none⟩)] 24 (0, 0))) (hBv : W1.heap[Bg + 1]? = some (.cells #[.int .i64 (v : Int)] 3 (0, 0))) (ok : Nat → Prop) (hfr : ∀ k, W1.heap.size ≤ k → ok k) (A : Option Addr) (cap : Nat) (todo : List Nat) (hQ : Kd.Q (Kd.int .i64) 3 W1 w0.heap.size (fun k => ok k ∧ k ≠ Bg ∧ k ≠ Bg + 1) (.slice A todo.length cap) (qs todo)) (hlen : todo.length ≤ 900) :
    CallsIn Fence.wide m Try.prog 61 #[.slice A todo.length cap, .func (.func 64) #[] #[.pointer (some ⟨Bg, 0, none⟩), .pointer (some ⟨Bg + 1, 0, none⟩)]] W1 fun e W' => ∃ x', e = .returned x' ∧ Kd.Q (Kd.int .i64) 3 W' w0.heap.size (fun k => ok k ∧ k ≠ Bg ∧ k ≠ Bg + 1) x' (qs (todo ++ nxt l v)) ∧ Below w0.heap.size W1 W' ∧ ∀ k, k < W1.heap.size → ¬ (ok k ∧ k ≠ Bg ∧ k ≠ Bg + 1) → W'.heap[k]? = W1.heap[k]? := by
  have HG := Lib.hid hg
  have HF := Lib.hid hf
  have HB := Lib.hid hb
  have HQ := Lib.hid hQ
  have lB := (Array.getElem?_eq_some_iff.1 hBv).1
  have hs := hb.size
  have HBg := Lib.hid hBg
  have HBv := Lib.hid hBv
  clear hg hf hb hQ hBg hBv
  refine callsIn_of_wp_marks Try.func61 rfl trivial ?_ rfl
  simp only [Try.ntmps61, List.size_toArray, List.length_cons, List.length_nil, Nat.reduceAdd, Nat.reduceSub, Array.replicate_succ, Array.replicate_zero, List.push_toArray, List.append_toArray, List.nil_append, List.cons_append]
  gi_wp2
  have b1 := Boxed.new W1 27 (.slice A todo.length cap)
  have hA1 : Below W1.heap.size W1 (W1.alloc (.cells #[.slice A todo.length cap] 27)) := (Below.refl _ W1).alloc (Nat.le_refl _) _
  have hz : (W1.alloc (.cells #[.slice A todo.length cap] 27)).heap.size = W1.heap.size + 1 := by simp
  have hT : Tb W1 (W1.alloc (.cells #[.slice A todo.length cap] 27)) w0.heap.size W1.heap.size (fun k => ok k ∧ k ≠ Bg ∧ k ≠ Bg + 1) todo := ⟨⟨_, b1, Kd.Q_below HQ.out hA1⟩, (Below.refl _ W1).alloc hs _, Nat.le_refl _, fun k hk _ => hA1.block k hk⟩
  generalize W1.alloc (.cells #[.slice A todo.length cap] 27) = W2 at b1 hA1 hT hz ⊢
  have hbW2 : Below w0.heap.size w0 W2 := HB.out.trans hT.bl
  refine wpIn_rangeFunc_ownG rfl (by omega) (gf := 64) (lb := #[.pointer (some ⟨Bg, 0, none⟩), .pointer (some ⟨Bg + 1, 0, none⟩)]) rfl trivial (enters_of Try.func64 (by kernel_rfl) rfl)
    (next_stops (m - 1) (by omega) Bg g n v l w0 W2 hv HF.out HG.out hB0 hbW2 ((hA1.block _ (by omega)).trans HBg.out) ((hA1.block _ lB).trans HBv.out)) KpG.t (KpG.b (by omega) (by omega)) (Below.refl _ _) (fun _ => rfl)
    (Mid2 W1 w0.heap.size W1.heap.size Bg n ok todo) (fun _ _ _ => False) (Mid2.own (by omega) (by omega)) (fun _ _ _ _ _ hs _ _ => hs) ⟨by simpa using hT, by omega, by omega⟩
    (fun x => { tmps := #[.slice A todo.length cap, .func (.func 64) #[] #[.pointer (some ⟨Bg, 0, none⟩), .pointer (some ⟨Bg + 1, 0, none⟩)], .pointer (some ⟨W1.heap.size, 0, none⟩), undef, .slice none 0 0, .int .i64 (x.1 : Int), .func (.func 64) #[] #[.pointer (some ⟨Bg, 0, none⟩), .pointer (some ⟨Bg + 1, 0, none⟩)], .int .i64 (x.1 : Int), undef, undef, undef, undef, undef], defers := [] }) ?assign ?body ?done ?stop
  case assign =>
    intro L x W3 K hK
    gi_wp2
    exact hK
  case body =>
    rintro L pre x W3 ⟨hT3, hl3, hz3⟩ hpl
    have hpl' : (pre.map Fin.val).length < 30 := by simpa using hpl
    have hqe : ∃ q, q = todo ++ pre.map Fin.val := ⟨_, rfl⟩
    obtain ⟨q, hq0⟩ := hqe
    rw [← hq0] at hT3
    have hql : q.length ≤ 1000 := by rw [hq0, List.length_append]; omega
    have HQ0 := Lib.hid hq0
    clear hq0
    obtain ⟨A4, cap4, g4, o4, c4, w4, p1, p2, p3, p4, hT4, hK4, hb4, hF4⟩ := hT3.push hz3 (by omega) (fun k hk => ⟨hfr k (by have := hT3.bl.size; omega), by omega, by omega⟩) hql x.1
    have HT4 := Lib.hid hT4
    have HK4 := Lib.hid hK4
    have HF4 := Lib.hid hF4
    have HP2 := Lib.hid p2
    have HB4 := Lib.hid hb4
    have l3 : W1.heap.size < W3.heap.size := World.block_lt_of_cell? W3 _ p1
    have l4 : W1.heap.size < w4.heap.size := World.block_lt_of_cell? w4 _ p3
    clear hT3 hT4 hK4 hF4 p2 hb4 hT
    gi_wp2_with (gi_at_builtin; refine wpListIn_run (fun _ => trivial) rfl _ _ rfl rfl rfl HP2.out ?_)
    refine ⟨HK4.out.from _, ⟨HB4.out, HF4.out _ (by omega) (by omega) (fun h => h.2.1 rfl), HF4.out _ (by omega) (by omega) (fun h => h.2.2 rfl)⟩, ⟨?_, Nat.lt_of_lt_of_le hl3 HK4.out.size, Nat.le_trans hz3 HK4.out.size⟩⟩
    rw [List.map_append, ← List.append_assoc, ← HQ0.out]
    exact HT4.out
  case done =>
    rintro D ys W3 hD hys ⟨hT3, hl3, hz3⟩ hDk
    rw [hys] at hT3
    obtain ⟨u, hu, hq⟩ := hT3.bt
    have c1 := hu.cell
    have l5 : W1.heap.size < W3.heap.size := World.block_lt_of_cell? W3 _ c1
    have HT3 := Lib.hid hT3
    have HQ3 := Lib.hid hq
    have HDK := Lib.hid hDk
    clear hT3 hq hu hys hDk
    gi_wp2
    refine leaves_all (n₀ := W1.heap.size) [D] W3 ⟨List.nodup_cons.2 ⟨(by simp), List.nodup_nil⟩, fun D' hD' => ?_⟩ (fun W' hb hc => ?_)
    · rw [List.mem_singleton.1 hD']
      exact ⟨by omega, HDK.out⟩
    · refine ⟨_, results_tmp rfl _ _ _, _, rfl, ?_, HT3.out.bl.trans ⟨hb.os, hb.tape, hb.output, hb.size, fun q hq => hb.block q (by omega)⟩, fun k hk hn => (hb.block k hk).trans (HT3.out.kp k hk hn)⟩
      refine Kd.Q_mono (Kd.Q_step (Kd.Q_tight rfl HQ3.out) (fun k hk hlt => ?_)) (fun k hk => HQ3.out.1 k hk.symm)
      obtain ⟨c, hcc⟩ := Kd.Q_typed HQ3.out k hk.symm
      rw [hc k _ _ _ hcc, hcc]
  case stop =>
    rintro D c pre W3 _ _ h _
    exact h.elim
end Go.Proofs.Ytkpaefeaplgnmaa.G
