/- The walks of graph: how far nodes are from one: the walk. -/
import Derived.Test.YtkpaefeaplgnmaaGraphK
import Derived.Test.YtkpaefeaplgnmaaInRound
set_option linter.unusedSimpArgs false
set_option linter.unusedVariables false
namespace Go.Proofs.Ytkpaefeaplgnmaa.G
open Go.RowKit Go.Shelf Go.Proofs.Ytkpaefeaplgnmaa.PA Go.Proofs.Ytkpaefeaplgnmaa.Mp Go.Proofs.YtkpaefeaplgnmaaW.PrintWords Go.Proofs.YtkpaefeaplgnmaaW.PrintLast Go.Proofs.YtkpaefeaplgnmaaW.PrintMore
attribute [local go_sem] Oper.semAt_some

def mark (D : Nat) : Deferred := { target := .collected D, args := #[] }
/-- The marks of ranges over functions that are over. -/
def Marks (n₀ : Nat) (Ds : List Nat) (W : World) : Prop := Ds.Nodup ∧ ∀ D ∈ Ds, n₀ ≤ D ∧ W.heap[D]? = some (.deferred (some []))
theorem leaves_all {F : Fence} {m : Nat} {P : Program} {fn : Func} {tmps : Array Value} {R : Ending → World → Prop} {n₀ : Nat} : ∀ (Ds : List Nat) (W : World), Marks n₀ Ds W →
    (∀ W', Below n₀ W W' → (∀ (k : Nat) (c : Array Value) (t : TypeId) (f : Nat × Nat), W.heap[k]? = some (.cells c t f) → W'.heap[k]? = some (.cells c t f)) → LeavesInM F m P fn tmps R [] .returning W') → LeavesInM F m P fn tmps R (Ds.map mark) .returning W
  | [], W, _, h => h W (Below.refl _ _) (fun _ _ _ _ hk => hk)
  | D :: Ds, W, hM, h => by
    obtain ⟨hn, hD⟩ := hM
    obtain ⟨hD0, hDk⟩ := hD D List.mem_cons_self
    have hn' := List.nodup_cons.1 hn
    refine ⟨by simp, .inl ⟨D, _, rfl, run_takeDeferred hDk, ?_⟩⟩
    refine leaves_all (n₀ := n₀) Ds _ ⟨hn'.2, fun D' hD' => ?_⟩ (fun W' hb hc => ?_)
    · have := hD D' (List.mem_cons_of_mem _ hD')
      exact ⟨this.1, (World.putObj_heap_other (fun e => hn'.1 (by rw [← e]; exact hD'))).trans this.2⟩
    · refine h W' (Below.trans ((Below.refl n₀ W).grown (grownBy_putObj' W D _) (by have := (Array.getElem?_eq_some_iff.1 hDk).1; omega) (fun k e => by cases e; exact hD0)) hb) (fun k c t f hk => hc k c t f ((World.putObj_heap_other (fun e => ?_)).trans hk))
      rw [← e] at hDk
      rw [hDk] at hk
      cases hk
theorem Marks.kept {n₀ : Nat} {Ds : List Nat} {W W' : World} (h : Marks n₀ Ds W) (hk : ∀ D ∈ Ds, W.heap[D]? = some (.deferred (some [])) → W'.heap[D]? = some (.deferred (some []))) : Marks n₀ Ds W' := ⟨h.1, fun D hD => ⟨(h.2 D hD).1, hk D hD (h.2 D hD).2⟩⟩
theorem Marks.others {n₀ : Nat} {Ds : List Nat} {W W' : World} (h : Marks n₀ Ds W) (hk : KeepsOthers W W') : Marks n₀ Ds W' := h.kept (fun D _ hD => hk.same D _ hD rfl)
theorem Marks.lt {n₀ : Nat} {Ds : List Nat} {W : World} (h : Marks n₀ Ds W) : ∀ D ∈ Ds, D < W.heap.size := fun D hD => (Array.getElem?_eq_some_iff.1 (h.2 D hD).2).1

/-- Between two rounds of the inner loop. -/
def Mid (w0 : World) (Bo go n Bt Bg u : Nat) (out : List Int) (todo : List Nat) (Ds : List Nat) (pre : List (Fin n)) (W : World) : Prop :=
  Lv w0 W Bo go n Bt (fun k => k ≠ go ∧ k ≠ Bg ∧ k ≠ Bg + 1) ((pre.map Fin.val).foldl (take1 u) (out, todo)).1 ((pre.map Fin.val).foldl (take1 u) (out, todo)).2 ∧ Marks w0.heap.size Ds W ∧ Bg + 1 < W.heap.size
theorem Mid.own {w0 : World} {Bo go n Bt Bg u : Nat} {out : List Int} {todo : List Nat} {Ds : List Nat} {B : Nat} (hB : w0.heap.size ≤ B) (hD : ∀ D ∈ Ds, D < B) : OwnFrom B (Mid w0 Bo go n Bt Bg u out todo Ds) := fun s W W' row hs hg hr => by
  refine ⟨hs.1.kept hg (fun k e => Nat.le_trans hB (hr k e).1) (fun k e c t hk => ?_), hs.2.1.kept (fun D hDm hk => ?_), Nat.lt_of_lt_of_le hs.2.2 hg.size⟩
  · obtain ⟨_, o, ho, hc⟩ := hr k e
    rw [hk] at ho
    cases ho
    cases hc
  · refine (hg.block D (Array.getElem?_eq_some_iff.1 hk).1 (fun e => ?_)).trans hk
    have := (hr D e.symm).1
    have := hD D hDm
    omega
theorem wpListIn_run {F : Fence} {n : Nat} {P : Program} {ops rest : _} {Q : Exit → Act → World → Prop} {o : Oper} {a : Act} {w w1 : World} {v u v1 : Value} {t t' : TypeId} (hF : ∀ f, F.fn f) (hg : o.guard = none) (s x : Operand)
    (ho : o.op = .call { callee := .builtin .append, args := #[s, x], argTypes := #[t, t'] }) (hs : a.eval s = v) (hx : a.eval x = u) (hr : (Builtin.append_ #[t, t'] o.type #[v, u]).run P w = .ok v1 w1)
    (h : wpListIn F n P ops Q rest (a.put o.dst v1) w1) : wpListIn F n P ops Q (o :: rest) a w := by
  refine wpListIn_plain hg fun K hK => ⟨fun f _ => hF f, ?_⟩
  · rw [Oper.semAt_eq _ _ _ (by simp [ho])]
    unfold execOp
    simp only [ho, resolve, invoke, builtin, Sem.run_bind, Sem.run_pure, Result.andThen_ok, List.map_toArray, List.map_cons, List.map_nil, hs, hx, hr]
    exact hK _ _ h
theorem own_one (w : World) (b : Nat) (v : Value) (hb : b ≤ w.heap.size) : (w.alloc (.cells #[v] 3)).ownsRow b 3 1 (.slice (some ⟨w.heap.size, 0, none⟩) 1 1) 1 [v] :=
  ⟨rfl, .inr ⟨w.heap.size, 1, #[v], rfl, hb, World.alloc_heap_new _ _, Nat.le_refl _, by decide, rfl, rfl⟩⟩
theorem own_all {w : World} {b g : Nat} {out : List Int} (hb : b ≤ g) (h : w.heap[g]? = some (.cells (out.map I).toArray 3 (0, 0))) (hl : out.length ≤ 1000) : w.ownsRow b 3 1 (.slice (some ⟨g, 0, none⟩) out.length out.length) out.length (out.map I) :=
  ⟨by simp, .inr ⟨g, out.length, (out.map I).toArray, rfl, hb, h, Nat.le_refl _, by unfold maxLen; omega, by simp, by rw [List.take_of_length_le (by simp)]⟩⟩
/-- Levels, as they begin. -/
theorem Lv.start {w w' : World} {n go root : Nat} (hr : root < n) (hgo : w.heap.size ≤ go) (hb : Below w.heap.size w w') (hot : w'.heap[go]? = some (.cells (List.replicate n (I (-1))).toArray 3 (0, 0))) :
    Lv w ((((w'.setCell ⟨go, root, none⟩ (.int .i64 0)).alloc (.cells #[.slice (some ⟨go, 0, none⟩) n n] 27)).alloc (.cells #[.int .i64 (root : Int)] 3)).alloc (.cells #[.slice (some ⟨w'.heap.size + 1, 0, none⟩) 1 1] 27)) w'.heap.size go n (w'.heap.size + 1 + 1) (fun k => k ≠ go) ((List.replicate n (-1)).set root 0) [root] := by
  obtain ⟨W, hW⟩ : ∃ W, W = w'.setCell ⟨go, root, none⟩ (.int .i64 0) := ⟨_, rfl⟩
  have hs : W.heap.size = w'.heap.size := by rw [hW]; simp
  have ho : W.heap[go]? = some (.cells (((List.replicate n (-1)).set root 0).map I).toArray 3 (0, 0)) := by
    rw [hW, heap_setCell_same w' go root _ 3 _ hot, List.setIfInBounds_toArray]
    simp [I, List.map_set]
  have hlt : go < W.heap.size := (Array.getElem?_eq_some_iff.1 ho).1
  have hB : Below w.heap.size w W := by rw [hW]; exact hb.setCell (p := ⟨go, root, none⟩) hgo _
  rw [← hW, ← hs]
  clear hW
  have b1 := Boxed.new W 27 (.slice (some ⟨go, 0, none⟩) n n)
  obtain ⟨W1, hW1⟩ : ∃ W1, W1 = W.alloc (.cells #[.slice (some ⟨go, 0, none⟩) n n] 27) := ⟨_, rfl⟩
  have h1 : W1.heap.size = W.heap.size + 1 := by rw [hW1]; simp
  have ho1 : W1.heap[go]? = some (.cells (((List.replicate n (-1)).set root 0).map I).toArray 3 (0, 0)) := by rw [hW1]; exact (Below.heap_alloc _ _ go hlt).trans ho
  have hB1 : Below w.heap.size w W1 := by rw [hW1]; exact hB.alloc hB.size _
  rw [← hW1] at b1 ⊢
  have hq := own_one W1 w.heap.size (.int .i64 (root : Int)) hB1.size
  have hR : Kd.R (Kd.int .i64) 3 (W1.alloc (.cells #[.int .i64 (root : Int)] 3)) w.heap.size (fun _ => True) (.slice (some ⟨W1.heap.size, 0, none⟩) 1 1) [(root : Int)] := R_of_own (l := [(root : Int)]) hq
  have b2 := b1.alloc (.cells #[.int .i64 (root : Int)] 3)
  obtain ⟨W2, hW2⟩ : ∃ W2, W2 = W1.alloc (.cells #[.int .i64 (root : Int)] 3) := ⟨_, rfl⟩
  have h2 : W2.heap.size = W.heap.size + 1 + 1 := by rw [hW2]; simp; omega
  have ho2 : W2.heap[go]? = some (.cells (((List.replicate n (-1)).set root 0).map I).toArray 3 (0, 0)) := by rw [hW2]; exact (Below.heap_alloc _ _ go (by omega)).trans ho1
  have hB2 : Below w.heap.size w W2 := by rw [hW2]; exact hB1.alloc hB1.size _
  rw [← hW2] at b2 hR ⊢
  have b3 := Boxed.new W2 27 (.slice (some ⟨W.heap.size + 1, 0, none⟩) 1 1)
  rw [h2] at b3
  rw [h1] at hR
  have hs := hB.size
  exact ⟨b2.alloc _, (Below.heap_alloc _ _ go (by omega)).trans ho2, ⟨_, b3, Kd.Q_alloc (Kd.Q_mono (Kd.Q_tight rfl (Kd.Q_of_R hR)) (fun k hk => by
    have hk' : k = W.heap.size + 1 := by simpa [Value.ownBlock] using hk
    show k ≠ go
    omega)) _⟩, hB2.alloc hB2.size _, by simp, by omega, fun _ h => h, hgo, hs, by omega⟩
theorem Wk.start {n root : Nat} (hr : root < n) (h12 : n ≤ 12) : Wk n ((List.replicate n (-1)).set root 0, [root]) (unr ((List.replicate n (-1)).set root 0) + 1) := by
  have := unr_le ((List.replicate n (-1)).set root 0)
  simp only [List.length_set, List.length_replicate] at this
  refine ⟨by simp, fun x hx => ?_, fun u hu => ?_, rfl⟩
  · rcases List.mem_or_eq_of_mem_set hx with h | rfl
    · have := (List.mem_replicate.1 h).2
      subst this
      simp only
      omega
    · simp only
      omega
  · rw [List.mem_singleton.1 hu]; exact hr
set_option maxRecDepth 100000 in
set_option maxHeartbeats 4000000 in
theorem levels_ok (m g n : Nat) (l : List S53) (root : Nat) (w : World) (hg : IsG w g n l) (hf : Fits n l) (hr : root < n) (hm : 5 ≤ m) :
    CallsIn Fence.wide m Try.prog 29 #[.pointer (some ⟨g, 0, none⟩), .int .i64 (root : Int)] w fun e w' => ∃ x, e = .returned x ∧ Kd.R (Kd.int .i64) 3 w' w.heap.size (fun _ => True) x (levs true n l root) ∧ Below w.heap.size w w' := by
  obtain ⟨gO, p1, _⟩ := hg.rowO
  have l1 : g < w.heap.size := World.block_lt_of_cell? w _ p1
  have hlevs : levs true n l root = bfs l (unr ((List.replicate n (-1)).set root 0) + 1) ((List.replicate n (-1)).set root 0) [root] := by
    unfold levs
    rw [if_neg (by decide), if_neg (by omega), Int.toNat_natCast]
  have HL := Lib.hid hlevs
  have HG := Lib.hid hg
  have HF := Lib.hid hf
  have h1 := hf.one
  have h12 := hf.top
  clear hg hf hlevs
  refine callsIn_of_wp_marks Try.func29 rfl trivial ?_ rfl
  simp only [Try.ntmps29, List.size_toArray, List.length_cons, List.length_nil, Nat.reduceAdd, Nat.reduceSub, Array.replicate_succ, Array.replicate_zero, List.push_toArray, List.append_toArray, List.nil_append, List.cons_append]
  gi_wp2_with fail
  refine ⟨trivial, fun h => (by cases h), (callsIn_wide.2 (repeat_ok n w.heap.size 1 _ h1 h12 (by go_simp))).mono ?_⟩
  rintro e w' ⟨go, rfl, hgo, hot, hb⟩
  rw [World.size_alloc] at hgo hb
  have hb' : Below w.heap.size w w' := below_then ((Below.refl _ w).alloc (Nat.le_refl _) _) (by simp) (by simpa using hb)
  have HOT := Lib.hid hot
  have HB := Lib.hid hb'
  have d1 : decide ((root : Int) < 0) = false := decide_eq_false (by omega)
  have d2 : decide (n ≤ root) = false := decide_eq_false (by omega)
  have l2 : go < w'.heap.size := (Array.getElem?_eq_some_iff.1 HOT.out).1
  obtain ⟨u2, c2⟩ : ∃ u, w'.cell? ⟨go, root, none⟩ = some u := ⟨I (-1), by rw [cell_of HOT.out]; simp [hr, I]⟩
  have f2 : w'.frozen? ⟨go, root, none⟩ = false := by simp [World.frozen?, HOT.out]
  clear hot hb hb'
  gi_wp2
  have hL0 := Lv.start hr (Nat.le_of_succ_le hgo) HB.out HOT.out
  generalize ((((w'.setCell ⟨go, root, none⟩ (.int .i64 0)).alloc (.cells #[.slice (some ⟨go, 0, none⟩) n n] 27)).alloc (.cells #[.int .i64 (root : Int)] 3)).alloc (.cells #[.slice (some ⟨w'.heap.size + 1, 0, none⟩) 1 1] 27)) = W0 at hL0 ⊢
  generalize w'.heap.size = Bo at hL0 ⊢
  generalize Bo + 1 + 1 = Bt0 at hL0 ⊢
  generalize Bo + 1 = B30 at hL0 ⊢
  have HL0 := Lib.hid hL0
  clear hL0 c2 f2 l2
  refine wpIn_loop_ghost (fun k a W => ∃ (Bt : Nat) (u31 u32 u33 u34 u35 u36 u37 u38 u39 u40 u61 : Value) (out : List Int) (todo : List Nat) (Ds : List Nat), Lv w W Bo go n Bt (fun k => k ≠ go) out todo ∧ Wk n (out, todo) k ∧ levs true n l root = bfs l k out todo ∧ Marks w.heap.size Ds W ∧ k ≤ 13 ∧
    a = { tmps := #[.pointer (some ⟨g, 0, none⟩), .int .i64 (root : Int), undef, undef, .slice none 0 0, .pointer (some ⟨Bo, 0, none⟩), .pointer (some ⟨Bt, 0, none⟩), undef, .pointer (some ⟨g, 0, none⟩), .bool false, .slice (some ⟨w.heap.size, 0, none⟩) 1 1, .pointer (some ⟨g, 0, none⟩), .pointer (some ⟨g, 0, none⟩), .pointer (some ⟨g, 1, none⟩), .slice (some ⟨gO, 0, none⟩) n n, .int .i64 (n : Int), .slice (some ⟨go, 0, none⟩) n n, .int .i64 (root : Int), .bool false, .bool false, .int .i64 (root : Int), .slice (some ⟨go, 0, none⟩) n n, .int .i64 (n : Int), .bool false, .bool false, undef, .slice (some ⟨go, 0, none⟩) n n, .int .i64 (root : Int), .pointer (some ⟨go, root, none⟩), .int .i64 (root : Int), .slice (some ⟨B30, 0, none⟩) 1 1, u31, u32, u33, u34, u35, u36, u37, u38, u39, u40, undef, undef, undef, undef, undef, undef, undef, undef, undef, undef, undef, undef, undef, undef, undef, undef, undef, undef, undef, undef, u61, undef], defers := Ds.map mark }) (unr ((List.replicate n (-1)).set root 0) + 1) ?_ ?_
  · refine ⟨Bt0, undef, undef, undef, undef, undef, undef, undef, undef, undef, undef, undef, _, _, [], HL0.out, Wk.start hr h12, HL.out, ⟨List.nodup_nil, fun D hD => by cases hD⟩, ?_, rfl⟩
    have := unr_le ((List.replicate n (-1)).set root 0)
    simp only [List.length_set, List.length_replicate] at this
    omega
  · rintro k a W ⟨Bt, u31, u32, u33, u34, u35, u36, u37, u38, u39, u40, u61, out, todo, Ds, hL, hK, hS, hM, hk13, rfl⟩
    have HK := Lib.hid hK
    have HS := Lib.hid hS
    have HM := Lib.hid hM
    clear hK hS hM
    cases todo with
    | nil =>
      obtain ⟨A, cap, c1⟩ := hL.none_
      have c2 := hL.bo.cell
      have HLv := Lib.hid hL
      clear hL
      gi_wp2
      refine leaves_all Ds W HM.out (fun W' hb hc => ?_)
      refine ⟨_, results_tmp rfl _ _ _, _, rfl, ?_, HLv.out.bl.trans hb⟩
      rw [HS.out, bfs_nil]
      have hlen := HK.out.len
      simp only at hlen
      subst hlen
      exact R_of_own (own_all HLv.out.ago (hc _ _ _ _ HLv.out.ot) (by omega))
    | cons u t =>
      obtain ⟨gq, oq, cap, c1, cq⟩ := hL.head
      have hu : u < n := HK.out.nd u List.mem_cons_self
      have hBl := hL.bl.size
      have lB : Bt < W.heap.size := World.block_lt_of_cell? W _ c1
      have HLv := Lib.hid hL
      clear hL
      gi_wp2_with fail
      refine ⟨trivial, fun h => (by cases h), (next_in Fence.wide (m - 1) trivial rfl g (u : Int) W).mono ?_⟩
      rintro e w1 ⟨rfl, hw1⟩
      have HW1 := Lib.hid hw1
      clear hw1
      gi_wp2
      have hW1s : w1.heap.size = W.heap.size + 1 + 1 := by rw [HW1.out]; simp
      have hA1 : Below W.heap.size W w1 := by rw [HW1.out]; exact ((Below.refl _ W).alloc (Nat.le_refl _) _).alloc (by simp) _
      have bG : w1.heap[W.heap.size]? = some (.cells #[.pointer (some ⟨g, 0, none⟩)] 24 (0, 0)) := by rw [HW1.out]; exact (Boxed.new W 24 _).alloc _
      have bV : w1.heap[W.heap.size + 1]? = some (.cells #[.int .i64 (u : Int)] 3 (0, 0)) := by
        rw [HW1.out]
        have := Boxed.new (W.alloc (.cells #[.pointer (some ⟨g, 0, none⟩)] 24)) 3 (.int .i64 (u : Int))
        rwa [World.size_alloc] at this
      have hgol : go < W.heap.size := (Array.getElem?_eq_some_iff.1 HLv.out.ot).1
      have hL1 : Lv w w1 Bo go n Bt (fun k => k ≠ go ∧ k ≠ W.heap.size ∧ k ≠ W.heap.size + 1) out (u :: t) := (HLv.out.mono (ok' := fun k => k ≠ go ∧ k ≠ W.heap.size ∧ k ≠ W.heap.size + 1) (fun k h1 h2 => ⟨h1, by omega, by omega⟩) (fun k h => h.1)).kept (grown_none hA1) (fun _ e => by cases e) (fun _ e => by cases e)
      have hM1 : Marks w.heap.size Ds w1 := HM.out.kept (fun D hD hk => (hA1.block D (Array.getElem?_eq_some_iff.1 hk).1).trans hk)
      refine wpIn_rangeFunc_ownG rfl (by omega) (gf := 64) (lb := #[.pointer (some ⟨W.heap.size, 0, none⟩), .pointer (some ⟨W.heap.size + 1, 0, none⟩)]) rfl trivial (enters_of Try.func64 (by kernel_rfl) rfl)
        (next_stops (m - 1) (by omega) W.heap.size g n u l w w1 hu HF.out HG.out hBl hL1.bl bG bV) KpG.t (KpG.b (by omega) (by omega)) (Below.refl _ _) (fun _ => rfl)
        (Mid w Bo go n Bt W.heap.size u out (u :: t) Ds) (fun _ _ _ => False) (Mid.own (by omega) (fun D hD => by have := HM.out.lt D hD; omega)) (fun _ _ _ _ _ hs _ _ => hs) ⟨hL1, hM1, by omega⟩
        (fun x => { tmps := #[.pointer (some ⟨g, 0, none⟩), .int .i64 (root : Int), undef, undef, .slice none 0 0, .pointer (some ⟨Bo, 0, none⟩), .pointer (some ⟨Bt, 0, none⟩), .int .i64 (x.1 : Int), .pointer (some ⟨g, 0, none⟩), .bool false, .slice (some ⟨w.heap.size, 0, none⟩) 1 1, .pointer (some ⟨g, 0, none⟩), .pointer (some ⟨g, 0, none⟩), .pointer (some ⟨g, 1, none⟩), .slice (some ⟨gO, 0, none⟩) n n, .int .i64 (n : Int), .slice (some ⟨go, 0, none⟩) n n, .int .i64 (root : Int), .bool false, .bool false, .int .i64 (root : Int), .slice (some ⟨go, 0, none⟩) n n, .int .i64 (n : Int), .bool false, .bool false, undef, .slice (some ⟨go, 0, none⟩) n n, .int .i64 (root : Int), .pointer (some ⟨go, root, none⟩), .int .i64 (root : Int), .slice (some ⟨B30, 0, none⟩) 1 1, (.slice (some ⟨gq, oq, none⟩) (t.length + 1) cap), .int .i64 ((t.length : Int) + 1), .bool true, u34, u35, .pointer (some ⟨g, 0, none⟩), (.slice (some ⟨gq, oq, none⟩) (t.length + 1) cap), .pointer (some ⟨gq, oq, none⟩), .int .i64 (u : Int), .func (.func 64) #[] #[.pointer (some ⟨W.heap.size, 0, none⟩), .pointer (some ⟨W.heap.size + 1, 0, none⟩)], .int .i64 (x.1 : Int), undef, undef, undef, undef, undef, undef, undef, undef, undef, undef, undef, undef, undef, undef, undef, undef, undef, undef, undef, u61, undef], defers := [] }) ?assign ?body ?done ?stop
      case assign =>
        intro L x W2 K hK
        gi_wp2
        exact hK
      case body =>
        rintro L pre x W2 ⟨hLm, hMm, hlk⟩ hpl
        obtain ⟨s, hs⟩ : ∃ s, s = (pre.map Fin.val).foldl (take1 u) (out, u :: t) := ⟨_, rfl⟩
        rw [← hs] at hLm
        obtain ⟨t', ht'⟩ := fold_head u (pre.map Fin.val) (out, u :: t) u t rfl
        have hlen := (fold_len u (pre.map Fin.val) (out, u :: t)).2
        rw [← hs] at ht' hlen
        have hWk : Wk n s k := by rw [hs]; exact HK.out.fold _ (fun v hv => by obtain ⟨y, _, rfl⟩ := List.mem_map.1 hv; exact y.2) hu
        have hLm' := hLm
        rw [ht'] at hLm'
        obtain ⟨g3, o3, cap3, e1, e2⟩ := hLm'.head
        have e3 := hLm.bo.cell
        obtain ⟨y, hy⟩ : ∃ y, y = s.1.getD x.1 0 := ⟨_, rfl⟩
        obtain ⟨z, hz⟩ : ∃ z, z = s.1.getD u 0 := ⟨_, rfl⟩
        have e4 := hLm.cell x.2
        have e5 := hLm.cell hu
        rw [← hy] at e4
        rw [← hz] at e5
        have e6 := hLm.free x.1
        have hx2 := x.2
        have HS2 := Lib.hid hs
        have HLM := Lib.hid hLm
        have HMM := Lib.hid hMm
        have HT := Lib.hid ht'
        have HLEN := Lib.hid hlen
        have HWK := Lib.hid hWk
        have HY := Lib.hid hy
        have HZ := Lib.hid hz
        clear hs hLm hLm' hMm ht' hlen hWk hy hz
        have dx : decide ((x.1 : Int) < (n : Int)) = true := decide_eq_true (by omega)
        have du : decide ((u : Int) < (n : Int)) = true := decide_eq_true (by omega)
        have hfold : ((pre ++ [x]).map Fin.val).foldl (take1 u) (out, u :: t) = take1 u s x.1 := by
          rw [List.map_append, List.foldl_append, ← HS2.out]
          rfl
        have HFO := Lib.hid hfold
        clear hfold
        by_cases hx : y = -1
        · have HX := Lib.hid hx
          rw [hx] at e4
          clear hx
          gi_wp2
          refine InRound.startR_ (by kernel_rfl) (fun _ _ h => h) (m := 11) (S := fun w' => w'.cell? ⟨Bo, 0, none⟩ = some (.slice (some ⟨go, 0, none⟩) n n) ∧ w'.cell? ⟨Bt, 0, none⟩ = some (.slice (some ⟨g3, o3, none⟩) (t'.length + 1) cap3) ∧ w'.cell? ⟨g3, o3, none⟩ = some (.int .i64 (u : Int)) ∧ w'.cell? ⟨go, u, none⟩ = some (.int .i64 z)) (ds := [10]) #[false, false, false, false, false, false, false, false, false, false, false] (by kernel_rfl) rfl rfl ⟨e3, e1, e2, e5⟩ (fun hHeld => ?_)
          refine pure_ (i := 1) (N := some 48) (v := ?_) (a' := ?_) #[false, true, false, false, false, false, false, false, false, false, false] rfl rfl (by kernel_rfl) (fun _ _ _ h => h) (Or.inl ⟨by rfl, ?_⟩) ?_ ?_
          rotate_left
          · intro w'
            go_simp
            with_reducible rfl
          rotate_left
          · simp only [Act.put, List.setIfInBounds_toArray, List.set_cons_zero, List.set_cons_succ, i64_w, i32_w]
            rfl
          refine take_ (i := 0) (N := some 47) (v := ?_) (a' := ?_) #[true, true, false, false, false, false, false, false, false, false, false] rfl rfl (by kernel_rfl) (fun _ _ _ h => h) (Or.inl ⟨by rfl, ?_⟩) hHeld ?_ ?_
          rotate_left
          · rintro w' ⟨s0, s1, s2, s3⟩
            go_simp
            with_reducible rfl
          rotate_left
          · simp only [Act.put, List.setIfInBounds_toArray, List.set_cons_zero, List.set_cons_succ, i64_w, i32_w]
            rfl
          refine take_ (i := 2) (N := some 49) (v := ?_) (a' := ?_) #[true, true, true, false, false, false, false, false, false, false, false] rfl rfl (by kernel_rfl) (fun _ _ _ h => h) (Or.inl ⟨by rfl, ?_⟩) hHeld ?_ ?_
          rotate_left
          · rintro w' ⟨s0, s1, s2, s3⟩
            go_simp
            with_reducible rfl
          rotate_left
          · simp only [Act.put, List.setIfInBounds_toArray, List.set_cons_zero, List.set_cons_succ, i64_w, i32_w]
            rfl
          refine take_ (i := 3) (N := some 50) (v := ?_) (a' := ?_) #[true, true, true, true, false, false, false, false, false, false, false] rfl rfl (by kernel_rfl) (fun _ _ _ h => h) (Or.inl ⟨by rfl, ?_⟩) hHeld ?_ ?_
          rotate_left
          · rintro w' ⟨s0, s1, s2, s3⟩
            go_simp
            with_reducible rfl
          rotate_left
          · simp only [Act.put, List.setIfInBounds_toArray, List.set_cons_zero, List.set_cons_succ, i64_w, i32_w]
            rfl
          refine pure_ (i := 4) (N := some 51) (v := ?_) (a' := ?_) #[true, true, true, true, true, false, false, false, false, false, false] rfl rfl (by kernel_rfl) (fun _ _ _ h => h) (Or.inl ⟨by rfl, ?_⟩) ?_ ?_
          rotate_left
          · intro w'
            go_simp
            with_reducible rfl
          rotate_left
          · simp only [Act.put, List.setIfInBounds_toArray, List.set_cons_zero, List.set_cons_succ, i64_w, i32_w]
            rfl
          refine take_ (i := 5) (N := some 52) (v := ?_) (a' := ?_) #[true, true, true, true, true, true, false, false, false, false, false] rfl rfl (by kernel_rfl) (fun _ _ _ h => h) (Or.inl ⟨by rfl, ?_⟩) hHeld ?_ ?_
          rotate_left
          · rintro w' ⟨s0, s1, s2, s3⟩
            go_simp
            with_reducible rfl
          rotate_left
          · simp only [Act.put, List.setIfInBounds_toArray, List.set_cons_zero, List.set_cons_succ, i64_w, i32_w]
            rfl
          refine pure_ (i := 6) (N := some 53) (v := ?_) (a' := ?_) #[true, true, true, true, true, true, true, false, false, false, false] rfl rfl (by kernel_rfl) (fun _ _ _ h => h) (Or.inl ⟨by rfl, ?_⟩) ?_ ?_
          rotate_left
          · intro w'
            go_simp
            with_reducible rfl
          rotate_left
          · simp only [Act.put, List.setIfInBounds_toArray, List.set_cons_zero, List.set_cons_succ, i64_w, i32_w]
            rfl
          refine take_ (i := 7) (N := some 54) (v := ?_) (a' := ?_) #[true, true, true, true, true, true, true, true, false, false, false] rfl rfl (by kernel_rfl) (fun _ _ _ h => h) (Or.inl ⟨by rfl, ?_⟩) hHeld ?_ ?_
          rotate_left
          · rintro w' ⟨s0, s1, s2, s3⟩
            go_simp
            with_reducible rfl
          rotate_left
          · simp only [Act.put, List.setIfInBounds_toArray, List.set_cons_zero, List.set_cons_succ, i64_w, i32_w]
            rfl
          refine pure_ (i := 8) (N := some 55) (v := ?_) (a' := ?_) #[true, true, true, true, true, true, true, true, true, false, false] rfl rfl (by kernel_rfl) (fun _ _ _ h => h) (Or.inl ⟨by rfl, ?_⟩) ?_ ?_
          rotate_left
          · intro w'
            go_simp
            with_reducible rfl
          rotate_left
          · simp only [Act.put, List.setIfInBounds_toArray, List.set_cons_zero, List.set_cons_succ, i64_w, i32_w]
            rfl
          refine pure_ (i := 9) (N := some 56) (v := ?_) (a' := ?_) #[true, true, true, true, true, true, true, true, true, true, false] rfl rfl (by kernel_rfl) (fun _ _ _ h => h) (Or.inl ⟨by rfl, ?_⟩) ?_ ?_
          rotate_left
          · intro w'
            go_simp
            with_reducible rfl
          rotate_left
          · simp only [Act.put, List.setIfInBounds_toArray, List.set_cons_zero, List.set_cons_succ, i64_w, i32_w]
            rfl
          refine last_ (i := 10) (N := none) #[true, true, true, true, true, true, true, true, true, true, true] rfl rfl (by kernel_rfl) (by decide) (fun K hK => ?_)
          refine skip_ (w1 := ?_) (by rfl) rfl ?_ ?_
          rotate_left
          · go_simp
            rfl
          refine hK.out _ _ ?_
          clear hK K
          refine done_ (by kernel_rfl) ?_
          have hL3 := (HLM.out.set x.1 (wrap64 (z + 1))).drew
          have hK3 : KeepsOthers W2 (W2.setCell ⟨go, x.1, none⟩ (.int .i64 (wrap64 (z + 1)))).drew := (KeepsOthers.setCell _ _ _).trans (KeepsOthers.drew _)
          have hB3 : ∀ k, k ≠ go → (W2.setCell ⟨go, x.1, none⟩ (.int .i64 (wrap64 (z + 1)))).drew.heap[k]? = W2.heap[k]? := fun k hk => Below.heap_setCell _ _ _ _ hk
          have hb3 : Below w.heap.size W2 (W2.setCell ⟨go, x.1, none⟩ (.int .i64 (wrap64 (z + 1)))).drew := below_drew ((Below.refl _ _).setCell (p := ⟨go, x.1, none⟩) HLM.out.ago _)
          have hz3 : (W2.setCell ⟨go, x.1, none⟩ (.int .i64 (wrap64 (z + 1)))).drew.heap.size = W2.heap.size := by simp
          generalize (W2.setCell ⟨go, x.1, none⟩ (.int .i64 (wrap64 (z + 1)))).drew = W3 at hL3 hK3 hB3 hb3 hz3 ⊢
          have hgB : ∀ k, k = W.heap.size ∨ k = W.heap.size + 1 → k ≠ go ∧ k ≠ Bt := fun k hk => by omega
          obtain ⟨A4, cap4, g4, o4, c4, w4, p1, p2, p3, p4, hL4, hK4, hb4, hF4⟩ := hL3.push (fun k hk => ⟨by have := (Array.getElem?_eq_some_iff.1 hL3.ot).1; omega, by omega, by omega⟩) (by have h1 := HLEN.out; have h2 := HK.out.sum; rw [List.length_map] at h1; simp only [List.length_cons] at h1 h2; omega) x.1
          have HL4 := Lib.hid hL4
          have HK4 := Lib.hid (hK3.trans hK4)
          have HF4 := Lib.hid hF4
          have HB3 := Lib.hid hB3
          have l3 : Bt < W3.heap.size := World.block_lt_of_cell? W3 _ p1
          have HZ3 := Lib.hid hz3
          have HP2 := Lib.hid p2
          have l4 : Bt < w4.heap.size := World.block_lt_of_cell? w4 _ p3
          clear hL3 hL4 hK4 hF4 hB3 hK3 hz3 p2
          gi_wp2_with (gi_at_builtin; refine wpListIn_run (fun _ => trivial) rfl _ _ rfl rfl rfl HP2.out ?_)
          have hbk : ∀ k, k < W2.heap.size → k ≠ go → k ≠ Bt → ¬ (k ≠ go ∧ k ≠ W.heap.size ∧ k ≠ W.heap.size + 1) → (w4.setCell ⟨Bt, 0, none⟩ (.slice (some ⟨g4, o4, none⟩) (s.2.length + 1) c4)).heap[k]? = W2.heap[k]? := fun k h1 h2 h3 h4 => (HF4.out k (by rw [HZ3.out]; exact h1) h3 h4).trans (HB3.out k h2)
          have ht : take1 u s x.1 = (s.1.set x.1 (wrap64 (z + 1)), s.2 ++ [x.1]) := by
            unfold take1
            rw [if_pos (by rw [← HY.out]; exact HX.out), HZ.out]
          refine ⟨HK4.out.from _, ⟨?_, hbk _ (by omega) (by omega) (by omega) (by omega), hbk _ (by omega) (by omega) (by omega) (by omega)⟩, ?_, HMM.out.others HK4.out, Nat.lt_of_lt_of_le hlk HK4.out.size⟩
          · exact hb3.trans hb4
          · rw [HFO.out, ht]
            exact HL4.out
        · have HX := Lib.hid hx
          have dx1 : (y == -1) = false := by simpa using hx
          clear hx
          gi_wp2
          have ht : take1 u s x.1 = s := by
            unfold take1
            rw [if_neg (by rw [← HY.out]; exact HX.out)]
          refine ⟨KeepsFrom.refl _ _, ⟨Below.refl _ _, rfl, rfl⟩, ?_, HMM.out, hlk⟩
          rw [HFO.out, ht]
          exact HLM.out
      case done =>
        rintro D ys W2 hD hys ⟨hL2, hM2, hlk⟩ hDk
        obtain ⟨k', rfl, t', ht', hW', hbf⟩ := bfs_turn HK.out HF.out.fit
        rw [hys] at hL2
        have hL3 := hL2.mono (ok' := fun k => k ≠ go) (fun k h _ => h.1) (fun _ h => h)
        rw [ht'] at hL3
        obtain ⟨A5, c5, A6, q1, q2, hL5⟩ := hL3.pop
        have HL5 := Lib.hid hL5
        have HW := Lib.hid hW'
        have HBF := Lib.hid hbf
        have HM2 := Lib.hid hM2
        have HDK := Lib.hid hDk
        have hDn : D ∉ Ds := fun h => by have := HM.out.lt D h; omega
        have l5 : Bt < W2.heap.size := World.block_lt_of_cell? W2 _ q1
        clear hL2 hL3 hL5 hW' hbf hM2 hys hDk ht'
        gi_wp2
        refine ⟨k', Nat.lt_succ_self _, W2.heap.size, _, _, _, _, _, _, _, _, _, _, _, _, t', D :: Ds, HL5.out, HW.out, HS.out.trans HBF.out, ⟨List.nodup_cons.2 ⟨hDn, HM2.out.1⟩, fun D' hD' => ?_⟩, by omega, rfl⟩
        rcases List.mem_cons.1 hD' with rfl | hD'
        · exact ⟨by omega, (Below.heap_alloc _ _ _ (Array.getElem?_eq_some_iff.1 HDK.out).1).trans HDK.out⟩
        · have := HM2.out.2 D' hD'
          exact ⟨this.1, (Below.heap_alloc _ _ _ (Array.getElem?_eq_some_iff.1 this.2).1).trans this.2⟩
      case stop =>
        rintro D c pre W2 _ _ h _
        exact h.elim

theorem levels_nil (root : Int) (w : World) : Calls Try.prog 29 #[.pointer none, .int .i64 root] w fun e w' => e = .returned (.slice none 0 0) ∧ Below w.heap.size w w' := by
  go_enter Try.func29, Try.ntmps29
  go_wp2
  go_ret
  exact ⟨rfl, Below.refl _ _⟩
set_option maxHeartbeats 1000000 in
theorem levels_out (g n : Nat) (l : List S53) (root : Int) (w : World) (hg : IsG w g n l) (hf : Fits n l) (hr : root < 0 ∨ (n : Int) ≤ root) :
    Calls Try.prog 29 #[.pointer (some ⟨g, 0, none⟩), .int .i64 root] w fun e w' => ∃ x, e = .returned x ∧ Kd.R (Kd.int .i64) 3 w' w.heap.size (fun _ => True) x (levs true n l root) ∧ Below w.heap.size w w' := by
  obtain ⟨gO, p1, _⟩ := hg.rowO
  have l1 : g < w.heap.size := World.block_lt_of_cell? w _ p1
  have hlevs : levs true n l root = List.replicate n (-1) := by
    unfold levs
    rw [if_neg (by decide), if_pos hr]
  rw [hlevs]
  have h1 := hf.one
  have h12 := hf.top
  have key : ∀ (w' : World) (go : Nat), w.heap.size + 1 ≤ go → w'.heap[go]? = some (.cells (List.replicate n (I (-1))).toArray 3 (0, 0)) → Below w.heap.size w w' → Kd.R (Kd.int .i64) 3 (w'.alloc (.cells #[.slice (some ⟨go, 0, none⟩) n n] 27)) w.heap.size (fun _ => True) (.slice (some ⟨go, 0, none⟩) n n) (List.replicate n (-1)) ∧ Below w.heap.size w (w'.alloc (.cells #[.slice (some ⟨go, 0, none⟩) n n] 27)) := fun w' go hgo hot hb => by
    have ho := own_all (out := List.replicate n (-1)) (b := w.heap.size) (Nat.le_of_succ_le hgo) (by rw [List.map_replicate]; exact hot) (by simp; omega)
    rw [List.length_replicate] at ho
    exact ⟨Kd.R_below (R_of_own (l := List.replicate n (-1)) (by rw [List.length_replicate]; exact ho)) ((Below.refl _ _).alloc (Nat.le_refl _) _), hb.alloc hb.size _⟩
  have HK := Lib.hid key
  clear hlevs key
  by_cases h0 : root < 0
  · have d1 : decide (root < 0) = true := decide_eq_true h0
    clear hr
    go_enter Try.func29, Try.ntmps29
    go_wp2_with fail
    refine (repeat_ok n w.heap.size 1 _ h1 h12 (by go_simp)).mono ?_
    rintro e w' ⟨go, rfl, hgo, hot, hb⟩
    rw [World.size_alloc] at hgo hb
    have hb' : Below w.heap.size w w' := below_then ((Below.refl _ w).alloc (Nat.le_refl _) _) (by simp) (by simpa using hb)
    have HX := Lib.hid (HK.out w' go hgo hot hb')
    clear hot hb hb'
    go_wp2
    go_ret
    exact ⟨_, rfl, HX.out.1, HX.out.2⟩
  · have d1 : decide (root < 0) = false := decide_eq_false h0
    have d2 : decide ((n : Int) ≤ root) = true := decide_eq_true (by omega)
    clear hr
    go_enter Try.func29, Try.ntmps29
    go_wp2_with fail
    refine (repeat_ok n w.heap.size 1 _ h1 h12 (by go_simp)).mono ?_
    rintro e w' ⟨go, rfl, hgo, hot, hb⟩
    rw [World.size_alloc] at hgo hb
    have hb' : Below w.heap.size w w' := below_then ((Below.refl _ w).alloc (Nat.le_refl _) _) (by simp) (by simpa using hb)
    have HX := Lib.hid (HK.out w' go hgo hot hb')
    clear hot hb hb'
    go_wp2
    go_ret
    exact ⟨_, rfl, HX.out.1, HX.out.2⟩
/-- Levels, of whatever graph. -/
theorem levels_any (b : Bool) (A : Option Addr) (n : Nat) (l : List S53) (root : Int) (w : World) (h : Gn w b A n l) (hf : b = true → Fits n l) :
    Calls Try.prog 29 #[.pointer A, .int .i64 root] w fun e w' => ∃ x, e = .returned x ∧ Kd.R (Kd.int .i64) 3 w' w.heap.size (fun _ => True) x (levs b n l root) ∧ Below w.heap.size w w' := by
  cases b with
  | false =>
    rw [show A = none from h]
    refine (levels_nil root w).mono ?_
    rintro e w' ⟨rfl, hb⟩
    exact ⟨_, rfl, Kd.R_nil _ _ _ _ _, hb⟩
  | true =>
    obtain ⟨g, rfl, hg⟩ := h
    by_cases hr : root < 0 ∨ (n : Int) ≤ root
    · exact levels_out g n l root w hg (hf rfl) hr
    · obtain ⟨r, rfl⟩ := Int.eq_ofNat_of_zero_le (show 0 ≤ root by omega)
      exact callsIn_wide.1 (levels_ok 5 g n l r w hg (hf rfl) (by omega) (by decide))
end Go.Proofs.Ytkpaefeaplgnmaa.G
