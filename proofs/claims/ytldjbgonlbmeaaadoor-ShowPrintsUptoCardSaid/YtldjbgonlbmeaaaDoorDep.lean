/- tree.Depth: the walk. -/
import Derived.Test.YtldjbgonlbmeaaaDoorDpp
import Derived.Test.YtldjbgonlbmeaaaDoorInRound
set_option linter.unusedSimpArgs false
set_option linter.unusedVariables false
namespace Go.Proofs.YtldjbgonlbmeaaaDoor.T
open Go.RowKit Go.Shelf Go.Proofs.YtldjbgonlbmeaaaDoor.PA Go.Proofs.YtldjbgonlbmeaaaDoorW.PrintWords Go.Proofs.YtldjbgonlbmeaaaDoorW.PrintLast Go.Proofs.YtldjbgonlbmeaaaDoorW.PrintMore
attribute [local go_sem] Oper.semAt_some
attribute [local go_sem] max2_int min2_int

def mark (D : Nat) : Deferred := { target := .collected D, args := #[] }
def Marks (n₀ : Nat) (Ds : List Nat) (W : World) : Prop := Ds.Nodup ∧ ∀ D ∈ Ds, n₀ ≤ D ∧ W.heap[D]? = some (.deferred (some []))
theorem leaves_all {F : Fence} {m : Nat} {P : Program} {fn : Func} {tmps : Array Value} {R : Ending → World → Prop} {n₀ : Nat} : ∀ (Ds : List Nat) (W : World), Marks n₀ Ds W →
  (∀ W', Below n₀ W W' → (∀ (k : Nat) (c : Array Value) (t : TypeId) (f : Nat × Nat), W.heap[k]? = some (.cells c t f) → W'.heap[k]? = some (.cells c t f)) → LeavesInM F m P fn tmps R [] .returning W') → LeavesInM F m P fn tmps R (Ds.map mark) .returning W
 | [], W, _, h => h W (Below.refl _ _) (fun _ _ _ _ hk => hk)
 | D :: Ds, W, hM, h => by
  obtain ⟨hn, hD⟩ := hM
  obtain ⟨hD0, hDk⟩ := hD D List.mem_cons_self
  have hn' := List.nodup_cons.1 hn
  refine ⟨by simp, .inl ⟨D, _, rfl, run_takeDeferred hDk, ?_⟩⟩
  refine leaves_all (n₀ := n₀) Ds _ ⟨hn'.2, fun D' hD' => ?_⟩ (fun W' hb hc => ?_)
  ·have := hD D' (List.mem_cons_of_mem _ hD')
   exact ⟨this.1, (World.putObj_heap_other (fun e => hn'.1 (by rw [← e]; exact hD'))).trans this.2⟩
  ·refine h W' (Below.trans ((Below.refl n₀ W).grown (grownBy_putObj' W D _) (by have := (Array.getElem?_eq_some_iff.1 hDk).1; omega) (fun k e => by cases e; exact hD0)) hb) (fun k c t f hk => hc k c t f ((World.putObj_heap_other (fun e => ?_)).trans hk))
   rw [← e] at hDk
   rw [hDk] at hk
   cases hk
theorem leavesM_tmps {F : Fence} {m : Nat} {P : Program} {fn : Func} {R : Ending → World → Prop} {t t' : Array Value} (h : ∀ w, (results fn t).run P w = (results fn t').run P w) : ∀ (ds : List Deferred) (u : FrameMode) (w : World), LeavesInM F m P fn t R ds u w → LeavesInM F m P fn t' R ds u w
 | [], .returning, w, ⟨v, h1, h2⟩ => ⟨v, (h w).symm.trans h1, h2⟩
 | [], .panicking _, _, hl => hl
 | [], .run, _, hl => hl
 | d :: ds, u, w, ⟨h0, hl⟩ => by
  refine ⟨h0, ?_⟩
  rcases hl with ⟨r, w', h1, h2, h3⟩ | ⟨h1, fv, cap, f, args, h2, h3, h4, h5⟩
  ·exact .inl ⟨r, w', h1, h2, leavesM_tmps h ds u w' h3⟩
  ·refine .inr ⟨h1, fv, cap, f, args, h2, h3, h4, h5.mono fun e u' w' he => ?_⟩
   cases e with
   | returned _ => exact leavesM_tmps h ds _ w' he
   | panicked _ => exact leavesM_tmps h ds _ w' he
   | outgrown => exact he
theorem results_put {fn : Func} {r : Tmp} (hr : fn.results = #[.tmp r]) {d : Option Tmp} (hne : d ≠ some r) (a : Act) (v : Value) (P : Program) (w : World) : (results fn (a.put d v).tmps).run P w = (results fn a.tmps).run P w := by
 cases d with
 | none => rfl
 | some N =>
  have hn : N ≠ r := fun e => hne (by rw [e])
  simp [results, hr, go_sem, Array.getElem?_setIfInBounds_ne hn]
theorem stays {F : Fence} {m : Nat} {P : Program} {fn : Func} {R : Ending → World → Prop} {r : Tmp} (hr : fn.results = #[.tmp r]) {d : Option Tmp} (hne : d ≠ some r) {a : Act} {v : Value} {w : World} {c : List PanicEntry} (h : bodyPostM F m P fn R (.panic c) (a.put d v) w) : bodyPostM F m P fn R (.panic c) a w := by
 have h' : LeavesInM F m P fn (a.put d v).tmps R (a.put d v).defers (.panicking c) w := h
 rw [show (a.put d v).defers = a.defers from by cases d <;> rfl] at h'
 exact leavesM_tmps (fun w => results_put hr hne a v P w) _ _ _ h'
theorem Marks.kept {n₀ : Nat} {Ds : List Nat} {W W' : World} (h : Marks n₀ Ds W) (hk : ∀ D ∈ Ds, W.heap[D]? = some (.deferred (some [])) → W'.heap[D]? = some (.deferred (some []))) : Marks n₀ Ds W' := ⟨h.1, fun D hD => ⟨(h.2 D hD).1, hk D hD (h.2 D hD).2⟩⟩
theorem Marks.others {n₀ : Nat} {Ds : List Nat} {W W' : World} (h : Marks n₀ Ds W) (hk : KeepsOthers W W') : Marks n₀ Ds W' := h.kept (fun D _ hD => hk.same D _ hD rfl)
theorem Marks.lt {n₀ : Nat} {Ds : List Nat} {W : World} (h : Marks n₀ Ds W) : ∀ D ∈ Ds, D < W.heap.size := fun D hD => (Array.getElem?_eq_some_iff.1 (h.2 D hD).2).1

structure Dv (w W : World) (Bd go n Bi : Nat) (D : List Int) (i : Int) : Prop where
 bd : Boxed W Bd 23 (.slice (some ⟨go, 0, none⟩) n n)
 ot : W.heap[go]? = some (.cells (D.map I).toArray 3 (0, 0))
 bi : Boxed W Bi 3 (.int .i64 i)
 bl : Below w.heap.size w W
 len : D.length = n
 ne : Bi ≠ go
 ago : w.heap.size ≤ go
 abd : w.heap.size ≤ Bd
 abi : w.heap.size ≤ Bi
section
variable {w W W' : World} {Bd go n Bi : Nat} {D : List Int} {i : Int}
theorem cells_ne {w : World} {k g : Nat} {c c' : Array Value} {t t' : TypeId} (h : w.heap[k]? = some (.cells c t (0, 0))) (h' : w.heap[g]? = some (.cells c' t' (0, 0))) (ht : t ≠ t') : k ≠ g := by
 rintro rfl
 rw [h] at h'
 injection h' with h'
 injection h' with _ h'
 exact ht h'
theorem Dv.kept {r : Option Nat} (h : Dv w W Bd go n Bi D i) (hg : W.grownBy W' r) (h0 : ∀ k, r = some k → w.heap.size ≤ k) (hr : ∀ k, r = some k → ∀ c t, W.heap[k]? ≠ some (.cells c t (0, 0))) : Dv w W' Bd go n Bi D i := by
 have far : ∀ {k : Nat} {c : Array Value} {t : TypeId}, W.heap[k]? = some (.cells c t (0, 0)) → W'.heap[k]? = some (.cells c t (0, 0)) := fun {k c t} hk =>
  (hg.block k (Array.getElem?_eq_some_iff.1 hk).1 (fun e => hr k e.symm c t hk)).trans hk
 exact ⟨far h.bd, far h.ot, far h.bi, h.bl.grown hg h.bl.size h0, h.len, h.ne, h.ago, h.abd, h.abi⟩
theorem Dv.same (h : Dv w W Bd go n Bi D i) (hb : Below W.heap.size W W') : Dv w W' Bd go n Bi D i := h.kept (grown_none hb) (fun _ e => by cases e) (fun _ e => by cases e)
theorem Dv.cell (h : Dv w W Bd go n Bi D i) {k : Nat} (hk : k < n) : W.cell? ⟨go, k, none⟩ = some (.int .i64 (D.getD k 0)) := by
 have hl := h.len
 rw [cell_of h.ot]
 simp [List.getD_eq_getElem?_getD, I, show k < D.length by omega]
theorem Dv.free (h : Dv w W Bd go n Bi D i) (k : Nat) : W.frozen? ⟨go, k, none⟩ = false := by simp [World.frozen?, h.ot]
theorem Dv.set (h : Dv w W Bd go n Bi D i) (k : Nat) (x : Int) : Dv w (W.setCell ⟨go, k, none⟩ (.int .i64 x)) Bd go n Bi (D.set k x) i := by
 have n1 : Bd ≠ go := cells_ne h.bd h.ot (by decide)
 refine ⟨set_far h.bd n1, ?_, set_far h.bi h.ne, h.bl.setCell (p := ⟨go, k, none⟩) h.ago _, by rw [List.length_set]; exact h.len, h.ne, h.ago, h.abd, h.abi⟩
 rw [heap_setCell_same W go k _ 3 _ h.ot]
 simp [I]
theorem Dv.turn (h : Dv w W Bd go n Bi D i) (j : Int) : Dv w (W.alloc (.cells #[.int .i64 j] 3)) Bd go n W.heap.size D j := by
 have h1 := (Array.getElem?_eq_some_iff.1 h.ot).1
 have hs := h.bl.size
 have k : Dv w (W.alloc (.cells #[.int .i64 j] 3)) Bd go n Bi D i := h.same ((Below.refl _ W).alloc (Nat.le_refl _) _)
 exact ⟨k.bd, k.ot, Boxed.new W 3 _, k.bl, h.len, by omega, h.ago, h.abd, hs⟩
theorem Dv.start (l : List Fm) (hb : w.heap.size ≤ W.heap.size) (hB : Below w.heap.size w W) :
  Dv w (((W.alloc (.cells (madeCells #[.int .i64 0] l.length) 3)).alloc (.cells #[.slice (some ⟨W.heap.size, 0, none⟩) l.length l.length] 23)).alloc (.cells #[.int .i64 i] 3)) (W.heap.size + 1) W.heap.size l.length (W.heap.size + 1 + 1) (dps l 0) i := by
 obtain ⟨W1, hW1⟩ : ∃ W1, W1 = W.alloc (.cells (madeCells #[.int .i64 0] l.length) 3) := ⟨_, rfl⟩
 have s1 : W1.heap.size = W.heap.size + 1 := by rw [hW1]; simp
 have o1 : W1.heap[W.heap.size]? = some (.cells ((dps l 0).map I).toArray 3 (0, 0)) := by
  rw [hW1, World.alloc_heap_new]
  have : madeCells #[Value.int .i64 0] l.length = ((dps l 0).map I).toArray := by
   apply Array.ext'
   apply List.ext_getElem
   ·simp [madeCells, dps]
   ·intro i h1 h2
    simp [madeCells, dps, I, Nat.mod_one]
  rw [this]
 have b1 : Below w.heap.size w W1 := by rw [hW1]; exact hB.alloc hb _
 rw [← hW1, ← s1]
 have n2 := Boxed.new W1 23 (.slice (some ⟨W.heap.size, 0, none⟩) l.length l.length)
 obtain ⟨W2, hW2⟩ : ∃ W2, W2 = W1.alloc (.cells #[.slice (some ⟨W.heap.size, 0, none⟩) l.length l.length] 23) := ⟨_, rfl⟩
 have s2 : W2.heap.size = W1.heap.size + 1 := by rw [hW2]; simp
 have b2 : Below w.heap.size w W2 := by rw [hW2]; exact b1.alloc (by omega) _
 have o2 : W2.heap[W.heap.size]? = some (.cells ((dps l 0).map I).toArray 3 (0, 0)) := by rw [hW2]; exact (Below.heap_alloc _ _ _ (by omega)).trans o1
 rw [← hW2] at n2 ⊢
 rw [← s2]
 exact ⟨n2.alloc _, (Below.heap_alloc _ _ _ (by omega)).trans o2, Boxed.new W2 3 _, b2.alloc (by omega) _, dps_len l 0, by omega, by omega, by omega, by omega⟩
end
def Mid (w0 : World) (Bd go n Bi Bg i : Nat) (D : List Int) (Ds : List Nat) (pre : List (Fin n)) (W : World) : Prop :=
 Dv w0 W Bd go n Bi ((pre.map Fin.val).foldl (dk i) D) (i : Int) ∧ Marks w0.heap.size Ds W ∧ Bg + 1 < W.heap.size
theorem Mid.own {w0 : World} {Bd go n Bi Bg i : Nat} {D : List Int} {Ds : List Nat} {B : Nat} (hB : w0.heap.size ≤ B) (hD : ∀ D ∈ Ds, D < B) : OwnFrom B (Mid w0 Bd go n Bi Bg i D Ds) := fun s W W' row hs hg hr => by
 refine ⟨hs.1.kept hg (fun k e => Nat.le_trans hB (hr k e).1) (fun k e c t hk => ?_), hs.2.1.kept (fun D hDm hk => ?_), Nat.lt_of_lt_of_le hs.2.2 hg.size⟩
 ·obtain ⟨_, o, ho, hc⟩ := hr k e
  rw [hk] at ho
  cases ho
  cases hc
 ·refine (hg.block D (Array.getElem?_eq_some_iff.1 hk).1 (fun e => ?_)).trans hk
  have := (hr D e.symm).1
  have := hD D hDm
  omega
set_option maxRecDepth 100000 in
set_option maxHeartbeats 8000000 in
theorem depth_in (m : Nat) (A At : Option Addr) (c ct : Nat) (l : List Fm) (top : List Int) (w : World) (hC : Kd.C kFm w A l.length l) (hT : Kd.C (Kd.int .i64) w At top.length top) (hl : l.length ≤ 100000) (hm : 5 ≤ m) :
  CallsIn Fence.wide m Tryd.prog 32 #[.slice A l.length c, .slice At top.length ct] w fun e w' => e = .returned (.int .i64 (depth l top)) ∧ Below w.heap.size w w' := by
 have no_out : ∀ {v : Value} {p : Prop}, (Ending.outgrown = Ending.returned v ∧ p) → False := fun h => by obtain ⟨e, _⟩ := h; cases e
 have HC := Lib.hid hC
 have HT := Lib.hid hT
 have hmk := print_make (P := Tryd.prog) 23 3 .i64 8 Tryd.underlying23 info3 (by decide) l.length (by omega)
 have htl : top.length ≤ 9223372036854775807 := hT.2.1
 have hstart := Dv.start (w := w) (W := w) (i := (l.length : Int) - 1) l (Nat.le_refl _) (Below.refl _ _)
 have HST := Lib.hid hstart
 clear hC hT hstart
 refine callsIn_of_wp_marks Tryd.func32 rfl trivial ?_ rfl
 simp only [Tryd.ntmps32, List.size_toArray, List.length_cons, List.length_nil, Nat.reduceAdd, Nat.reduceSub, Array.replicate_succ, Array.replicate_zero, List.push_toArray, List.append_toArray, List.nil_append, List.cons_append]
 gi_wp2
 have hD0 := HST.out
 generalize (((w.alloc (.cells (madeCells #[.int .i64 0] l.length) 3)).alloc (.cells #[.slice (some ⟨w.heap.size, 0, none⟩) l.length l.length] 23)).alloc (.cells #[.int .i64 ((l.length : Int) - 1)] 3)) = W0 at hD0 ⊢
 obtain ⟨go, hgo⟩ : ∃ go, go = w.heap.size := ⟨_, rfl⟩
 have HGO := Lib.hid hgo
 obtain ⟨Bi0, hbi⟩ : ∃ B, B = w.heap.size + 1 + 1 := ⟨_, rfl⟩
 obtain ⟨Bd, hbd⟩ : ∃ B, B = w.heap.size + 1 := ⟨_, rfl⟩
 rw [← hbi, ← hbd, ← hgo] at hD0
 rw [← hbi, ← hbd, ← hgo]
 have HD0 := Lib.hid hD0
 clear hD0 hgo hbi hbd HST hmk
 refine wpIn_loop_ghost (fun r a W => ∃ (Bi : Nat) (u17 u18 u19 u20 u21 u22 u23 u24 u25 u26 u27 u28 u29 u43 u44 u45 u46 u47 u48 u49 u50 u51 u52 : Value) (Ds : List Nat), r ≤ l.length ∧ Dv w W Bd go l.length Bi (dps l (l.length - r)) ((r : Int) - 1) ∧ Marks w.heap.size Ds W ∧
  a = { tmps := #[.slice A l.length c, .slice At top.length ct, undef, undef, .int .i64 (0), .pointer (some ⟨Bd, 0, none⟩), .pointer (some ⟨Bi, 0, none⟩), undef, undef, undef, undef, .slice A l.length c, .int .i64 ((l.length : Int)), .slice (some ⟨go, 0, none⟩) l.length l.length, .slice A l.length c, .int .i64 ((l.length : Int)), .int .i64 ((l.length : Int) - 1), u17, u18, u19, u20, u21, u22, u23, u24, u25, u26, u27, u28, u29, undef, undef, undef, undef, undef, undef, undef, undef, undef, undef, undef, undef, undef, u43, u44, u45, u46, u47, u48, u49, u50, u51, u52, undef, undef, undef, undef, undef, undef, undef, undef, undef, undef, undef, undef, undef, undef, undef, undef, undef, undef, undef, undef, undef, undef], defers := Ds.map mark }) l.length ?_ ?_
 ·exact ⟨Bi0, undef, undef, undef, undef, undef, undef, undef, undef, undef, undef, undef, undef, undef, undef, undef, undef, undef, undef, undef, undef, undef, undef, undef, [], Nat.le_refl _, by rw [Nat.sub_self]; exact HD0.out, ⟨List.nodup_nil, fun D hD => by cases hD⟩, rfl⟩
 ·rintro r a W ⟨Bi, u17, u18, u19, u20, u21, u22, u23, u24, u25, u26, u27, u28, u29, u43, u44, u45, u46, u47, u48, u49, u50, u51, u52, Ds, hr, hD, hM, rfl⟩
  have HM := Lib.hid hM
  have c1 := hD.bi.cell
  have f1 := hD.bi.frozen
  have c2 := hD.bd.cell
  have HD := Lib.hid hD
  clear hD hM
  cases r with
  | zero =>
   have e1 : ((0 : Nat) : Int) - 1 = -1 := rfl
   rw [e1] at c1
   have hdf : Dv w W Bd go l.length Bi (dps l l.length) (((0 : Nat) : Int) - 1) := HD.out
   have HD := Lib.hid hdf
   clear hdf
   gi_wp2
   refine wpIn_loop_ghost (fun k a W' => ∃ (j : Nat) (mo : Int) (x10 x56 x57 x58 x59 x60 x61 x62 x63 x64 x65 x66 x67 x68 x69 x70 x71 x72 x73 : Value), j ≤ top.length ∧ k = top.length - j ∧ mo = (top.take j).foldl (dtop l.length (dps l l.length)) 0 ∧ (∃ q, W' = W.drewN q) ∧
    a = { tmps := #[.slice A l.length c, .slice At top.length ct, undef, undef, .int .i64 (0), .pointer (some ⟨Bd, 0, none⟩), .pointer (some ⟨Bi, 0, none⟩), undef, .int .i64 (mo), undef, x10, .slice A l.length c, .int .i64 ((l.length : Int)), .slice (some ⟨go, 0, none⟩) l.length l.length, .slice A l.length c, .int .i64 ((l.length : Int)), .int .i64 ((l.length : Int) - 1), .int .i64 (-1), .bool false, u19, u20, u21, u22, u23, u24, u25, u26, u27, u28, u29, undef, undef, undef, undef, undef, undef, undef, undef, undef, undef, undef, undef, undef, u43, u44, u45, u46, u47, u48, u49, u50, u51, u52, .slice At top.length ct, .int .i64 ((top.length : Int)), .int .i64 ((j : Int)), x56, x57, x58, x59, x60, x61, x62, x63, x64, x65, x66, x67, x68, x69, x70, x71, x72, x73, undef], defers := Ds.map mark }) top.length ?_ ?_
   ·exact ⟨0, 0, _, _, _, _, _, _, _, _, _, _, _, _, _, _, _, _, _, _, _, Nat.zero_le _, rfl, rfl, ⟨0, rfl⟩, rfl⟩
   ·rintro k a W' ⟨j, mo, x10, x56, x57, x58, x59, x60, x61, x62, x63, x64, x65, x66, x67, x68, x69, x70, x71, x72, x73, hj, rfl, hmo, ⟨q, rfl⟩, rfl⟩
    have HMO := Lib.hid hmo
    clear hmo
    by_cases hlt : j < top.length
    ·obtain ⟨at_, rfl, g0⟩ := int_at HT.out hlt
     have g1 := (HD.out.bl.cell (World.block_lt_of_cell? w _ g0)).trans g0
     have htk : (top.take (j + 1)).foldl (dtop l.length (dps l l.length)) 0 = dtop l.length (dps l l.length) mo top[j] := by
      rw [List.take_succ_eq_append_getElem hlt, List.foldl_append, ← HMO.out]; rfl
     obtain ⟨x, hx⟩ : ∃ x, x = top[j] := ⟨_, rfl⟩
     rw [← hx] at g1 htk
     have HTK := Lib.hid htk
     have d1 : decide (j < top.length) = true := decide_eq_true hlt
     have d2 : decide ((j : Int) < (top.length : Int)) = true := decide_eq_true (by omega)
     clear hx htk g0 c1 f1
     by_cases h1 : 0 ≤ x
     ·by_cases h2 : x < (l.length : Int)
      ·obtain ⟨y, rfl⟩ := Int.eq_ofNat_of_zero_le h1
       have g2 := HD.out.cell (show y < l.length by omega)
       have ht : dtop l.length (dps l l.length) mo (y : Int) = max mo ((dps l l.length).getD y 0) := by unfold dtop; rw [if_pos ⟨h1, h2⟩]; rfl
       rw [ht] at HTK
       obtain ⟨z, hz⟩ : ∃ z, z = (dps l l.length).getD y 0 := ⟨_, rfl⟩
       rw [← hz] at g2 HTK
       have d3 : decide ((y : Int) ≥ 0) = true := decide_eq_true h1
       have d4 : decide ((y : Int) < (l.length : Int)) = true := decide_eq_true h2
       have d5 : decide (y < l.length) = true := decide_eq_true (by omega)
       clear h1 ht hz
       gi_wp2
       all_goals (refine ⟨top.length - (j + 1), by omega, j + 1, by omega, rfl, ⟨_, rfl⟩, ?_, by go_num⟩; rw [HTK.out]; omega)
      ·have d3 : decide (x ≥ 0) = true := decide_eq_true h1
       have d4 : decide (x < (l.length : Int)) = false := decide_eq_false h2
       have ht : dtop l.length (dps l l.length) mo x = mo := by unfold dtop; rw [if_neg (by omega)]
       rw [ht] at HTK
       clear h1 h2 ht
       gi_wp2
       rw [show (j : Int) + 1 = ((j + 1 : Nat) : Int) from by omega]; exact ⟨top.length - (j + 1), by omega, j + 1, mo, _, _, _, _, _, _, _, _, _, _, _, _, _, _, _, _, _, _, _, by omega, rfl, HTK.out.symm, ⟨_, rfl⟩, rfl⟩
     ·have d3 : decide (x ≥ 0) = false := decide_eq_false h1
      have ht : dtop l.length (dps l l.length) mo x = mo := by unfold dtop; rw [if_neg (by omega)]
      rw [ht] at HTK
      clear h1 ht
      gi_wp2
      rw [show (j : Int) + 1 = ((j + 1 : Nat) : Int) from by omega]; exact ⟨top.length - (j + 1), by omega, j + 1, mo, _, _, _, _, _, _, _, _, _, _, _, _, _, _, _, _, _, _, _, by omega, rfl, HTK.out.symm, ⟨_, rfl⟩, rfl⟩
    ·have d1 : decide (j < top.length) = false := decide_eq_false hlt
     have d2 : decide ((j : Int) < (top.length : Int)) = false := decide_eq_false (by omega)
     have hj2 : j = top.length := by omega
     have hdp : mo = depth l top := by unfold depth; rw [HMO.out, hj2, List.take_length]
     have HDP := Lib.hid hdp
     clear hdp hj2 c1 c2 f1
     gi_wp2
     refine leaves_all Ds _ (HM.out.kept (fun D _ h => h)) (fun W2 hb hc => ?_)
     refine ⟨_, results_tmp rfl _ _ _, ?_, ?_⟩
     ·rw [HDP.out]; rfl
     ·exact HD.out.bl.trans (Below.trans (pw_below_drewN (Below.refl _ _) _) hb)
  | succ s =>
   have e1 : ((s + 1 : Nat) : Int) - 1 = (s : Int) := by omega
   rw [e1] at c1
   have hD1 := HD.out
   rw [e1] at hD1
   obtain ⟨D, hDD⟩ : ∃ D, D = dps l (l.length - (s + 1)) := ⟨_, rfl⟩
   rw [← hDD] at hD1
   have hnext : dps l (l.length - s) = dstep l D s := by
    have e : l.length - s = (l.length - (s + 1)) + 1 := by omega
    rw [e, dps, ← hDD]
    congr 1
    omega
   have HN := Lib.hid hnext
   have hlow : Low D := by rw [hDD]; exact Low.dps _ _
   have HLOW := Lib.hid hlow
   have HD1 := Lib.hid hD1
   have hsl : s < l.length := by omega
   clear hDD hnext hD1 HD hlow
   obtain ⟨ad, A3, c3, rfl, p0, p1, p2, p3, p4, h3, hK⟩ := form_at HC.out hsl
   have q0 := (HD1.out.bl.cell (World.block_lt_of_cell? w _ p0)).trans p0
   have hgk : l.getD s zFm = l[s] := by rw [List.getD_eq_getElem?_getD, List.getElem?_eq_getElem hsl]; rfl
   obtain ⟨kk, hkk⟩ : ∃ kk, kk = l[s].f0 := ⟨_, rfl⟩
   rw [← hkk] at q0
   have hgk0 : (l.getD s zFm).f0 = kk := by rw [hgk, hkk]
   have HGK := Lib.hid hgk0
   have dsl : decide ((s : Int) < (l.length : Int)) = true := decide_eq_true (by omega)
   have dsl2 : decide (s < l.length) = true := decide_eq_true hsl
   have dsl3 : decide ((s : Int) ≥ 0) = true := decide_eq_true (by omega)
   clear p0 p1 p2 p3 p4 h3 hK hgk hkk e1 hgk0
   by_cases hone : kk = 1
   ·subst hone
    gi_wp2_with fail
    refine ⟨trivial, fun h => (by cases h), (kids_in Fence.wide (m - 1) trivial rfl (some ad) l.length c (s : Int) W).mono ?_⟩
    rintro e w1 ⟨rfl, hw1⟩
    have HW1 := Lib.hid hw1
    clear hw1
    gi_wp2
    have hW1s : w1.heap.size = W.heap.size + 1 + 1 := by rw [HW1.out]; simp
    have hA1 : Below W.heap.size W w1 := by rw [HW1.out]; exact ((Below.refl _ W).alloc (Nat.le_refl _) _).alloc (by simp) _
    have bG : w1.heap[W.heap.size]? = some (.cells #[.slice (some ad) l.length c] 22 (0, 0)) := by rw [HW1.out]; exact (Boxed.new W 22 _).alloc _
    have bV : w1.heap[W.heap.size + 1]? = some (.cells #[.int .i64 (s : Int)] 3 (0, 0)) := by
     rw [HW1.out]
     have := Boxed.new (W.alloc (.cells #[.slice (some ad) l.length c] 22)) 3 (.int .i64 (s : Int))
     rwa [World.size_alloc] at this
    have hgol : go < W.heap.size := (Array.getElem?_eq_some_iff.1 HD1.out.ot).1
    have hBl := HD1.out.bl.size
    have hD2 : Dv w w1 Bd go l.length Bi D (s : Int) := HD1.out.same hA1
    have hM1 : Marks w.heap.size Ds w1 := HM.out.kept (fun D hD hk => (hA1.block D (Array.getElem?_eq_some_iff.1 hk).1).trans hk)
    refine wpIn_rangeFunc_ownG rfl (by omega) (gf := 55) (lb := #[.pointer (some ⟨W.heap.size, 0, none⟩), .pointer (some ⟨W.heap.size + 1, 0, none⟩)]) rfl trivial (enters_of Tryd.func55 (by kernel_rfl) rfl)
     (kids_stops (m - 1) (by omega) W.heap.size s (some ad) c l w w1 hsl HC.out hBl hD2.bl bG bV) KpG.t (KpG.b (by omega) (by omega)) (Below.refl _ _) (fun _ => rfl)
     (Mid w Bd go l.length Bi W.heap.size s D Ds) (fun _ _ _ => False) (Mid.own (by omega) (fun D hD => by have := HM.out.lt D hD; omega)) (fun _ _ _ _ _ hs _ _ => hs) ⟨hD2, hM1, by omega⟩
     (fun x => { tmps := #[.slice (some ad) l.length c, .slice At top.length ct, undef, undef, .int .i64 (0), .pointer (some ⟨Bd, 0, none⟩), .pointer (some ⟨Bi, 0, none⟩), .int .i64 ((x.1 : Int)), undef, undef, undef, .slice (some ad) l.length c, .int .i64 ((l.length : Int)), .slice (some ⟨go, 0, none⟩) l.length l.length, .slice (some ad) l.length c, .int .i64 ((l.length : Int)), .int .i64 ((l.length : Int) - 1), .int .i64 ((s : Int)), .bool true, u19, u20, .slice (some ad) l.length c, .int .i64 ((s : Int)), .pointer (some (ad.add (s * 5))), .pointer (some (ad.add (s * 5))), .int .u8 1, .bool false, .slice (some ad) l.length c, .int .i64 ((s : Int)), .func (.func 55) #[] #[.pointer (some ⟨W.heap.size, 0, none⟩), .pointer (some ⟨W.heap.size + 1, 0, none⟩)], .int .i64 ((x.1 : Int)), undef, undef, undef, undef, undef, undef, undef, undef, undef, undef, undef, undef, u43, u44, u45, u46, u47, u48, u49, u50, u51, u52, undef, undef, undef, undef, undef, undef, undef, undef, undef, undef, undef, undef, undef, undef, undef, undef, undef, undef, undef, undef, undef, undef], defers := [] }) ?assign ?body ?done ?stop
    case assign =>
     intro L x W2 K hK
     gi_wp2
     exact hK
    case body =>
     rintro L pre x W2 ⟨hDm, hMm, hlk⟩ hpl
     obtain ⟨E, hE⟩ : ∃ E, E = (pre.map Fin.val).foldl (dk s) D := ⟨_, rfl⟩
     rw [← hE] at hDm
     have hfold : ((pre ++ [x]).map Fin.val).foldl (dk s) D = E.set s (max (E.getD s 0) (E.getD x.1 0)) := by
      rw [List.map_append, List.foldl_append, ← hE]
      rfl
     obtain ⟨y, hy⟩ : ∃ y, y = E.getD s 0 := ⟨_, rfl⟩
     obtain ⟨z, hz⟩ : ∃ z, z = E.getD x.1 0 := ⟨_, rfl⟩
     have e1 := hDm.bd.cell
     have e2 := hDm.bi.cell
     have e3 := hDm.cell hsl
     have e4 := hDm.cell x.2
     have e5 := hDm.free s
     rw [← hy] at e3 hfold
     rw [← hz] at e4 hfold
     rw [show max y z = if y < z then z else y from by split <;> omega] at hfold
     have hx2 := x.2
     have HDM := Lib.hid hDm
     have HMM := Lib.hid hMm
     have HFO := Lib.hid hfold
     have dx : decide ((x.1 : Int) < (l.length : Int)) = true := decide_eq_true (by omega)
     have dx2 : decide (x.1 < l.length) = true := decide_eq_true hx2
     clear hE hy hz hDm hMm hfold q0 c1 f1 c2 bG bV hD2 hM1
     gi_wp2
     refine InRound.startR_ (by kernel_rfl) (fun _ _ h => h) (m := 13) (S := fun w' => w'.cell? ⟨Bd, 0, none⟩ = some (.slice (some ⟨go, 0, none⟩) l.length l.length) ∧ w'.cell? ⟨Bi, 0, none⟩ = some (.int .i64 (s : Int)) ∧ w'.cell? ⟨go, s, none⟩ = some (.int .i64 y) ∧ w'.cell? ⟨go, x.1, none⟩ = some (.int .i64 z)) (ds := [12]) #[false,false,false,false,false,false,false,false,false,false,false,false,false] (by kernel_rfl) rfl rfl ⟨e1, e2, e3, e4⟩ (fun hHeld => ?_)
     refine pure_ (i := 7) (N := some 38) (v := ?_) (a' := ?_) #[false,false,false,false,false,false,false,true,false,false,false,false,false] rfl rfl (by kernel_rfl) (fun _ _ _ h => h) (Or.inl ⟨by rfl, ?_⟩) ?_ ?_
     rotate_left
     ·intro w'
      go_simp
      with_reducible rfl
     rotate_left
     ·simp only [Act.put, List.setIfInBounds_toArray, List.set_cons_zero, List.set_cons_succ, i64_w, i32_w]
      rfl
     refine take_ (i := 0) (N := some 31) (v := ?_) (a' := ?_) #[true,false,false,false,false,false,false,true,false,false,false,false,false] rfl rfl (by kernel_rfl) (fun _ _ _ h => h) (Or.inl ⟨by rfl, ?_⟩) hHeld ?_ ?_
     rotate_left
     ·rintro w' ⟨s0, s1, s2, s3⟩
      go_simp
      with_reducible rfl
     rotate_left
     ·simp only [Act.put, List.setIfInBounds_toArray, List.set_cons_zero, List.set_cons_succ, i64_w, i32_w]
      rfl
     refine take_ (i := 1) (N := some 32) (v := ?_) (a' := ?_) #[true,true,false,false,false,false,false,true,false,false,false,false,false] rfl rfl (by kernel_rfl) (fun _ _ _ h => h) (Or.inl ⟨by rfl, ?_⟩) hHeld ?_ ?_
     rotate_left
     ·rintro w' ⟨s0, s1, s2, s3⟩
      go_simp
      with_reducible rfl
     rotate_left
     ·simp only [Act.put, List.setIfInBounds_toArray, List.set_cons_zero, List.set_cons_succ, i64_w, i32_w]
      rfl
     refine take_ (i := 2) (N := some 33) (v := ?_) (a' := ?_) #[true,true,true,false,false,false,false,true,false,false,false,false,false] rfl rfl (by kernel_rfl) (fun _ _ _ h => h) (Or.inl ⟨by rfl, ?_⟩) hHeld ?_ ?_
     rotate_left
     ·rintro w' ⟨s0, s1, s2, s3⟩
      go_simp
      with_reducible rfl
     rotate_left
     ·simp only [Act.put, List.setIfInBounds_toArray, List.set_cons_zero, List.set_cons_succ, i64_w, i32_w]
      rfl
     refine take_ (i := 3) (N := some 34) (v := ?_) (a' := ?_) #[true,true,true,true,false,false,false,true,false,false,false,false,false] rfl rfl (by kernel_rfl) (fun _ _ _ h => h) (Or.inl ⟨by rfl, ?_⟩) hHeld ?_ ?_
     rotate_left
     ·rintro w' ⟨s0, s1, s2, s3⟩
      go_simp
      with_reducible rfl
     rotate_left
     ·simp only [Act.put, List.setIfInBounds_toArray, List.set_cons_zero, List.set_cons_succ, i64_w, i32_w]
      rfl
     refine pure_ (i := 4) (N := some 35) (v := ?_) (a' := ?_) #[true,true,true,true,true,false,false,true,false,false,false,false,false] rfl rfl (by kernel_rfl) (fun _ _ _ h => h) (Or.inl ⟨by rfl, ?_⟩) ?_ ?_
     rotate_left
     ·intro w'
      go_simp
      with_reducible rfl
     rotate_left
     ·simp only [Act.put, List.setIfInBounds_toArray, List.set_cons_zero, List.set_cons_succ, i64_w, i32_w]
      rfl
     refine take_ (i := 5) (N := some 36) (v := ?_) (a' := ?_) #[true,true,true,true,true,true,false,true,false,false,false,false,false] rfl rfl (by kernel_rfl) (fun _ _ _ h => h) (Or.inl ⟨by rfl, ?_⟩) hHeld ?_ ?_
     rotate_left
     ·rintro w' ⟨s0, s1, s2, s3⟩
      go_simp
      with_reducible rfl
     rotate_left
     ·simp only [Act.put, List.setIfInBounds_toArray, List.set_cons_zero, List.set_cons_succ, i64_w, i32_w]
      rfl
     refine take_ (i := 6) (N := some 37) (v := ?_) (a' := ?_) #[true,true,true,true,true,true,true,true,false,false,false,false,false] rfl rfl (by kernel_rfl) (fun _ _ _ h => h) (Or.inl ⟨by rfl, ?_⟩) hHeld ?_ ?_
     rotate_left
     ·rintro w' ⟨s0, s1, s2, s3⟩
      go_simp
      with_reducible rfl
     rotate_left
     ·simp only [Act.put, List.setIfInBounds_toArray, List.set_cons_zero, List.set_cons_succ, i64_w, i32_w]
      rfl
     refine pure_ (i := 8) (N := some 39) (v := ?_) (a' := ?_) #[true,true,true,true,true,true,true,true,true,false,false,false,false] rfl rfl (by kernel_rfl) (fun _ _ _ h => h) (Or.inl ⟨by rfl, ?_⟩) ?_ ?_
     rotate_left
     ·intro w'
      go_simp
      with_reducible rfl
     rotate_left
     ·simp only [Act.put, List.setIfInBounds_toArray, List.set_cons_zero, List.set_cons_succ, i64_w, i32_w]
      rfl
     refine take_ (i := 9) (N := some 40) (v := ?_) (a' := ?_) #[true,true,true,true,true,true,true,true,true,true,false,false,false] rfl rfl (by kernel_rfl) (fun _ _ _ h => h) (Or.inl ⟨by rfl, ?_⟩) hHeld ?_ ?_
     rotate_left
     ·rintro w' ⟨s0, s1, s2, s3⟩
      go_simp
      with_reducible rfl
     rotate_left
     ·simp only [Act.put, List.setIfInBounds_toArray, List.set_cons_zero, List.set_cons_succ, i64_w, i32_w]
      rfl
     refine pure_ (i := 10) (N := some 41) (v := ?_) (a' := ?_) #[true,true,true,true,true,true,true,true,true,true,true,false,false] rfl rfl (by kernel_rfl) (fun _ _ _ h => h) (Or.inl ⟨by rfl, ?_⟩) ?_ ?_
     rotate_left
     ·intro w'
      go_simp
      with_reducible rfl
     rotate_left
     ·simp only [Act.put, List.setIfInBounds_toArray, List.set_cons_zero, List.set_cons_succ, i64_w, i32_w]
      rfl
     refine pure_ (i := 11) (N := some 42) (v := ?_) (a' := ?_) #[true,true,true,true,true,true,true,true,true,true,true,true,false] rfl rfl (by kernel_rfl) (fun _ _ _ h => h) (Or.inl ⟨by rfl, ?_⟩) ?_ ?_
     rotate_left
     ·intro w'
      go_simp
      with_reducible rfl
     rotate_left
     ·simp only [Act.put, List.setIfInBounds_toArray, List.set_cons_zero, List.set_cons_succ, i64_w, i32_w]
      rfl
     refine last_ (i := 12) (N := none) #[true,true,true,true,true,true,true,true,true,true,true,true,true] rfl rfl (by kernel_rfl) (by decide) (fun K hK => ?_)
     refine skip_ (w1 := ?_) (by rfl) rfl ?_ ?_
     rotate_left
     ·go_simp
      rfl
     refine hK.out _ _ ?_
     clear hK K
     refine done_ (by kernel_rfl) ?_
     refine ⟨((KeepsOthers.setCell _ _ _).trans (KeepsOthers.drew _)).from _, ⟨below_drew ((Below.refl _ _).setCell (p := ⟨go, s, none⟩) HDM.out.ago _), Below.heap_setCell _ _ _ _ (by show W.heap.size ≠ go; omega), Below.heap_setCell _ _ _ _ (by show W.heap.size + 1 ≠ go; omega)⟩, ?_, HMM.out.others ((KeepsOthers.setCell _ _ _).trans (KeepsOthers.drew _)), by simp; omega⟩
     rw [HFO.out]
     exact (HDM.out.set s _).same (below_drew (Below.refl _ _))
    case done =>
     rintro D' ys W2 hD' hys ⟨hD3, hM2, hlk⟩ hDk
     rw [hys] at hD3
     have hst : dstep l D s = ((kd l s).foldl (dk s) D).set s (min (((kd l s).foldl (dk s) D).getD s 0 + 1) 13) := by unfold dstep; rw [if_pos HGK.out]
     have hlow := HLOW.out.fold s (kd l s)
     generalize (kd l s).foldl (dk s) D = E at hD3 hst hlow
     have hly := hlow s
     obtain ⟨y, hy⟩ : ∃ y, y = E.getD s 0 := ⟨_, rfl⟩
     have e1 := hD3.bd.cell
     have e2 := hD3.bi.cell
     have e3 := hD3.cell hsl
     have e5 := hD3.free s
     rw [← hy] at e3 hst hly
     obtain ⟨hy0, hy1⟩ := hly
     have HS := Lib.hid hst
     have HD3 := Lib.hid hD3
     have HM2 := Lib.hid hM2
     have HDK := Lib.hid hDk
     have hDn : D' ∉ Ds := fun h => by have := HM.out.lt D' h; omega
     clear hy hst hD3 hM2 hDk hys hlow q0 c1 f1 c2 bG bV hD2 hM1
     gi_wp2
     refine InRound.startW_ (by kernel_rfl) (fun _ _ h => no_out h) (m := 10) (S := fun w' => w'.cell? ⟨Bd, 0, none⟩ = some (.slice (some ⟨go, 0, none⟩) l.length l.length) ∧ w'.cell? ⟨Bi, 0, none⟩ = some (.int .i64 (s : Int)) ∧ w'.cell? ⟨go, s, none⟩ = some (.int .i64 y)) (ds := [9]) #[false,false,false,false,false,false,false,false,false,false] (by kernel_rfl) rfl rfl ⟨e1, e2, e3⟩ (fun hHeld => ?_)
     refine take_ (i := 0) (N := some 43) (v := ?_) (a' := ?_) #[true,false,false,false,false,false,false,false,false,false] rfl rfl (by kernel_rfl) (fun _ _ _ h => stays (fn := Tryd.f32) (r := 4) (d := some 43) rfl (by decide) h) (Or.inl ⟨by rfl, ?_⟩) hHeld ?_ ?_
     rotate_left
     ·rintro w' ⟨s0, s1, s2⟩
      go_simp
      with_reducible rfl
     rotate_left
     ·simp only [Act.put, List.setIfInBounds_toArray, List.set_cons_zero, List.set_cons_succ, i64_w, i32_w]
      rfl
     refine take_ (i := 1) (N := some 44) (v := ?_) (a' := ?_) #[true,true,false,false,false,false,false,false,false,false] rfl rfl (by kernel_rfl) (fun _ _ _ h => stays (fn := Tryd.f32) (r := 4) (d := some 44) rfl (by decide) h) (Or.inl ⟨by rfl, ?_⟩) hHeld ?_ ?_
     rotate_left
     ·rintro w' ⟨s0, s1, s2⟩
      go_simp
      with_reducible rfl
     rotate_left
     ·simp only [Act.put, List.setIfInBounds_toArray, List.set_cons_zero, List.set_cons_succ, i64_w, i32_w]
      rfl
     refine take_ (i := 2) (N := some 45) (v := ?_) (a' := ?_) #[true,true,true,false,false,false,false,false,false,false] rfl rfl (by kernel_rfl) (fun _ _ _ h => stays (fn := Tryd.f32) (r := 4) (d := some 45) rfl (by decide) h) (Or.inl ⟨by rfl, ?_⟩) hHeld ?_ ?_
     rotate_left
     ·rintro w' ⟨s0, s1, s2⟩
      go_simp
      with_reducible rfl
     rotate_left
     ·simp only [Act.put, List.setIfInBounds_toArray, List.set_cons_zero, List.set_cons_succ, i64_w, i32_w]
      rfl
     refine take_ (i := 3) (N := some 46) (v := ?_) (a' := ?_) #[true,true,true,true,false,false,false,false,false,false] rfl rfl (by kernel_rfl) (fun _ _ _ h => stays (fn := Tryd.f32) (r := 4) (d := some 46) rfl (by decide) h) (Or.inl ⟨by rfl, ?_⟩) hHeld ?_ ?_
     rotate_left
     ·rintro w' ⟨s0, s1, s2⟩
      go_simp
      with_reducible rfl
     rotate_left
     ·simp only [Act.put, List.setIfInBounds_toArray, List.set_cons_zero, List.set_cons_succ, i64_w, i32_w]
      rfl
     refine pure_ (i := 4) (N := some 47) (v := ?_) (a' := ?_) #[true,true,true,true,true,false,false,false,false,false] rfl rfl (by kernel_rfl) (fun _ _ _ h => stays (fn := Tryd.f32) (r := 4) (d := some 47) rfl (by decide) h) (Or.inl ⟨by rfl, ?_⟩) ?_ ?_
     rotate_left
     ·intro w'
      go_simp
      with_reducible rfl
     rotate_left
     ·simp only [Act.put, List.setIfInBounds_toArray, List.set_cons_zero, List.set_cons_succ, i64_w, i32_w]
      rfl
     refine take_ (i := 5) (N := some 48) (v := ?_) (a' := ?_) #[true,true,true,true,true,true,false,false,false,false] rfl rfl (by kernel_rfl) (fun _ _ _ h => stays (fn := Tryd.f32) (r := 4) (d := some 48) rfl (by decide) h) (Or.inl ⟨by rfl, ?_⟩) hHeld ?_ ?_
     rotate_left
     ·rintro w' ⟨s0, s1, s2⟩
      go_simp
      with_reducible rfl
     rotate_left
     ·simp only [Act.put, List.setIfInBounds_toArray, List.set_cons_zero, List.set_cons_succ, i64_w, i32_w]
      rfl
     refine pure_ (i := 6) (N := some 49) (v := ?_) (a' := ?_) #[true,true,true,true,true,true,true,false,false,false] rfl rfl (by kernel_rfl) (fun _ _ _ h => stays (fn := Tryd.f32) (r := 4) (d := some 49) rfl (by decide) h) (Or.inl ⟨by rfl, ?_⟩) ?_ ?_
     rotate_left
     ·intro w'
      go_simp
      with_reducible rfl
     rotate_left
     ·simp only [Act.put, List.setIfInBounds_toArray, List.set_cons_zero, List.set_cons_succ, i64_w, i32_w]
      rfl
     refine pure_ (i := 7) (N := some 50) (v := ?_) (a' := ?_) #[true,true,true,true,true,true,true,true,false,false] rfl rfl (by kernel_rfl) (fun _ _ _ h => stays (fn := Tryd.f32) (r := 4) (d := some 50) rfl (by decide) h) (Or.inl ⟨by rfl, ?_⟩) ?_ ?_
     rotate_left
     ·intro w'
      go_simp
      with_reducible rfl
     rotate_left
     ·simp only [Act.put, List.setIfInBounds_toArray, List.set_cons_zero, List.set_cons_succ, i64_w, i32_w]
      rfl
     refine pure_ (i := 8) (N := some 51) (v := ?_) (a' := ?_) #[true,true,true,true,true,true,true,true,true,false] rfl rfl (by kernel_rfl) (fun _ _ _ h => stays (fn := Tryd.f32) (r := 4) (d := some 51) rfl (by decide) h) (Or.inl ⟨by rfl, ?_⟩) ?_ ?_
     rotate_left
     ·intro w'
      go_simp
      with_reducible rfl
     rotate_left
     ·simp only [Act.put, List.setIfInBounds_toArray, List.set_cons_zero, List.set_cons_succ, i64_w, i32_w]
      rfl
     refine last_ (i := 9) (N := none) #[true,true,true,true,true,true,true,true,true,true] rfl rfl (by kernel_rfl) (by decide) (fun K hK => ?_)
     refine skip_ (w1 := ?_) (by rfl) rfl ?_ ?_
     rotate_left
     ·go_simp
      rfl
     refine hK.out _ _ ?_
     clear hK K
     refine done_ (by kernel_rfl) ?_
     have hv : (if 13 < wrap64 (y + 1) then (13 : Int) else wrap64 (y + 1)) = min (y + 1) 13 := by
      have : wrap64 (y + 1) = y + 1 := by unfold wrap64; omega
      rw [this]
      split <;> omega
     rw [hv]
     have hD4 : Dv w (W2.setCell ⟨go, s, none⟩ (.int .i64 (min (y + 1) 13))).drew Bd go l.length Bi (E.set s (min (y + 1) 13)) (s : Int) := (HD3.out.set s _).same (below_drew (Below.refl _ _))
     have hK4 : KeepsOthers W2 (W2.setCell ⟨go, s, none⟩ (.int .i64 (min (y + 1) 13))).drew := (KeepsOthers.setCell _ _ _).trans (KeepsOthers.drew _)
     have hM4 := HM2.out.others hK4
     have hDK4 := hK4.same D' _ HDK.out rfl
     generalize (W2.setCell ⟨go, s, none⟩ (.int .i64 (min (y + 1) 13))).drew = W4 at hD4 hM4 hDK4 ⊢
     have c1 := hD4.bi.cell
     have f1 := hD4.bi.frozen
     have HD4 := Lib.hid hD4
     have HM4 := Lib.hid hM4
     have HDK4 := Lib.hid hDK4
     clear hD4 hM4 hDK4 hK4 hv e1 e2 e3 e5 hHeld
     gi_wp2
     refine ⟨s, Nat.lt_succ_self _, W4.heap.size, _, _, _, _, _, _, _, _, _, _, _, _, _, _, _, _, _, _, _, _, _, _, _, D' :: Ds, by omega, ?_, ⟨List.nodup_cons.2 ⟨hDn, HM4.out.1⟩, fun D'' hD'' => ?_⟩, rfl⟩
     ·rw [HN.out, HS.out]
      exact HD4.out.turn _
     ·rcases List.mem_cons.1 hD'' with rfl | hD''
      ·exact ⟨by omega, (Below.heap_alloc _ _ _ (Array.getElem?_eq_some_iff.1 HDK4.out).1).trans HDK4.out⟩
      ·have := HM4.out.2 D'' hD''
       exact ⟨this.1, (Below.heap_alloc _ _ _ (Array.getElem?_eq_some_iff.1 this.2).1).trans this.2⟩
    case stop =>
     rintro D c pre W2 _ _ h _
     exact h.elim
   ·have d1 : (kk == 1) = false := by simpa using hone
    have d2 : (kk != 1) = true := by simpa using hone
    have hst : dstep l D s = D := by unfold dstep; rw [if_neg (by rw [HGK.out]; exact hone)]
    have HS := Lib.hid hst
    clear hone hst
    gi_wp2
    refine ⟨s, Nat.lt_succ_self _, W.heap.size, _, _, _, _, _, _, _, _, _, _, _, _, _, _, _, _, _, _, _, _, _, _, _, Ds, by omega, ?_, ?_, rfl⟩
    ·rw [HN.out, HS.out]
     exact HD1.out.turn _
    ·exact HM.out.kept (fun D hD h => by
      have := HM.out.lt D hD
      exact (Below.heap_alloc _ _ _ this).trans h)
theorem tree_Depth_ok (A At : Option Addr) (c ct : Nat) (l : List Fm) (top : List Int) (w : World) (hC : Kd.C kFm w A l.length l) (hT : Kd.C (Kd.int .i64) w At top.length top) (hl : l.length ≤ 100000) :
  Calls Tryd.prog 32 #[.slice A l.length c, .slice At top.length ct] w fun e w' => e = .returned (.int .i64 (depth l top)) ∧ Below w.heap.size w w' := callsIn_wide.1 (depth_in 5 A At c ct l top w hC hT hl (by decide))
def tree_Depth.f (l : List Fm) (top : List Int) : Option Int := if l.length ≤ 100000 then some (depth l top) else none
theorem tree_Depth.calls (A0 : Option Addr) (c0 : Nat) (l0 : List Fm) (A1 : Option Addr) (c1 : Nat) (l1 : List Int) (r : Int) (w : World) (hr0 : Kd.C kFm w A0 l0.length l0) (_ : l0.length ≤ c0) (hr1 : Kd.C (Kd.int .i64) w A1 l1.length l1) (_ : l1.length ≤ c1) (h : tree_Depth.f l0 l1 = some r) :
  Calls Tryd.prog 32 #[.slice A0 l0.length c0, .slice A1 l1.length c1] w fun e w' => e = .returned (.int .i64 r) ∧ Below w.heap.size w w' := by
 unfold tree_Depth.f at h
 split at h
 ·cases h
  exact tree_Depth_ok A0 A1 c0 c1 l0 l1 w hr0 hr1 (by assumption)
 ·cases h
end Go.Proofs.YtldjbgonlbmeaaaDoor.T
