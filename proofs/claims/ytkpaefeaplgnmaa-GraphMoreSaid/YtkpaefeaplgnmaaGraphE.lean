/- The walks of graph: a graph is made. -/
import Derived.Test.YtkpaefeaplgnmaaGraphD
set_option linter.unusedSimpArgs false
set_option linter.unusedVariables false
namespace Go.Proofs.Ytkpaefeaplgnmaa.G
open Go.RowKit Go.Proofs.Ytkpaefeaplgnmaa.PA Go.Proofs.Ytkpaefeaplgnmaa.Mp Go.Proofs.YtkpaefeaplgnmaaW.PrintWords Go.Proofs.YtkpaefeaplgnmaaW.PrintLast Go.Proofs.YtkpaefeaplgnmaaW.PrintMore

/-- A graph: so many nodes, edges. -/
def IsG (w : World) (g n : Nat) (l : List S53) : Prop := ∃ (base gO gI b : Nat) (A : Option Addr) (c : Nat) (val : Ix → Value) (K : List S53), Mk w base g gO gI b n A c l.length val (rw_ l) K ∧ Kd.C k53 w A l.length l ∧ l.length ≤ c
/-- What may be. -/
structure Fits (n : Nat) (l : List S53) : Prop where
 one : 1 ≤ n
 top : n ≤ 12
 few : l.length ≤ 30
 fit : ∀ e ∈ l, 0 ≤ e.f0 ∧ e.f0 < n ∧ 0 ≤ e.f1 ∧ e.f1 < n

theorem info27 : (Try.prog.info? 27).map (fun i => (i.zero, i.size, i.bytes)) = some (some (.slice none 0 0), 1, 24) := by kernel_rfl
theorem wf_small {x : Int} (h0 : 0 ≤ x) (h1 : x < 1000) : (Lit.int .i64 x).wf = true := by
 simp only [Lit.wf, Bool.and_eq_true, decide_eq_true_eq]
 rw [show IntKind.i64.min = -9223372036854775808 from by decide +kernel, show IntKind.i64.max = 9223372036854775807 from by decide +kernel]
 omega

theorem own_step {P : Program} {ops : Array Oper} {o : Oper} {a : Act} {K : Act → World → Prop} {Q : Exit → Act → World → Prop} {W : World} {X : Prop} (hw : Region.wanted o (yielded ops a.tmps) = true) (h : Oper.wp P o a W K Q) :
  if Region.wanted o (yielded ops a.tmps) = true then Oper.wp P o a W K Q else X := by
 rw [if_pos hw]; exact h
theorem wp_make {P : Program} (w : World) {o : Oper} {a : Act} {K : Act → World → Prop} {Q : Exit → Act → World → Prop} (l c : Operand) (t : TypeId) (hop : o.op = Op.makeSlice t l c)
  (base : Nat) (e : TypeId) (i : TypeInfo) (z : Value) (size : Nat) (h1 : P.underlying t = some (.slice e)) (h2 : P.info? e = some i) (h3 : i.zero = some z) (h4 : i.size = size)
  (kl kc : IntKind) (L C : Int) (n : Nat) (hl : a.eval l = .int kl L) (hc : a.eval c = .int kc C) (hL : L = (n : Int)) (hC : C = (n : Int)) (b2 : i.bytes * n ≤ 281474976710656) (b3 : n ≤ maxLen) (b4 : base ≤ w.heap.size)
  (hK : ∀ (B : Nat) w', w.heap.size ≤ B → B < w'.heap.size → w'.ownsRow base e size (.slice (some ⟨B, 0, none⟩) n n) n (madeCells z.cells (n * size)).toList → Below w.heap.size w w' → K (a.put o.dst (.slice (some ⟨B, 0, none⟩) n n)) w') : o.wp P a w K Q := by
 obtain ⟨w', hrun, r1, r2⟩ := run_make_full (P := P) w base t e i z size h1 h2 h3 h4 kl kc n b2 b3 b4
 subst hL
 subst hC
 unfold Oper.wp
 simp [execOp, hop, hl, hc, hrun, Result.andThen]
 exact hK _ _ (Nat.le_refl _) (own_lt r1 rfl).1 r1 ((Below.refl _ _).grown r2 (Nat.le_refl _) (fun k h => by cases h))
theorem wp_map (w : World) {o : Oper} {a : Act} {K : Act → World → Prop} {Q : Exit → Act → World → Prop} {t : TypeId} (hop : o.op = Op.makeMap t none)
  (hK : ∀ (B : Nat) w', w.heap.size ≤ B → B < w'.heap.size → MapIs Try.prog 53 w' B [] → Below w.heap.size w w' → K (a.put o.dst (.map (some B))) w') : o.wp Try.prog a w K Q := by
 unfold Oper.wp
 simp [execOp, hop, Instr.makeMap, newObj, Result.andThen, Sem.run]
 exact hK _ _ (Nat.le_refl _) (by simp) (MapIs.made w) ((Below.refl _ _).alloc (Nat.le_refl _) _)
theorem own_below {w w' : World} {b e s n : Nat} {v : Value} {xs : List Value} (h : w.ownsRow b e s v n xs) (hb : Below w.heap.size w w') : w'.ownsRow b e s v n xs :=
 h.kept (grown_none hb) (by cases v.ownBlock <;> simp)
/-- Three blocks, in whatever order they have been made. -/
structure Begun (w w' : World) (n gO gI b : Nat) : Prop where
 bl : Below w.heap.size w w'
 oo : w'.ownsRow w.heap.size 27 1 (.slice (some ⟨gO, 0, none⟩) n n) n (madeCells (Value.slice none 0 0).cells (n * 1)).toList
 ii : w'.ownsRow w.heap.size 27 1 (.slice (some ⟨gI, 0, none⟩) n n) n (madeCells (Value.slice none 0 0).cells (n * 1)).toList
 mp : MapIs Try.prog 53 w' b []
 ne : gO ≠ gI
 le : w.heap.size ≤ b

theorem info3' : (Try.prog.info? 3).map (fun i => (i.zero, i.size, i.bytes)) = some (some (.int .i64 0), 1, 8) := by kernel_rfl
/-- One more number behind a row. -/
theorem wp_app1 (w : World) {o : Oper} {a : Act} {K : Act → World → Prop} {Q : Exit → Act → World → Prop} (s x : Operand) (ho : o.op = .call { callee := .builtin .append, args := #[s, x], argTypes := #[27, 27] })
  (base : Nat) (v : Value) (l : List Int) (hs : a.eval s = v) (hown : w.ownsRow base 3 1 v l.length (l.map I)) (B : Nat) (hx : a.eval x = .slice (some ⟨B, 0, none⟩) 1 1) (y : Int) (hc : w.cell? ⟨B, 0, none⟩ = some (.int .i64 y)) (hlen : l.length ≤ 100000) (hbase : base ≤ w.heap.size)
  (h : ∀ v' w', w'.ownsRow base 3 1 v' (l.length + 1) (l.map I ++ [I y]) → w.grownBy w' v.ownBlock → (v'.ownBlock = v.ownBlock ∨ ∃ b, v'.ownBlock = some b ∧ w.heap.size ≤ b) → K (a.put o.dst v') w') : o.wp Try.prog a w K Q := by
 obtain ⟨i3, hi3, z3, s3, b3⟩ := info_parts info3'
 obtain ⟨v', w', hr, h2, h3, _, h5⟩ := run_append_own_at (P := Try.prog) w base 27 o.type 3 i3 (.int .i64 0) 1 8 Try.underlying27 hi3 z3 s3 b3 rfl (by decide) v l.length (l.map I) hown ⟨B, 0, none⟩ 1 1 [I y] rfl (fun j u hu => by
  cases j with
  | zero => cases hu; rw [Addr.add_lit]; exact hc
  | succ j => simp at hu) (fun u hu => by rw [List.mem_singleton.1 hu]; rfl) (by unfold maxLen; omega) (by omega) hbase
 unfold Oper.wp execOp
 simp only [ho, resolve, invoke, builtin, Sem.run_bind, Sem.run_pure, Result.andThen_ok, List.map_toArray, List.map_cons, List.map_nil, hs, hx, hr]
 exact h v' w' h2 h3 (h5.imp id (fun e => ⟨_, e, Nat.le_refl _⟩))
theorem own_ge {w : World} {b e s n k : Nat} {v : Value} {xs : List Value} (h : w.ownsRow b e s v n xs) (hk : v.ownBlock = some k) : b ≤ k := by
 rcases h.2 with ⟨rfl, _⟩ | ⟨g, cap, cur, rfl, hb, _⟩
 ·simp [Value.ownBlock] at hk
 ·injection hk with hk
  have hk' : g = k := hk
  omega
/-- A block that is no row's stays. -/
theorem Mk.far {w w1 : World} {base g gO gI b n c m : Nat} {A : Option Addr} {val : Ix → Value} {row : Ix → List Int} {K : List S53} (h : Mk w base g gO gI b n A c m val row K) (x : Ix) (hg : w.grownBy w1 (val x).ownBlock) {B : Nat} {cs : Array Value} {t : TypeId} (hB : w.heap[B]? = some (.cells cs t (0, 0))) (ht : t ≠ 3) : w1.heap[B]? = some (.cells cs t (0, 0)) := by
 have hl : B < w.heap.size := by
  rcases Nat.lt_or_ge B w.heap.size with q | q
  ·exact q
  ·rw [Array.getElem?_eq_none q] at hB; cases hB
 rw [hg.block B hl (fun e => by
  obtain ⟨_, c', hc'⟩ := own_lt (h.sep.own x) e.symm
  exact cells_ne hB hc' ht rfl), hB]
theorem Mk.bl {w w0 w1 : World} {base g gO gI b n c m : Nat} {A : Option Addr} {val : Ix → Value} {row : Ix → List Int} {K : List S53} (h : Mk w base g gO gI b n A c m val row K) (x : Ix) (hb : Below base w0 w) (hbs : base ≤ w.heap.size) (hg : w.grownBy w1 (val x).ownBlock) : Below base w0 w1 := hb.grown hg hbs (fun k hk => own_ge (h.sep.own x) hk)
theorem cell_of {w : World} {B i : Nat} {cs : Array Value} {t : TypeId} (h : w.heap[B]? = some (.cells cs t (0, 0))) : w.cell? ⟨B, i, none⟩ = cs[i]? := by simp [World.cell?, h]
theorem set_far {w : World} {B g j : Nat} {u : Value} {o : Obj} (h : w.heap[B]? = some o) (hne : B ≠ g) : (w.setCell ⟨g, j, none⟩ u).heap[B]? = some o := by rw [Below.heap_setCell _ _ _ _ hne, h]
theorem wp_entry (w : World) {o : Oper} {a : Act} {K : Act → World → Prop} {Q : Exit → Act → World → Prop} (s x : Operand) (ho : o.op = Op.mapEntry 58 s x) {base g gO gI b n c m : Nat} {A : Option Addr} {val : Ix → Value} {row : Ix → List Int} {KK : List S53}
  (h : Mk w base g gO gI b n A c m val row KK) (e : S53) {l : Lit} (hk : keyOf Try.prog 53 (ke e) = some l) (hs : a.eval s = .map (some b)) (hx : a.eval x = .agg #[.int .i64 e.f0, .int .i64 e.f1])
  (hK : ∀ (w1 : World) (K' : List S53) (j : Nat), Mk w1 base g gO gI b n A c m val row K' → K'[j]? = some e → w.grownBy w1 (some b) → K (a.put o.dst (.tuple #[val (.b e), .int .i64 j])) w1) : o.wp Try.prog a w K Q := by
 obtain ⟨w1, K', j, hr, h1, h2, h3⟩ := h.entry e hk
 have hx' : a.eval x = ke e := hx
 unfold Oper.wp
 simp [execOp, ho, hs, hx', hr, Result.andThen]
 exact hK w1 K' j h1 h2 h3
theorem wp_estore (w : World) {o : Oper} {a : Act} {K : Act → World → Prop} {Q : Exit → Act → World → Prop} (s x y : Operand) (ho : o.op = Op.entryStore 58 s x y) {b j : Nat} {v' : Value} {w2 : World} (hr : (Instr.entryStore 58 (.map (some b)) (.int .i64 j) v').run Try.prog w = .ok () w2)
  (hs : a.eval s = .map (some b)) (hx : a.eval x = .int .i64 j) (hy : a.eval y = v') (hK : K (a.put o.dst undef) w2) : o.wp Try.prog a w K Q := by
 unfold Oper.wp
 simp [execOp, ho, hs, hx, hy, hr, Result.andThen]
 exact hK

theorem below_keepW {base : Nat} {w W X : World} (h : Below base w W) (hb : base ≤ W.heap.size) (hX : Below W.heap.size W X) : Below base w X :=
 ⟨hX.os.trans h.os, hX.tape.trans h.tape, hX.output.trans h.output, Nat.le_trans h.size hX.size, fun q hq => (hX.block q (by omega)).trans (h.block q hq)⟩
theorem gcell {w w' : World} {r : Option Nat} {p : Addr} (hg : w.grownBy w' r) (hp : p.block < w.heap.size) (hr : some p.block ≠ r) : w'.cell? p = w.cell? p := by
 have := hg.block p.block hp hr
 simp [World.cell?, this]
theorem own_form {w : World} {b e n : Nat} {v : Value} {xs : List Value} (h : w.ownsRow b e 1 v n xs) (hn : 0 < n) : ∃ g cap, v = .slice (some ⟨g, 0, none⟩) n cap := by
 rcases h.2 with ⟨_, rfl⟩ | ⟨g, cap, cur, rfl, _⟩
 ·omega
 ·exact ⟨g, cap, rfl⟩
theorem side_o {w W X w5 : World} {base g gO gI b n c m v B : Nat} {A : Option Addr} {val : Ix → Value} {row : Ix → List Int} {K : List S53} {v5 : Value} {j : Int} {cs : Array Value} (h : Mk W base g gO gI b n A c m val row K) (hbl : Below base w W) (hbs : base ≤ W.heap.size) (hgO : base ≤ gO) (hbox : W.heap[B]? = some (.cells cs 53 (0, 0)))
  (ho : w5.ownsRow base 3 1 v5 ((row (.o v)).length + 1) ((row (.o v)).map I ++ [I j])) (hg : X.grownBy w5 (val (.o v)).ownBlock) (ha : v5.ownBlock = (val (.o v)).ownBlock ∨ ∃ b, v5.ownBlock = some b ∧ X.heap.size ≤ b) (hv : v < n) (hX : Below W.heap.size W X) :
  (w5.cell? ⟨g, 1, none⟩ = some (.slice (some ⟨gO, 0, none⟩) n n) ∧ w5.heap[B]? = some (.cells cs 53 (0, 0)) ∧ w5.cell? ⟨gO, v, none⟩ = some (val (.o v)) ∧ w5.frozen? ⟨gO, v, none⟩ = false) ∧
  Mk (w5.setCell ⟨gO, v, none⟩ v5) base g gO gI b n A c m (updI val (.o v) v5) (updI row (.o v) (row (.o v) ++ [j])) K ∧ Below base w (w5.setCell ⟨gO, v, none⟩ v5) ∧ (w5.setCell ⟨gO, v, none⟩ v5).heap[B]? = some (.cells cs 53 (0, 0)) ∧ base ≤ (w5.setCell ⟨gO, v, none⟩ v5).heap.size := by
 have hm := h.below hX
 have hlB : B < W.heap.size := by
  rcases Nat.lt_or_ge B W.heap.size with q | q
  ·exact q
  ·rw [Array.getElem?_eq_none q] at hbox; cases hbox
 have hbX : X.heap[B]? = some (.cells cs 53 (0, 0)) := by rw [hX.block B hlB, hbox]
 have hb5 := hm.far (.o v) hg hbX (by decide)
 obtain ⟨s1, s2, s3, s4⟩ := hm.grow (.o v) hg
 have hst := s1.trans hm.st
 have hblX : Below base w X := ⟨hX.os.trans hbl.os, hX.tape.trans hbl.tape, hX.output.trans hbl.output, Nat.le_trans hbl.size hX.size, fun q hq => (hX.block q (by omega)).trans (hbl.block q hq)⟩
 have hb5l : Below base w w5 := hm.bl (.o v) hblX (Nat.le_trans hbs hX.size) hg
 obtain ⟨hl, co, hco⟩ := own_block s2
 refine ⟨⟨by rw [cell_of hst]; rfl, hb5, (s2.cellAt v (by omega)).trans (by simp [hv]), s2.frozenAt v⟩, hm.step_o hv ho hg ha, hb5l.setCell hgO _, set_far hb5 (cells_ne hb5 hco (by decide)), ?_⟩
 have : (w5.setCell ⟨gO, v, none⟩ v5).heap.size = w5.heap.size := by simp [World.setCell]
 rw [this]
 exact Nat.le_trans hbs (Nat.le_trans hX.size hg.size)
theorem side_i {w W X w5 : World} {base g gO gI b n c m v B : Nat} {A : Option Addr} {val : Ix → Value} {row : Ix → List Int} {K : List S53} {v5 : Value} {j : Int} {cs : Array Value} (h : Mk W base g gO gI b n A c m val row K) (hbl : Below base w W) (hbs : base ≤ W.heap.size) (hgO : base ≤ gI) (hbox : W.heap[B]? = some (.cells cs 53 (0, 0)))
  (ho : w5.ownsRow base 3 1 v5 ((row (.i v)).length + 1) ((row (.i v)).map I ++ [I j])) (hg : X.grownBy w5 (val (.i v)).ownBlock) (ha : v5.ownBlock = (val (.i v)).ownBlock ∨ ∃ b, v5.ownBlock = some b ∧ X.heap.size ≤ b) (hv : v < n) (hX : Below W.heap.size W X) :
  (w5.cell? ⟨g, 2, none⟩ = some (.slice (some ⟨gI, 0, none⟩) n n) ∧ w5.heap[B]? = some (.cells cs 53 (0, 0)) ∧ w5.cell? ⟨gI, v, none⟩ = some (val (.i v)) ∧ w5.frozen? ⟨gI, v, none⟩ = false) ∧
  Mk (w5.setCell ⟨gI, v, none⟩ v5) base g gO gI b n A c m (updI val (.i v) v5) (updI row (.i v) (row (.i v) ++ [j])) K ∧ Below base w (w5.setCell ⟨gI, v, none⟩ v5) ∧ (w5.setCell ⟨gI, v, none⟩ v5).heap[B]? = some (.cells cs 53 (0, 0)) ∧ base ≤ (w5.setCell ⟨gI, v, none⟩ v5).heap.size := by
 have hm := h.below hX
 have hlB : B < W.heap.size := by
  rcases Nat.lt_or_ge B W.heap.size with q | q
  ·exact q
  ·rw [Array.getElem?_eq_none q] at hbox; cases hbox
 have hbX : X.heap[B]? = some (.cells cs 53 (0, 0)) := by rw [hX.block B hlB, hbox]
 have hb5 := hm.far (.i v) hg hbX (by decide)
 obtain ⟨s1, s2, s3, s4⟩ := hm.grow (.i v) hg
 have hst := s1.trans hm.st
 have hblX : Below base w X := ⟨hX.os.trans hbl.os, hX.tape.trans hbl.tape, hX.output.trans hbl.output, Nat.le_trans hbl.size hX.size, fun q hq => (hX.block q (by omega)).trans (hbl.block q hq)⟩
 have hb5l : Below base w w5 := hm.bl (.i v) hblX (Nat.le_trans hbs hX.size) hg
 obtain ⟨hl, co, hco⟩ := own_block s3
 refine ⟨⟨by rw [cell_of hst]; rfl, hb5, (s3.cellAt v (by omega)).trans (by simp [hv]), s3.frozenAt v⟩, hm.step_i hv ho hg ha, hb5l.setCell hgO _, set_far hb5 (cells_ne hb5 hco (by decide)), ?_⟩
 have : (w5.setCell ⟨gI, v, none⟩ v5).heap.size = w5.heap.size := by simp [World.setCell]
 rw [this]
 exact Nat.le_trans hbs (Nat.le_trans hX.size hg.size)

set_option maxHeartbeats 8000000 in
theorem made_ok (n : Nat) (A : Option Addr) (c : Nat) (l : List S53) (w : World) (hr : Kd.C k53 w A l.length l) (hc : l.length ≤ c) (hf : Fits n l) :
  Calls Try.prog 37 #[.int .i64 n, .slice A l.length c] w fun e w' => ∃ g, e = .returned (.pointer (some ⟨g, 0, none⟩)) ∧ w.heap.size ≤ g ∧ IsG w' g n l ∧ Below w.heap.size w w' := by
 obtain ⟨i27, hi27, z27, s27, b27⟩ := info_parts info27
 have hn1 := hf.one
 have hn12 := hf.top
 have hl30 := hf.few
 have HR := Lib.hid hr
 have HF := Lib.hid hf
 clear hr hf
 go_enter Try.func37, Try.ntmps37
 go_wp2_with fail
 refine start_ (n := 9) (S := fun w' => True) (ds := []) #[false,false,false,false,false,false,false,false,false] (by kernel_rfl) rfl rfl trivial (fun hHeld => ?_)
 refine pure_ (i := 0) (N := some 8) (v := ?_) (a' := ?_) #[true,false,false,false,false,false,false,false,false] rfl rfl (by kernel_rfl) (fun _ _ _ h => h) (Or.inl ⟨by rfl, ?_⟩) ?_ ?_
 rotate_left
 ·intro w'
  go_simp
  with_reducible rfl
 rotate_left
 ·simp only [Act.put, List.setIfInBounds_toArray, List.set_cons_zero, List.set_cons_succ, i64_w, i32_w]
  rfl
 refine pure_ (i := 1) (N := some 9) (v := ?_) (a' := ?_) #[true,true,false,false,false,false,false,false,false] rfl rfl (by kernel_rfl) (fun _ _ _ h => h) (Or.inl ⟨by rfl, ?_⟩) ?_ ?_
 rotate_left
 ·intro w'
  go_simp
  with_reducible rfl
 rotate_left
 ·simp only [Act.put, List.setIfInBounds_toArray, List.set_cons_zero, List.set_cons_succ, i64_w, i32_w]
  rfl
 refine pure_ (i := 3) (N := some 11) (v := ?_) (a' := ?_) #[true,true,false,true,false,false,false,false,false] rfl rfl (by kernel_rfl) (fun _ _ _ h => h) (Or.inl ⟨by rfl, ?_⟩) ?_ ?_
 rotate_left
 ·intro w'
  go_simp
  with_reducible rfl
 rotate_left
 ·simp only [Act.put, List.setIfInBounds_toArray, List.set_cons_zero, List.set_cons_succ, i64_w, i32_w]
  rfl
 refine join_ (σ := Nat × Nat × Nat) 3 #[true,true,true,true,true,true,false,false,false] (fun s => [(10, .slice (some ⟨s.1, 0, none⟩) n n), (12, .slice (some ⟨s.2.1, 0, none⟩) n n), (13, .map (some s.2.2))]) (fun s w' => Begun w w' n s.1 s.2.1 s.2.2) ?_ ?_
 rotate_left
 ·intro hCont
  refine three_ (i := 2) (j := 4) (k := 5) (Ni := some 10) (Nj := some 12) (Nk := some 13) #[true,true,true,true,false,false,false,false,false] #[true,true,false,true,true,false,false,false,false] #[true,true,false,true,false,true,false,false,false] rfl rfl rfl rfl rfl rfl (by kernel_rfl) (by decide) (by decide) (by decide) (fun K hK => ?_) (fun K hK => ?_) (fun K hK => ?_)
  ·skip
   refine own_step (by rfl) ?_
   refine wp_make _ (.tmp 9) (.tmp 9) 57 rfl w.heap.size 27 i27 (.slice none 0 0) 1 Try.underlying57 hi27 z27 s27 .i64 .i64 n n n rfl rfl rfl rfl (by rw [b27]; omega) (by unfold maxLen; omega) (Nat.le_refl _) ?_
   intro B1 w1 hb1 hl1 hO1 hS1
   have hb1 : w.heap.size ≤ B1 := hb1
   have hS1 : Below w.heap.size w w1 := below_step (by repeat (first | exact Below.refl _ _ | apply below_drew1)) hS1
   have hz1 : w.heap.size ≤ w1.heap.size := Nat.le_trans (Nat.le_refl _) hS1.size
   refine hK.out _ _ trivial (fun hHeld => ?_)
   clear hK K
   refine norm_ (a' := ?_) ?_ ?_
   rotate_left
   ·show Act.put _ (some 10) _ = _
    simp only [Act.put, List.setIfInBounds_toArray, List.set_cons_zero, List.set_cons_succ, i64_w, i32_w]
    rfl
   refine two_ (i := 4) (j := 5) (Ni := some 12) (Nj := some 13) #[true,true,true,true,true,false,false,false,false] #[true,true,true,true,false,true,false,false,false] rfl rfl rfl rfl (by kernel_rfl) (by decide) (by decide) (fun K hK => ?_) (fun K hK => ?_)
   ·skip
    refine own_step (by rfl) ?_
    refine wp_make _ (.tmp 11) (.tmp 11) 57 rfl w.heap.size 27 i27 (.slice none 0 0) 1 Try.underlying57 hi27 z27 s27 .i64 .i64 n n n rfl rfl rfl rfl (by rw [b27]; omega) (by unfold maxLen; omega) hz1 ?_
    intro B2 w2 hb2 hl2 hO2 hS2
    have hb2 : w1.heap.size ≤ B2 := hb2
    have hS2 : Below w1.heap.size w1 w2 := below_step (by repeat (first | exact Below.refl _ _ | apply below_drew1)) hS2
    have hz2 : w.heap.size ≤ w2.heap.size := Nat.le_trans hz1 hS2.size
    refine hK.out _ _ trivial (fun hHeld => ?_)
    clear hK K
    refine norm_ (a' := ?_) ?_ ?_
    rotate_left
    ·show Act.put _ (some 12) _ = _
     simp only [Act.put, List.setIfInBounds_toArray, List.set_cons_zero, List.set_cons_succ, i64_w, i32_w]
     rfl
    refine one_ (i := 5) (N := some 13) #[true,true,true,true,true,true,false,false,false] rfl rfl (by kernel_rfl) (by decide) (fun K hK => ?_)
    refine own_step (by rfl) ?_
    refine wp_map _ rfl ?_
    intro B3 w3 hb3 hl3 hO3 hS3
    have hb3 : w2.heap.size ≤ B3 := hb3
    have hS3 : Below w2.heap.size w2 w3 := below_step (by repeat (first | exact Below.refl _ _ | apply below_drew1)) hS3
    have hz3 : w.heap.size ≤ w3.heap.size := Nat.le_trans hz2 hS3.size
    refine hK.out _ _ trivial (fun hHeld => ?_)
    clear hK K
    refine norm_ (a' := ?_) ?_ ?_
    rotate_left
    ·show Act.put _ (some 13) _ = _
     simp only [Act.put, List.setIfInBounds_toArray, List.set_cons_zero, List.set_cons_succ, i64_w, i32_w]
     rfl
    exact norm_ (by simp only [putAll, Act.put, List.setIfInBounds_toArray, List.set_cons_zero, List.set_cons_succ]) (hCont (B1, B2, B3) _ ⟨(below_step (below_step hS1 hS2) hS3), (own_below (own_below hO1 hS2) hS3), (own_below hO2 hS3), hO3, (by show B1 ≠ B2; have := hS1.size; have := hS2.size; have := hS3.size; omega), (by show w.heap.size ≤ B3; omega)⟩)
   ·skip
    refine own_step (by rfl) ?_
    refine wp_map _ rfl ?_
    intro B2 w2 hb2 hl2 hO2 hS2
    have hb2 : w1.heap.size ≤ B2 := hb2
    have hS2 : Below w1.heap.size w1 w2 := below_step (by repeat (first | exact Below.refl _ _ | apply below_drew1)) hS2
    have hz2 : w.heap.size ≤ w2.heap.size := Nat.le_trans hz1 hS2.size
    refine hK.out _ _ trivial (fun hHeld => ?_)
    clear hK K
    refine norm_ (a' := ?_) ?_ ?_
    rotate_left
    ·show Act.put _ (some 13) _ = _
     simp only [Act.put, List.setIfInBounds_toArray, List.set_cons_zero, List.set_cons_succ, i64_w, i32_w]
     rfl
    refine one_ (i := 4) (N := some 12) #[true,true,true,true,true,true,false,false,false] rfl rfl (by kernel_rfl) (by decide) (fun K hK => ?_)
    refine own_step (by rfl) ?_
    refine wp_make _ (.tmp 11) (.tmp 11) 57 rfl w.heap.size 27 i27 (.slice none 0 0) 1 Try.underlying57 hi27 z27 s27 .i64 .i64 n n n rfl rfl rfl rfl (by rw [b27]; omega) (by unfold maxLen; omega) hz2 ?_
    intro B3 w3 hb3 hl3 hO3 hS3
    have hb3 : w2.heap.size ≤ B3 := hb3
    have hS3 : Below w2.heap.size w2 w3 := below_step (by repeat (first | exact Below.refl _ _ | apply below_drew1)) hS3
    have hz3 : w.heap.size ≤ w3.heap.size := Nat.le_trans hz2 hS3.size
    refine hK.out _ _ trivial (fun hHeld => ?_)
    clear hK K
    refine norm_ (a' := ?_) ?_ ?_
    rotate_left
    ·show Act.put _ (some 12) _ = _
     simp only [Act.put, List.setIfInBounds_toArray, List.set_cons_zero, List.set_cons_succ, i64_w, i32_w]
     rfl
    exact norm_ (by simp only [putAll, Act.put, List.setIfInBounds_toArray, List.set_cons_zero, List.set_cons_succ]) (hCont (B1, B3, B2) _ ⟨(below_step (below_step hS1 hS2) hS3), (own_below (own_below hO1 hS2) hS3), hO3, (MapIs.below hO2 hS3), (by show B1 ≠ B3; have := hS1.size; have := hS2.size; have := hS3.size; omega), (by show w.heap.size ≤ B2; omega)⟩)
  ·skip
   refine own_step (by rfl) ?_
   refine wp_make _ (.tmp 11) (.tmp 11) 57 rfl w.heap.size 27 i27 (.slice none 0 0) 1 Try.underlying57 hi27 z27 s27 .i64 .i64 n n n rfl rfl rfl rfl (by rw [b27]; omega) (by unfold maxLen; omega) (Nat.le_refl _) ?_
   intro B1 w1 hb1 hl1 hO1 hS1
   have hb1 : w.heap.size ≤ B1 := hb1
   have hS1 : Below w.heap.size w w1 := below_step (by repeat (first | exact Below.refl _ _ | apply below_drew1)) hS1
   have hz1 : w.heap.size ≤ w1.heap.size := Nat.le_trans (Nat.le_refl _) hS1.size
   refine hK.out _ _ trivial (fun hHeld => ?_)
   clear hK K
   refine norm_ (a' := ?_) ?_ ?_
   rotate_left
   ·show Act.put _ (some 12) _ = _
    simp only [Act.put, List.setIfInBounds_toArray, List.set_cons_zero, List.set_cons_succ, i64_w, i32_w]
    rfl
   refine two_ (i := 2) (j := 5) (Ni := some 10) (Nj := some 13) #[true,true,true,true,true,false,false,false,false] #[true,true,false,true,true,true,false,false,false] rfl rfl rfl rfl (by kernel_rfl) (by decide) (by decide) (fun K hK => ?_) (fun K hK => ?_)
   ·skip
    refine own_step (by rfl) ?_
    refine wp_make _ (.tmp 9) (.tmp 9) 57 rfl w.heap.size 27 i27 (.slice none 0 0) 1 Try.underlying57 hi27 z27 s27 .i64 .i64 n n n rfl rfl rfl rfl (by rw [b27]; omega) (by unfold maxLen; omega) hz1 ?_
    intro B2 w2 hb2 hl2 hO2 hS2
    have hb2 : w1.heap.size ≤ B2 := hb2
    have hS2 : Below w1.heap.size w1 w2 := below_step (by repeat (first | exact Below.refl _ _ | apply below_drew1)) hS2
    have hz2 : w.heap.size ≤ w2.heap.size := Nat.le_trans hz1 hS2.size
    refine hK.out _ _ trivial (fun hHeld => ?_)
    clear hK K
    refine norm_ (a' := ?_) ?_ ?_
    rotate_left
    ·show Act.put _ (some 10) _ = _
     simp only [Act.put, List.setIfInBounds_toArray, List.set_cons_zero, List.set_cons_succ, i64_w, i32_w]
     rfl
    refine one_ (i := 5) (N := some 13) #[true,true,true,true,true,true,false,false,false] rfl rfl (by kernel_rfl) (by decide) (fun K hK => ?_)
    refine own_step (by rfl) ?_
    refine wp_map _ rfl ?_
    intro B3 w3 hb3 hl3 hO3 hS3
    have hb3 : w2.heap.size ≤ B3 := hb3
    have hS3 : Below w2.heap.size w2 w3 := below_step (by repeat (first | exact Below.refl _ _ | apply below_drew1)) hS3
    have hz3 : w.heap.size ≤ w3.heap.size := Nat.le_trans hz2 hS3.size
    refine hK.out _ _ trivial (fun hHeld => ?_)
    clear hK K
    refine norm_ (a' := ?_) ?_ ?_
    rotate_left
    ·show Act.put _ (some 13) _ = _
     simp only [Act.put, List.setIfInBounds_toArray, List.set_cons_zero, List.set_cons_succ, i64_w, i32_w]
     rfl
    exact norm_ (by simp only [putAll, Act.put, List.setIfInBounds_toArray, List.set_cons_zero, List.set_cons_succ]) (hCont (B2, B1, B3) _ ⟨(below_step (below_step hS1 hS2) hS3), (own_below hO2 hS3), (own_below (own_below hO1 hS2) hS3), hO3, (by show B2 ≠ B1; have := hS1.size; have := hS2.size; have := hS3.size; omega), (by show w.heap.size ≤ B3; omega)⟩)
   ·skip
    refine own_step (by rfl) ?_
    refine wp_map _ rfl ?_
    intro B2 w2 hb2 hl2 hO2 hS2
    have hb2 : w1.heap.size ≤ B2 := hb2
    have hS2 : Below w1.heap.size w1 w2 := below_step (by repeat (first | exact Below.refl _ _ | apply below_drew1)) hS2
    have hz2 : w.heap.size ≤ w2.heap.size := Nat.le_trans hz1 hS2.size
    refine hK.out _ _ trivial (fun hHeld => ?_)
    clear hK K
    refine norm_ (a' := ?_) ?_ ?_
    rotate_left
    ·show Act.put _ (some 13) _ = _
     simp only [Act.put, List.setIfInBounds_toArray, List.set_cons_zero, List.set_cons_succ, i64_w, i32_w]
     rfl
    refine one_ (i := 2) (N := some 10) #[true,true,true,true,true,true,false,false,false] rfl rfl (by kernel_rfl) (by decide) (fun K hK => ?_)
    refine own_step (by rfl) ?_
    refine wp_make _ (.tmp 9) (.tmp 9) 57 rfl w.heap.size 27 i27 (.slice none 0 0) 1 Try.underlying57 hi27 z27 s27 .i64 .i64 n n n rfl rfl rfl rfl (by rw [b27]; omega) (by unfold maxLen; omega) hz2 ?_
    intro B3 w3 hb3 hl3 hO3 hS3
    have hb3 : w2.heap.size ≤ B3 := hb3
    have hS3 : Below w2.heap.size w2 w3 := below_step (by repeat (first | exact Below.refl _ _ | apply below_drew1)) hS3
    have hz3 : w.heap.size ≤ w3.heap.size := Nat.le_trans hz2 hS3.size
    refine hK.out _ _ trivial (fun hHeld => ?_)
    clear hK K
    refine norm_ (a' := ?_) ?_ ?_
    rotate_left
    ·show Act.put _ (some 10) _ = _
     simp only [Act.put, List.setIfInBounds_toArray, List.set_cons_zero, List.set_cons_succ, i64_w, i32_w]
     rfl
    exact norm_ (by simp only [putAll, Act.put, List.setIfInBounds_toArray, List.set_cons_zero, List.set_cons_succ]) (hCont (B3, B1, B2) _ ⟨(below_step (below_step hS1 hS2) hS3), hO3, (own_below (own_below hO1 hS2) hS3), (MapIs.below hO2 hS3), (by show B3 ≠ B1; have := hS1.size; have := hS2.size; have := hS3.size; omega), (by show w.heap.size ≤ B2; omega)⟩)
  ·skip
   refine own_step (by rfl) ?_
   refine wp_map _ rfl ?_
   intro B1 w1 hb1 hl1 hO1 hS1
   have hb1 : w.heap.size ≤ B1 := hb1
   have hS1 : Below w.heap.size w w1 := below_step (by repeat (first | exact Below.refl _ _ | apply below_drew1)) hS1
   have hz1 : w.heap.size ≤ w1.heap.size := Nat.le_trans (Nat.le_refl _) hS1.size
   refine hK.out _ _ trivial (fun hHeld => ?_)
   clear hK K
   refine norm_ (a' := ?_) ?_ ?_
   rotate_left
   ·show Act.put _ (some 13) _ = _
    simp only [Act.put, List.setIfInBounds_toArray, List.set_cons_zero, List.set_cons_succ, i64_w, i32_w]
    rfl
   refine two_ (i := 2) (j := 4) (Ni := some 10) (Nj := some 12) #[true,true,true,true,false,true,false,false,false] #[true,true,false,true,true,true,false,false,false] rfl rfl rfl rfl (by kernel_rfl) (by decide) (by decide) (fun K hK => ?_) (fun K hK => ?_)
   ·skip
    refine own_step (by rfl) ?_
    refine wp_make _ (.tmp 9) (.tmp 9) 57 rfl w.heap.size 27 i27 (.slice none 0 0) 1 Try.underlying57 hi27 z27 s27 .i64 .i64 n n n rfl rfl rfl rfl (by rw [b27]; omega) (by unfold maxLen; omega) hz1 ?_
    intro B2 w2 hb2 hl2 hO2 hS2
    have hb2 : w1.heap.size ≤ B2 := hb2
    have hS2 : Below w1.heap.size w1 w2 := below_step (by repeat (first | exact Below.refl _ _ | apply below_drew1)) hS2
    have hz2 : w.heap.size ≤ w2.heap.size := Nat.le_trans hz1 hS2.size
    refine hK.out _ _ trivial (fun hHeld => ?_)
    clear hK K
    refine norm_ (a' := ?_) ?_ ?_
    rotate_left
    ·show Act.put _ (some 10) _ = _
     simp only [Act.put, List.setIfInBounds_toArray, List.set_cons_zero, List.set_cons_succ, i64_w, i32_w]
     rfl
    refine one_ (i := 4) (N := some 12) #[true,true,true,true,true,true,false,false,false] rfl rfl (by kernel_rfl) (by decide) (fun K hK => ?_)
    refine own_step (by rfl) ?_
    refine wp_make _ (.tmp 11) (.tmp 11) 57 rfl w.heap.size 27 i27 (.slice none 0 0) 1 Try.underlying57 hi27 z27 s27 .i64 .i64 n n n rfl rfl rfl rfl (by rw [b27]; omega) (by unfold maxLen; omega) hz2 ?_
    intro B3 w3 hb3 hl3 hO3 hS3
    have hb3 : w2.heap.size ≤ B3 := hb3
    have hS3 : Below w2.heap.size w2 w3 := below_step (by repeat (first | exact Below.refl _ _ | apply below_drew1)) hS3
    have hz3 : w.heap.size ≤ w3.heap.size := Nat.le_trans hz2 hS3.size
    refine hK.out _ _ trivial (fun hHeld => ?_)
    clear hK K
    refine norm_ (a' := ?_) ?_ ?_
    rotate_left
    ·show Act.put _ (some 12) _ = _
     simp only [Act.put, List.setIfInBounds_toArray, List.set_cons_zero, List.set_cons_succ, i64_w, i32_w]
     rfl
    exact norm_ (by simp only [putAll, Act.put, List.setIfInBounds_toArray, List.set_cons_zero, List.set_cons_succ]) (hCont (B2, B3, B1) _ ⟨(below_step (below_step hS1 hS2) hS3), (own_below hO2 hS3), hO3, (MapIs.below (MapIs.below hO1 hS2) hS3), (by show B2 ≠ B3; have := hS1.size; have := hS2.size; have := hS3.size; omega), (by show w.heap.size ≤ B1; omega)⟩)
   ·skip
    refine own_step (by rfl) ?_
    refine wp_make _ (.tmp 11) (.tmp 11) 57 rfl w.heap.size 27 i27 (.slice none 0 0) 1 Try.underlying57 hi27 z27 s27 .i64 .i64 n n n rfl rfl rfl rfl (by rw [b27]; omega) (by unfold maxLen; omega) hz1 ?_
    intro B2 w2 hb2 hl2 hO2 hS2
    have hb2 : w1.heap.size ≤ B2 := hb2
    have hS2 : Below w1.heap.size w1 w2 := below_step (by repeat (first | exact Below.refl _ _ | apply below_drew1)) hS2
    have hz2 : w.heap.size ≤ w2.heap.size := Nat.le_trans hz1 hS2.size
    refine hK.out _ _ trivial (fun hHeld => ?_)
    clear hK K
    refine norm_ (a' := ?_) ?_ ?_
    rotate_left
    ·show Act.put _ (some 12) _ = _
     simp only [Act.put, List.setIfInBounds_toArray, List.set_cons_zero, List.set_cons_succ, i64_w, i32_w]
     rfl
    refine one_ (i := 2) (N := some 10) #[true,true,true,true,true,true,false,false,false] rfl rfl (by kernel_rfl) (by decide) (fun K hK => ?_)
    refine own_step (by rfl) ?_
    refine wp_make _ (.tmp 9) (.tmp 9) 57 rfl w.heap.size 27 i27 (.slice none 0 0) 1 Try.underlying57 hi27 z27 s27 .i64 .i64 n n n rfl rfl rfl rfl (by rw [b27]; omega) (by unfold maxLen; omega) hz2 ?_
    intro B3 w3 hb3 hl3 hO3 hS3
    have hb3 : w2.heap.size ≤ B3 := hb3
    have hS3 : Below w2.heap.size w2 w3 := below_step (by repeat (first | exact Below.refl _ _ | apply below_drew1)) hS3
    have hz3 : w.heap.size ≤ w3.heap.size := Nat.le_trans hz2 hS3.size
    refine hK.out _ _ trivial (fun hHeld => ?_)
    clear hK K
    refine norm_ (a' := ?_) ?_ ?_
    rotate_left
    ·show Act.put _ (some 10) _ = _
     simp only [Act.put, List.setIfInBounds_toArray, List.set_cons_zero, List.set_cons_succ, i64_w, i32_w]
     rfl
    exact norm_ (by simp only [putAll, Act.put, List.setIfInBounds_toArray, List.set_cons_zero, List.set_cons_succ]) (hCont (B3, B2, B1) _ ⟨(below_step (below_step hS1 hS2) hS3), hO3, (own_below hO2 hS3), (MapIs.below (MapIs.below hO1 hS2) hS3), (by show B3 ≠ B2; have := hS1.size; have := hS2.size; have := hS3.size; omega), (by show w.heap.size ≤ B1; omega)⟩)
 rintro ⟨gO, gI, b⟩ w3 hF
 have hHeld : True := trivial
 have hsz : w.heap.size ≤ w3.heap.size := hF.bl.size
 refine norm_ (a' := ?_) ?_ ?_
 rotate_left
 ·simp only [putAll, Act.put, List.setIfInBounds_toArray, List.set_cons_zero, List.set_cons_succ]
  rfl
 refine pure_ (i := 6) (N := some 14) (v := ?_) (a' := ?_) #[true,true,true,true,true,true,true,false,false] rfl rfl (by kernel_rfl) (fun _ _ _ h => h) (Or.inl ⟨by rfl, ?_⟩) ?_ ?_
 rotate_left
 ·intro w'
  go_simp
  with_reducible rfl
 rotate_left
 ·simp only [Act.put, List.setIfInBounds_toArray, List.set_cons_zero, List.set_cons_succ, i64_w, i32_w]
  rfl
 refine one_ (i := 7) (N := some 15) #[true,true,true,true,true,true,true,true,false] rfl rfl (by kernel_rfl) (by decide) (fun K hK => ?_)
 refine value_ (w1 := ?_) (v := ?_) (by rfl) rfl ?_ ?_
 rotate_left 2
 ·go_simp
  constructor
  ·rfl
  ·rfl
 refine hK.out _ _ trivial (fun hHeld => ?_)
 clear hK K
 refine norm_ (a' := ?_) ?_ ?_
 rotate_left
 ·show Act.put _ (some 15) _ = _
  simp only [Act.put, List.setIfInBounds_toArray, List.set_cons_zero, List.set_cons_succ, i64_w, i32_w]
  rfl
 refine pure_ (i := 8) (N := some 5) (v := ?_) (a' := ?_) #[true,true,true,true,true,true,true,true,true] rfl rfl (by kernel_rfl) (fun _ _ _ h => h) (Or.inl ⟨by rfl, ?_⟩) ?_ ?_
 rotate_left
 ·intro w'
  go_simp
  with_reducible rfl
 rotate_left
 ·simp only [Act.put, List.setIfInBounds_toArray, List.set_cons_zero, List.set_cons_succ, i64_w, i32_w]
  rfl
 refine done_ (by kernel_rfl) ?_
 have HBG := Lib.hid hF
 clear hF hHeld
 go_wp2_with fail
 have hbg := HBG.out
 have hst : (w3.alloc (Obj.cells #[.slice A l.length c, .slice (some ⟨gO, 0, none⟩) n n, .slice (some ⟨gI, 0, none⟩) n n, .map (some b)] 60)).heap[w3.heap.size]? = some (.cells #[.slice A l.length c, .slice (some ⟨gO, 0, none⟩) n n, .slice (some ⟨gI, 0, none⟩) n n, .map (some b)] 60 (0, 0)) := by
  show (w3.heap.push _)[w3.heap.size]? = _
  simp
 have hb3 : Below w3.heap.size w3 (w3.alloc (Obj.cells #[.slice A l.length c, .slice (some ⟨gO, 0, none⟩) n n, .slice (some ⟨gI, 0, none⟩) n n, .map (some b)] 60)) := (Below.refl _ _).alloc (Nat.le_refl _) _
 have hbW := below_step hbg.bl hb3
 have hnil : (madeCells (Value.slice none 0 0).cells (n * 1)).toList = (List.range n).map (fun _ => Value.slice none 0 0) := by
  rw [show (Value.slice none 0 0).cells = #[Value.slice none 0 0] from rfl, toList_madeCells_one, Nat.mul_one]
  apply List.ext_getElem <;> simp
 have hmk : Mk (w3.alloc (Obj.cells #[.slice A l.length c, .slice (some ⟨gO, 0, none⟩) n n, .slice (some ⟨gI, 0, none⟩) n n, .map (some b)] 60)) w.heap.size w3.heap.size gO gI b n A c l.length (fun _ => .slice none 0 0) (rw_ (l.take 0)) [] :=
  ⟨hst, by have := own_below hbg.oo hb3; rw [hnil] at this; exact this, by have := own_below hbg.ii hb3; rw [hnil] at this; exact this, hbg.mp.below hb3, ⟨fun x => ⟨rfl, Or.inl ⟨rfl, rfl⟩⟩, fun x y _ => Or.inl rfl⟩, fun e _ => rfl, hbg.ne⟩
 generalize hW0 : w3.alloc (Obj.cells #[.slice A l.length c, .slice (some ⟨gO, 0, none⟩) n n, .slice (some ⟨gI, 0, none⟩) n n, .map (some b)] 60) = W0 at hst hb3 hbW hmk ⊢
 obtain ⟨g, hg⟩ : ∃ g, g = w3.heap.size := ⟨_, rfl⟩
 rw [← hg] at hmk ⊢
 have hgb : w.heap.size ≤ g := by omega
 have hgO : w.heap.size ≤ gO := own_ge hbg.oo rfl
 have hgI : w.heap.size ≤ gI := own_ge hbg.ii rfl
 have hgB := hbg.le
 have HMK := Lib.hid hmk
 have HBW := Lib.hid hbW
 clear hst hb3 hbW hmk hW0 hbg hg hnil
 go_loopw [18] (fun v18 wr => ∃ (i : Nat) (val : Ix → Value) (K : List S53), i ≤ l.length ∧ v18 = .int .i64 i ∧ Mk wr w.heap.size g gO gI b n A c l.length val (rw_ (l.take i)) K ∧ Below w.heap.size w wr) (fun v18 _ => l.length - (intOf v18).toNat)
 case atStart => exact ⟨0, _, _, Nat.zero_le _, rfl, HMK.out, HBW.out⟩
 case round =>
  obtain ⟨i, val, K, hi, rfl, hm, hb⟩ := hrel
  by_cases hlt : i < l.length
  ·obtain ⟨ad, rfl, c1, c2⟩ := edge_at HR.out hlt
   have q1 := (hb.cell (World.block_lt_of_cell? w _ c1)).trans c1
   have q2 := (hb.cell (World.block_lt_of_cell? w _ c2)).trans c2
   have hfe := HF.out.fit l[i] (List.getElem_mem hlt)
   obtain ⟨v, hv⟩ := Int.eq_ofNat_of_zero_le hfe.1
   obtain ⟨u, hu⟩ := Int.eq_ofNat_of_zero_le hfe.2.2.1
   rw [hv] at q1
   rw [hu] at q2
   have hvn : v < n := by omega
   have hun : u < n := by omega
   have hrl : ∀ x, (rw_ (l.take i) x).length ≤ 100 := fun x => by
    unfold rw_ idxs
    rw [List.length_map]
    refine Nat.le_trans (List.length_filter_le _ _) ?_
    rw [List.length_range, List.length_take]
    omega
   have HV := Lib.hid hv
   have HU := Lib.hid hu
   have HM := Lib.hid hm
   have HB := Lib.hid hb
   clear hm hb c1 c2 hfe hv hu
   go_wp2_with fail
   have hb4 := Lib.hid (show Below w.heap.size w (wr.alloc (Obj.cells #[Value.int IntKind.i64 ↑v, Value.int IntKind.i64 ↑u] 53)) from HB.out.alloc HB.out.size _)
   have hm4 := Lib.hid (HM.out.below ((Below.refl wr.heap.size wr).alloc (Nat.le_refl _) (Obj.cells #[Value.int IntKind.i64 ↑v, Value.int IntKind.i64 ↑u] 53)))
   have hbx : (wr.alloc (Obj.cells #[Value.int IntKind.i64 ↑v, Value.int IntKind.i64 ↑u] 53)).heap[wr.heap.size]? = some (.cells #[Value.int IntKind.i64 ↑v, Value.int IntKind.i64 ↑u] 53 (0, 0)) := by
    show (wr.heap.push _)[wr.heap.size]? = _
    simp
   have hz4 : w.heap.size ≤ (wr.alloc (Obj.cells #[Value.int IntKind.i64 ↑v, Value.int IntKind.i64 ↑u] 53)).heap.size := by have := HB.out.size; simp; omega
   generalize wr.alloc (Obj.cells #[Value.int IntKind.i64 ↑v, Value.int IntKind.i64 ↑u] 53) = W4 at hb4 hm4 hbx hz4 ⊢
   obtain ⟨B, hBe⟩ : ∃ B, B = wr.heap.size := ⟨_, rfl⟩
   rw [← hBe] at hbx ⊢
   clear hBe HM HB q1 q2
   have HBX := Lib.hid hbx
   have p1 : W4.cell? ⟨g, 1, none⟩ = some (.slice (some ⟨gO, 0, none⟩) n n) := by rw [cell_of hm4.out.st]; rfl
   have p2 : W4.cell? ⟨B, 0, none⟩ = some (.int .i64 (v : Int)) := by rw [cell_of hbx]; rfl
   have p3 : W4.cell? ⟨gO, v, none⟩ = some (val (.o v)) := (hm4.out.oo.cellAt v (by omega)).trans (by simp [hvn])
   have l1 := World.block_lt_of_cell? W4 _ p1
   have l2 := World.block_lt_of_cell? W4 _ p2
   have l3 := World.block_lt_of_cell? W4 _ p3
   have HV0 := Lib.hid (show ∃ V0, V0 = val (.o v) from ⟨_, rfl⟩)
   clear hbx
   refine start_ (n := 19) (S := fun w' => w'.cell? ⟨g, 1, none⟩ = some (.slice (some ⟨gO, 0, none⟩) n n) ∧ w'.cell? ⟨B, 0, none⟩ = some (.int .i64 (v : Int)) ∧ w'.cell? ⟨gO, v, none⟩ = some (val (.o v))) (ds := [18]) #[false,false,false,false,false,false,false,false,false,false,false,false,false,false,false,false,false,false,false] (by kernel_rfl) rfl rfl ⟨p1, p2, p3⟩ (fun hHeld => ?_)
   refine pure_ (i := 0) (N := some 23) (v := ?_) (a' := ?_) #[true,false,false,false,false,false,false,false,false,false,false,false,false,false,false,false,false,false,false] rfl rfl (by kernel_rfl) (fun _ _ _ h => h) (Or.inl ⟨by rfl, ?_⟩) ?_ ?_
   rotate_left
   ·intro w'
    go_simp
    with_reducible rfl
   rotate_left
   ·simp only [Act.put, List.setIfInBounds_toArray, List.set_cons_zero, List.set_cons_succ, i64_w, i32_w]
    rfl
   refine pure_ (i := 1) (N := some 24) (v := ?_) (a' := ?_) #[true,true,false,false,false,false,false,false,false,false,false,false,false,false,false,false,false,false,false] rfl rfl (by kernel_rfl) (fun _ _ _ h => h) (Or.inl ⟨by rfl, ?_⟩) ?_ ?_
   rotate_left
   ·intro w'
    go_simp
    with_reducible rfl
   rotate_left
   ·simp only [Act.put, List.setIfInBounds_toArray, List.set_cons_zero, List.set_cons_succ, i64_w, i32_w]
    rfl
   refine pure_ (i := 2) (N := some 25) (v := ?_) (a' := ?_) #[true,true,true,false,false,false,false,false,false,false,false,false,false,false,false,false,false,false,false] rfl rfl (by kernel_rfl) (fun _ _ _ h => h) (Or.inl ⟨by rfl, ?_⟩) ?_ ?_
   rotate_left
   ·intro w'
    go_simp
    with_reducible rfl
   rotate_left
   ·simp only [Act.put, List.setIfInBounds_toArray, List.set_cons_zero, List.set_cons_succ, i64_w, i32_w]
    rfl
   refine pure_ (i := 4) (N := some 27) (v := ?_) (a' := ?_) #[true,true,true,false,true,false,false,false,false,false,false,false,false,false,false,false,false,false,false] rfl rfl (by kernel_rfl) (fun _ _ _ h => h) (Or.inl ⟨by rfl, ?_⟩) ?_ ?_
   rotate_left
   ·intro w'
    go_simp
    with_reducible rfl
   rotate_left
   ·simp only [Act.put, List.setIfInBounds_toArray, List.set_cons_zero, List.set_cons_succ, i64_w, i32_w]
    rfl
   refine pure_ (i := 6) (N := some 29) (v := ?_) (a' := ?_) #[true,true,true,false,true,false,true,false,false,false,false,false,false,false,false,false,false,false,false] rfl rfl (by kernel_rfl) (fun _ _ _ h => h) (Or.inl ⟨by rfl, ?_⟩) ?_ ?_
   rotate_left
   ·intro w'
    go_simp
    with_reducible rfl
   rotate_left
   ·simp only [Act.put, List.setIfInBounds_toArray, List.set_cons_zero, List.set_cons_succ, i64_w, i32_w]
    rfl
   refine pure_ (i := 7) (N := some 30) (v := ?_) (a' := ?_) #[true,true,true,false,true,false,true,true,false,false,false,false,false,false,false,false,false,false,false] rfl rfl (by kernel_rfl) (fun _ _ _ h => h) (Or.inl ⟨by rfl, ?_⟩) ?_ ?_
   rotate_left
   ·intro w'
    go_simp
    with_reducible rfl
   rotate_left
   ·simp only [Act.put, List.setIfInBounds_toArray, List.set_cons_zero, List.set_cons_succ, i64_w, i32_w]
    rfl
   refine pure_ (i := 8) (N := some 31) (v := ?_) (a' := ?_) #[true,true,true,false,true,false,true,true,true,false,false,false,false,false,false,false,false,false,false] rfl rfl (by kernel_rfl) (fun _ _ _ h => h) (Or.inl ⟨by rfl, ?_⟩) ?_ ?_
   rotate_left
   ·intro w'
    go_simp
    with_reducible rfl
   rotate_left
   ·simp only [Act.put, List.setIfInBounds_toArray, List.set_cons_zero, List.set_cons_succ, i64_w, i32_w]
    rfl
   refine pure_ (i := 10) (N := some 33) (v := ?_) (a' := ?_) #[true,true,true,false,true,false,true,true,true,false,true,false,false,false,false,false,false,false,false] rfl rfl (by kernel_rfl) (fun _ _ _ h => h) (Or.inl ⟨by rfl, ?_⟩) ?_ ?_
   rotate_left
   ·intro w'
    go_simp
    with_reducible rfl
   rotate_left
   ·simp only [Act.put, List.setIfInBounds_toArray, List.set_cons_zero, List.set_cons_succ, i64_w, i32_w]
    rfl
   refine pure_ (i := 14) (N := some 37) (v := ?_) (a' := ?_) #[true,true,true,false,true,false,true,true,true,false,true,false,false,false,true,false,false,false,false] rfl rfl (by kernel_rfl) (fun _ _ _ h => h) (Or.inl ⟨by rfl, ?_⟩) ?_ ?_
   rotate_left
   ·intro w'
    go_simp
    with_reducible rfl
   rotate_left
   ·simp only [Act.put, List.setIfInBounds_toArray, List.set_cons_zero, List.set_cons_succ, i64_w, i32_w]
    rfl
   refine take_ (i := 3) (N := some 26) (v := ?_) (a' := ?_) #[true,true,true,true,true,false,true,true,true,false,true,false,false,false,true,false,false,false,false] rfl rfl (by kernel_rfl) (fun _ _ _ h => h) (Or.inl ⟨by rfl, ?_⟩) hHeld ?_ ?_
   rotate_left
   ·rintro w' ⟨s0, s1, s2⟩
    go_simp
    with_reducible rfl
   rotate_left
   ·simp only [Act.put, List.setIfInBounds_toArray, List.set_cons_zero, List.set_cons_succ, i64_w, i32_w]
    rfl
   refine take_ (i := 5) (N := some 28) (v := ?_) (a' := ?_) #[true,true,true,true,true,true,true,true,true,false,true,false,false,false,true,false,false,false,false] rfl rfl (by kernel_rfl) (fun _ _ _ h => h) (Or.inl ⟨by rfl, ?_⟩) hHeld ?_ ?_
   rotate_left
   ·rintro w' ⟨s0, s1, s2⟩
    go_simp
    with_reducible rfl
   rotate_left
   ·simp only [Act.put, List.setIfInBounds_toArray, List.set_cons_zero, List.set_cons_succ, i64_w, i32_w]
    rfl
   refine take_ (i := 9) (N := some 32) (v := ?_) (a' := ?_) #[true,true,true,true,true,true,true,true,true,true,true,false,false,false,true,false,false,false,false] rfl rfl (by kernel_rfl) (fun _ _ _ h => h) (Or.inl ⟨by rfl, ?_⟩) hHeld ?_ ?_
   rotate_left
   ·rintro w' ⟨s0, s1, s2⟩
    go_simp
    with_reducible rfl
   rotate_left
   ·simp only [Act.put, List.setIfInBounds_toArray, List.set_cons_zero, List.set_cons_succ, i64_w, i32_w]
    rfl
   refine take_ (i := 11) (N := some 34) (v := ?_) (a' := ?_) #[true,true,true,true,true,true,true,true,true,true,true,true,false,false,true,false,false,false,false] rfl rfl (by kernel_rfl) (fun _ _ _ h => h) (Or.inl ⟨by rfl, ?_⟩) hHeld ?_ ?_
   rotate_left
   ·rintro w' ⟨s0, s1, s2⟩
    go_simp
    with_reducible rfl
   rotate_left
   ·simp only [Act.put, List.setIfInBounds_toArray, List.set_cons_zero, List.set_cons_succ, i64_w, i32_w]
    rfl
   refine pure_ (i := 12) (N := some 35) (v := ?_) (a' := ?_) #[true,true,true,true,true,true,true,true,true,true,true,true,true,false,true,false,false,false,false] rfl rfl (by kernel_rfl) (fun _ _ _ h => h) (Or.inl ⟨by rfl, ?_⟩) ?_ ?_
   rotate_left
   ·intro w'
    go_simp
    with_reducible rfl
   rotate_left
   ·simp only [Act.put, List.setIfInBounds_toArray, List.set_cons_zero, List.set_cons_succ, i64_w, i32_w]
    rfl
   refine take_ (i := 13) (N := some 36) (v := ?_) (a' := ?_) #[true,true,true,true,true,true,true,true,true,true,true,true,true,true,true,false,false,false,false] rfl rfl (by kernel_rfl) (fun _ _ _ h => h) (Or.inl ⟨by rfl, ?_⟩) hHeld ?_ ?_
   rotate_left
   ·rintro w' ⟨s0, s1, s2⟩
    go_simp
    with_reducible rfl
   rotate_left
   ·simp only [Act.put, List.setIfInBounds_toArray, List.set_cons_zero, List.set_cons_succ, i64_w, i32_w]
    rfl
   refine one_ (i := 15) (N := some 38) #[true,true,true,true,true,true,true,true,true,true,true,true,true,true,true,true,false,false,false] rfl rfl (by kernel_rfl) (by decide) (fun K hK => ?_)
   refine value_ (w1 := ?_) (v := ?_) (by rfl) rfl ?_ ?_
   rotate_left 2
   ·go_simp
    constructor
    ·rfl
    ·rfl
   refine hK.out _ _ ⟨(by go_simp), (by go_simp), (by go_simp)⟩ (fun hHeld => ?_)
   clear hK K
   refine norm_ (a' := ?_) ?_ ?_
   rotate_left
   ·show Act.put _ (some 38) _ = _
    simp only [Act.put, List.setIfInBounds_toArray, List.set_cons_zero, List.set_cons_succ, i64_w, i32_w]
    rfl
   refine one_ (i := 16) (N := some 39) #[true,true,true,true,true,true,true,true,true,true,true,true,true,true,true,true,true,false,false] rfl rfl (by kernel_rfl) (by decide) (fun K hK => ?_)
   refine own_step (by rfl) ?_
   refine wp_app1 _ (.tmp 36) (.tmp 38) rfl w.heap.size (val (.o v)) (rw_ (l.take i) (.o v)) rfl ((hm4.out.below (by repeat (first | exact Below.refl _ _ | apply below_drew1 | apply below_alloc))).sep.own (.o v)) W4.heap.size rfl (i : Int) (by go_simp) (Nat.le_trans (hrl _) (by decide)) (by simp; omega) ?_
   intro v5 w5 ho5 hg5 ha5
   obtain ⟨gm5, cm5, rfl⟩ := own_form ho5 (by omega)
   obtain ⟨⟨c51, c52, c53, c54⟩, hm5, hb5, hx5, hz5⟩ := side_o hm4.out hb4.out hz4 hgO HBX.out ho5 hg5 ha5 hvn (by repeat (first | exact Below.refl _ _ | apply below_drew1 | apply below_alloc))
   clear ho5 hg5 ha5
   have c55 : w5.cell? ⟨B, 0, none⟩ = some (.int .i64 (v : Int)) := by rw [cell_of c52]; rfl
   refine hK.out _ _ ⟨c51, c55, c53⟩ (fun hHeld => ?_)
   clear hK K
   refine norm_ (a' := ?_) ?_ ?_
   rotate_left
   ·show Act.put _ (some 39) _ = _
    simp only [Act.put, List.setIfInBounds_toArray, List.set_cons_zero, List.set_cons_succ, i64_w, i32_w]
    rfl
   refine pure_ (i := 17) (N := some 40) (v := ?_) (a' := ?_) #[true,true,true,true,true,true,true,true,true,true,true,true,true,true,true,true,true,true,false] rfl rfl (by kernel_rfl) (fun _ _ _ h => h) (Or.inl ⟨by rfl, ?_⟩) ?_ ?_
   rotate_left
   ·intro w'
    go_simp
    with_reducible rfl
   rotate_left
   ·simp only [Act.put, List.setIfInBounds_toArray, List.set_cons_zero, List.set_cons_succ, i64_w, i32_w]
    rfl
   refine last_ (i := 18) (N := none) #[true,true,true,true,true,true,true,true,true,true,true,true,true,true,true,true,true,true,true] rfl rfl (by kernel_rfl) (by decide) (fun K hK => ?_)
   refine skip_ (w1 := ?_) (by rfl) rfl ?_ ?_
   rotate_left
   ·go_simp
    rfl
   refine hK.out _ _ ?_
   clear hK K
   refine done_ (by kernel_rfl) ?_
   have HB5 := Lib.hid hb5
   have HM5 := Lib.hid hm5
   have HX5 := Lib.hid hx5
   clear hb5 hm5 hx5 c51 c52 c53 c54 c55 p1 p2 p3 l1 l2 l3
   generalize w5.setCell ⟨gO, v, none⟩ (.slice (some ⟨gm5, 0, none⟩) ((rw_ (l.take i) (.o v)).length + 1) cm5) = W5 at HB5 HM5 HX5 hz5 ⊢
   generalize updI val (.o v) _ = val5 at HM5
   generalize hr5 : updI (rw_ (l.take i)) (.o v) _ = row5 at HM5
   have hrl5 : ∀ x, (row5 x).length ≤ 1000 := fun x => by
    rw [← hr5]
    unfold updI
    split
    ·have := hrl (.o v); simp; omega
    ·have := hrl x; omega
   have HR5 := Lib.hid hr5
   clear hr5
   go_wp2_with fail
   have p1 : W5.cell? ⟨g, 2, none⟩ = some (.slice (some ⟨gI, 0, none⟩) n n) := by rw [cell_of HM5.out.st]; rfl
   have p2 : W5.cell? ⟨B, 1, none⟩ = some (.int .i64 (u : Int)) := by rw [cell_of HX5.out]; rfl
   have p3 : W5.cell? ⟨gI, u, none⟩ = some (val5 (.i u)) := (HM5.out.ii.cellAt u (by omega)).trans (by simp [hun])
   have l1 := World.block_lt_of_cell? W5 _ p1
   have l2 := World.block_lt_of_cell? W5 _ p2
   have l3 := World.block_lt_of_cell? W5 _ p3
   refine start_ (n := 19) (S := fun w' => w'.cell? ⟨g, 2, none⟩ = some (.slice (some ⟨gI, 0, none⟩) n n) ∧ w'.cell? ⟨B, 1, none⟩ = some (.int .i64 (u : Int)) ∧ w'.cell? ⟨gI, u, none⟩ = some (val5 (.i u))) (ds := [18]) #[false,false,false,false,false,false,false,false,false,false,false,false,false,false,false,false,false,false,false] (by kernel_rfl) rfl rfl ⟨p1, p2, p3⟩ (fun hHeld => ?_)
   refine pure_ (i := 0) (N := some 41) (v := ?_) (a' := ?_) #[true,false,false,false,false,false,false,false,false,false,false,false,false,false,false,false,false,false,false] rfl rfl (by kernel_rfl) (fun _ _ _ h => h) (Or.inl ⟨by rfl, ?_⟩) ?_ ?_
   rotate_left
   ·intro w'
    go_simp
    with_reducible rfl
   rotate_left
   ·simp only [Act.put, List.setIfInBounds_toArray, List.set_cons_zero, List.set_cons_succ, i64_w, i32_w]
    rfl
   refine pure_ (i := 1) (N := some 42) (v := ?_) (a' := ?_) #[true,true,false,false,false,false,false,false,false,false,false,false,false,false,false,false,false,false,false] rfl rfl (by kernel_rfl) (fun _ _ _ h => h) (Or.inl ⟨by rfl, ?_⟩) ?_ ?_
   rotate_left
   ·intro w'
    go_simp
    with_reducible rfl
   rotate_left
   ·simp only [Act.put, List.setIfInBounds_toArray, List.set_cons_zero, List.set_cons_succ, i64_w, i32_w]
    rfl
   refine pure_ (i := 2) (N := some 43) (v := ?_) (a' := ?_) #[true,true,true,false,false,false,false,false,false,false,false,false,false,false,false,false,false,false,false] rfl rfl (by kernel_rfl) (fun _ _ _ h => h) (Or.inl ⟨by rfl, ?_⟩) ?_ ?_
   rotate_left
   ·intro w'
    go_simp
    with_reducible rfl
   rotate_left
   ·simp only [Act.put, List.setIfInBounds_toArray, List.set_cons_zero, List.set_cons_succ, i64_w, i32_w]
    rfl
   refine pure_ (i := 4) (N := some 45) (v := ?_) (a' := ?_) #[true,true,true,false,true,false,false,false,false,false,false,false,false,false,false,false,false,false,false] rfl rfl (by kernel_rfl) (fun _ _ _ h => h) (Or.inl ⟨by rfl, ?_⟩) ?_ ?_
   rotate_left
   ·intro w'
    go_simp
    with_reducible rfl
   rotate_left
   ·simp only [Act.put, List.setIfInBounds_toArray, List.set_cons_zero, List.set_cons_succ, i64_w, i32_w]
    rfl
   refine pure_ (i := 6) (N := some 47) (v := ?_) (a' := ?_) #[true,true,true,false,true,false,true,false,false,false,false,false,false,false,false,false,false,false,false] rfl rfl (by kernel_rfl) (fun _ _ _ h => h) (Or.inl ⟨by rfl, ?_⟩) ?_ ?_
   rotate_left
   ·intro w'
    go_simp
    with_reducible rfl
   rotate_left
   ·simp only [Act.put, List.setIfInBounds_toArray, List.set_cons_zero, List.set_cons_succ, i64_w, i32_w]
    rfl
   refine pure_ (i := 7) (N := some 48) (v := ?_) (a' := ?_) #[true,true,true,false,true,false,true,true,false,false,false,false,false,false,false,false,false,false,false] rfl rfl (by kernel_rfl) (fun _ _ _ h => h) (Or.inl ⟨by rfl, ?_⟩) ?_ ?_
   rotate_left
   ·intro w'
    go_simp
    with_reducible rfl
   rotate_left
   ·simp only [Act.put, List.setIfInBounds_toArray, List.set_cons_zero, List.set_cons_succ, i64_w, i32_w]
    rfl
   refine pure_ (i := 8) (N := some 49) (v := ?_) (a' := ?_) #[true,true,true,false,true,false,true,true,true,false,false,false,false,false,false,false,false,false,false] rfl rfl (by kernel_rfl) (fun _ _ _ h => h) (Or.inl ⟨by rfl, ?_⟩) ?_ ?_
   rotate_left
   ·intro w'
    go_simp
    with_reducible rfl
   rotate_left
   ·simp only [Act.put, List.setIfInBounds_toArray, List.set_cons_zero, List.set_cons_succ, i64_w, i32_w]
    rfl
   refine pure_ (i := 10) (N := some 51) (v := ?_) (a' := ?_) #[true,true,true,false,true,false,true,true,true,false,true,false,false,false,false,false,false,false,false] rfl rfl (by kernel_rfl) (fun _ _ _ h => h) (Or.inl ⟨by rfl, ?_⟩) ?_ ?_
   rotate_left
   ·intro w'
    go_simp
    with_reducible rfl
   rotate_left
   ·simp only [Act.put, List.setIfInBounds_toArray, List.set_cons_zero, List.set_cons_succ, i64_w, i32_w]
    rfl
   refine pure_ (i := 14) (N := some 55) (v := ?_) (a' := ?_) #[true,true,true,false,true,false,true,true,true,false,true,false,false,false,true,false,false,false,false] rfl rfl (by kernel_rfl) (fun _ _ _ h => h) (Or.inl ⟨by rfl, ?_⟩) ?_ ?_
   rotate_left
   ·intro w'
    go_simp
    with_reducible rfl
   rotate_left
   ·simp only [Act.put, List.setIfInBounds_toArray, List.set_cons_zero, List.set_cons_succ, i64_w, i32_w]
    rfl
   refine take_ (i := 3) (N := some 44) (v := ?_) (a' := ?_) #[true,true,true,true,true,false,true,true,true,false,true,false,false,false,true,false,false,false,false] rfl rfl (by kernel_rfl) (fun _ _ _ h => h) (Or.inl ⟨by rfl, ?_⟩) hHeld ?_ ?_
   rotate_left
   ·rintro w' ⟨s0, s1, s2⟩
    go_simp
    with_reducible rfl
   rotate_left
   ·simp only [Act.put, List.setIfInBounds_toArray, List.set_cons_zero, List.set_cons_succ, i64_w, i32_w]
    rfl
   refine take_ (i := 5) (N := some 46) (v := ?_) (a' := ?_) #[true,true,true,true,true,true,true,true,true,false,true,false,false,false,true,false,false,false,false] rfl rfl (by kernel_rfl) (fun _ _ _ h => h) (Or.inl ⟨by rfl, ?_⟩) hHeld ?_ ?_
   rotate_left
   ·rintro w' ⟨s0, s1, s2⟩
    go_simp
    with_reducible rfl
   rotate_left
   ·simp only [Act.put, List.setIfInBounds_toArray, List.set_cons_zero, List.set_cons_succ, i64_w, i32_w]
    rfl
   refine take_ (i := 9) (N := some 50) (v := ?_) (a' := ?_) #[true,true,true,true,true,true,true,true,true,true,true,false,false,false,true,false,false,false,false] rfl rfl (by kernel_rfl) (fun _ _ _ h => h) (Or.inl ⟨by rfl, ?_⟩) hHeld ?_ ?_
   rotate_left
   ·rintro w' ⟨s0, s1, s2⟩
    go_simp
    with_reducible rfl
   rotate_left
   ·simp only [Act.put, List.setIfInBounds_toArray, List.set_cons_zero, List.set_cons_succ, i64_w, i32_w]
    rfl
   refine take_ (i := 11) (N := some 52) (v := ?_) (a' := ?_) #[true,true,true,true,true,true,true,true,true,true,true,true,false,false,true,false,false,false,false] rfl rfl (by kernel_rfl) (fun _ _ _ h => h) (Or.inl ⟨by rfl, ?_⟩) hHeld ?_ ?_
   rotate_left
   ·rintro w' ⟨s0, s1, s2⟩
    go_simp
    with_reducible rfl
   rotate_left
   ·simp only [Act.put, List.setIfInBounds_toArray, List.set_cons_zero, List.set_cons_succ, i64_w, i32_w]
    rfl
   refine pure_ (i := 12) (N := some 53) (v := ?_) (a' := ?_) #[true,true,true,true,true,true,true,true,true,true,true,true,true,false,true,false,false,false,false] rfl rfl (by kernel_rfl) (fun _ _ _ h => h) (Or.inl ⟨by rfl, ?_⟩) ?_ ?_
   rotate_left
   ·intro w'
    go_simp
    with_reducible rfl
   rotate_left
   ·simp only [Act.put, List.setIfInBounds_toArray, List.set_cons_zero, List.set_cons_succ, i64_w, i32_w]
    rfl
   refine take_ (i := 13) (N := some 54) (v := ?_) (a' := ?_) #[true,true,true,true,true,true,true,true,true,true,true,true,true,true,true,false,false,false,false] rfl rfl (by kernel_rfl) (fun _ _ _ h => h) (Or.inl ⟨by rfl, ?_⟩) hHeld ?_ ?_
   rotate_left
   ·rintro w' ⟨s0, s1, s2⟩
    go_simp
    with_reducible rfl
   rotate_left
   ·simp only [Act.put, List.setIfInBounds_toArray, List.set_cons_zero, List.set_cons_succ, i64_w, i32_w]
    rfl
   refine one_ (i := 15) (N := some 56) #[true,true,true,true,true,true,true,true,true,true,true,true,true,true,true,true,false,false,false] rfl rfl (by kernel_rfl) (by decide) (fun K hK => ?_)
   refine value_ (w1 := ?_) (v := ?_) (by rfl) rfl ?_ ?_
   rotate_left 2
   ·go_simp
    constructor
    ·rfl
    ·rfl
   refine hK.out _ _ ⟨(by go_simp), (by go_simp), (by go_simp)⟩ (fun hHeld => ?_)
   clear hK K
   refine norm_ (a' := ?_) ?_ ?_
   rotate_left
   ·show Act.put _ (some 56) _ = _
    simp only [Act.put, List.setIfInBounds_toArray, List.set_cons_zero, List.set_cons_succ, i64_w, i32_w]
    rfl
   refine one_ (i := 16) (N := some 57) #[true,true,true,true,true,true,true,true,true,true,true,true,true,true,true,true,true,false,false] rfl rfl (by kernel_rfl) (by decide) (fun K hK => ?_)
   refine own_step (by rfl) ?_
   refine wp_app1 _ (.tmp 54) (.tmp 56) rfl w.heap.size (val5 (.i u)) (row5 (.i u)) rfl ((HM5.out.below (by repeat (first | exact Below.refl _ _ | apply below_drew1 | apply below_alloc))).sep.own (.i u)) W5.heap.size rfl (i : Int) (by go_simp) (Nat.le_trans (hrl5 _) (by decide)) (by simp; omega) ?_
   intro v6 w6 ho6 hg6 ha6
   obtain ⟨gm6, cm6, rfl⟩ := own_form ho6 (by omega)
   obtain ⟨⟨c61, c62, c63, c64⟩, hm6, hb6, hx6, hz6⟩ := side_i HM5.out HB5.out hz5 hgI HX5.out ho6 hg6 ha6 hun (by repeat (first | exact Below.refl _ _ | apply below_drew1 | apply below_alloc))
   clear ho6 hg6 ha6
   have c65 : w6.cell? ⟨B, 1, none⟩ = some (.int .i64 (u : Int)) := by rw [cell_of c62]; rfl
   refine hK.out _ _ ⟨c61, c65, c63⟩ (fun hHeld => ?_)
   clear hK K
   refine norm_ (a' := ?_) ?_ ?_
   rotate_left
   ·show Act.put _ (some 57) _ = _
    simp only [Act.put, List.setIfInBounds_toArray, List.set_cons_zero, List.set_cons_succ, i64_w, i32_w]
    rfl
   refine pure_ (i := 17) (N := some 58) (v := ?_) (a' := ?_) #[true,true,true,true,true,true,true,true,true,true,true,true,true,true,true,true,true,true,false] rfl rfl (by kernel_rfl) (fun _ _ _ h => h) (Or.inl ⟨by rfl, ?_⟩) ?_ ?_
   rotate_left
   ·intro w'
    go_simp
    with_reducible rfl
   rotate_left
   ·simp only [Act.put, List.setIfInBounds_toArray, List.set_cons_zero, List.set_cons_succ, i64_w, i32_w]
    rfl
   refine last_ (i := 18) (N := none) #[true,true,true,true,true,true,true,true,true,true,true,true,true,true,true,true,true,true,true] rfl rfl (by kernel_rfl) (by decide) (fun K hK => ?_)
   refine skip_ (w1 := ?_) (by rfl) rfl ?_ ?_
   rotate_left
   ·go_simp
    rfl
   refine hK.out _ _ ?_
   clear hK K
   refine done_ (by kernel_rfl) ?_
   have HB6 := Lib.hid hb6
   have HM6 := Lib.hid hm6
   have HX6 := Lib.hid hx6
   clear hb6 hm6 hx6 c61 c62 c63 c64 c65 p1 p2 p3 l1 l2 l3
   generalize w6.setCell ⟨gI, u, none⟩ (.slice (some ⟨gm6, 0, none⟩) ((row5 (.i u)).length + 1) cm6) = W6 at HB6 HM6 HX6 hz6 ⊢
   generalize updI val5 (.i u) _ = val6 at HM6
   generalize hr6 : updI row5 (.i u) _ = row6 at HM6
   have hrl6 : ∀ x, (row6 x).length ≤ 2000 := fun x => by
    rw [← hr6]
    unfold updI
    split
    ·have := hrl5 (.i u); simp; omega
    ·have := hrl5 x; omega
   have HR6 := Lib.hid hr6
   clear hr6
   obtain ⟨lk, hlk⟩ := key_ok ⟨(v : Int), (u : Int)⟩ (wf_small (by simp) (by simp; omega)) (wf_small (by simp) (by simp; omega))
   have HLK := Lib.hid hlk
   clear hlk
   go_wp2_with fail
   have p1 : W6.cell? ⟨g, 3, none⟩ = some (.map (some b)) := by rw [cell_of HM6.out.st]; rfl
   have p2 : W6.cell? ⟨B, 0, none⟩ = some (.int .i64 (v : Int)) := by rw [cell_of HX6.out]; rfl
   have p3 : W6.cell? ⟨B, 1, none⟩ = some (.int .i64 (u : Int)) := by rw [cell_of HX6.out]; rfl
   have l1 := World.block_lt_of_cell? W6 _ p1
   have l2 : B < W6.heap.size := World.block_lt_of_cell? W6 _ p2
   have lb := HM6.out.mp.lt
   have hbB : b ≠ B := HM6.out.mp.ne HX6.out
   have hbg : b ≠ g := HM6.out.mp.ne HM6.out.st
   refine start_ (n := 12) (S := fun w' => w'.cell? ⟨g, 3, none⟩ = some (.map (some b)) ∧ w'.cell? ⟨B, 0, none⟩ = some (.int .i64 (v : Int)) ∧ w'.cell? ⟨B, 1, none⟩ = some (.int .i64 (u : Int))) (ds := [11]) #[false,false,false,false,false,false,false,false,false,false,false,false] (by kernel_rfl) rfl rfl ⟨p1, p2, p3⟩ (fun hHeld => ?_)
   refine pure_ (i := 0) (N := some 59) (v := ?_) (a' := ?_) #[true,false,false,false,false,false,false,false,false,false,false,false] rfl rfl (by kernel_rfl) (fun _ _ _ h => h) (Or.inl ⟨by rfl, ?_⟩) ?_ ?_
   rotate_left
   ·intro w'
    go_simp
    with_reducible rfl
   rotate_left
   ·simp only [Act.put, List.setIfInBounds_toArray, List.set_cons_zero, List.set_cons_succ, i64_w, i32_w]
    rfl
   refine pure_ (i := 1) (N := some 60) (v := ?_) (a' := ?_) #[true,true,false,false,false,false,false,false,false,false,false,false] rfl rfl (by kernel_rfl) (fun _ _ _ h => h) (Or.inl ⟨by rfl, ?_⟩) ?_ ?_
   rotate_left
   ·intro w'
    go_simp
    with_reducible rfl
   rotate_left
   ·simp only [Act.put, List.setIfInBounds_toArray, List.set_cons_zero, List.set_cons_succ, i64_w, i32_w]
    rfl
   refine pure_ (i := 2) (N := some 61) (v := ?_) (a' := ?_) #[true,true,true,false,false,false,false,false,false,false,false,false] rfl rfl (by kernel_rfl) (fun _ _ _ h => h) (Or.inl ⟨by rfl, ?_⟩) ?_ ?_
   rotate_left
   ·intro w'
    go_simp
    with_reducible rfl
   rotate_left
   ·simp only [Act.put, List.setIfInBounds_toArray, List.set_cons_zero, List.set_cons_succ, i64_w, i32_w]
    rfl
   refine pure_ (i := 5) (N := some 65) (v := ?_) (a' := ?_) #[true,true,true,false,false,true,false,false,false,false,false,false] rfl rfl (by kernel_rfl) (fun _ _ _ h => h) (Or.inl ⟨by rfl, ?_⟩) ?_ ?_
   rotate_left
   ·intro w'
    go_simp
    with_reducible rfl
   rotate_left
   ·simp only [Act.put, List.setIfInBounds_toArray, List.set_cons_zero, List.set_cons_succ, i64_w, i32_w]
    rfl
   refine take_ (i := 3) (N := some 62) (v := ?_) (a' := ?_) #[true,true,true,true,false,true,false,false,false,false,false,false] rfl rfl (by kernel_rfl) (fun _ _ _ h => h) (Or.inl ⟨by rfl, ?_⟩) hHeld ?_ ?_
   rotate_left
   ·rintro w' ⟨s0, s1, s2⟩
    go_simp
    with_reducible rfl
   rotate_left
   ·simp only [Act.put, List.setIfInBounds_toArray, List.set_cons_zero, List.set_cons_succ, i64_w, i32_w]
    rfl
   refine take_ (i := 4) (N := some 63) (v := ?_) (a' := ?_) #[true,true,true,true,true,true,false,false,false,false,false,false] rfl rfl (by kernel_rfl) (fun _ _ _ h => h) (Or.inl ⟨by rfl, ?_⟩) hHeld ?_ ?_
   rotate_left
   ·rintro w' ⟨s0, s1, s2⟩
    go_simp
    with_reducible rfl
   rotate_left
   ·simp only [Act.put, List.setIfInBounds_toArray, List.set_cons_zero, List.set_cons_succ, i64_w, i32_w]
    rfl
   refine one_ (i := 6) (N := some 66) #[true,true,true,true,true,true,true,false,false,false,false,false] rfl rfl (by kernel_rfl) (by decide) (fun K hK => ?_)
   refine value_ (w1 := ?_) (v := ?_) (by rfl) rfl ?_ ?_
   rotate_left 2
   ·go_simp
    constructor
    ·rfl
    ·rfl
   refine hK.out _ _ ⟨(by go_simp), (by go_simp), (by go_simp)⟩ (fun hHeld => ?_)
   clear hK K
   refine norm_ (a' := ?_) ?_ ?_
   rotate_left
   ·show Act.put _ (some 66) _ = _
    simp only [Act.put, List.setIfInBounds_toArray, List.set_cons_zero, List.set_cons_succ, i64_w, i32_w]
    rfl
   refine one_ (i := 7) (N := some 67) #[true,true,true,true,true,true,true,true,false,false,false,false] rfl rfl (by kernel_rfl) (by decide) (fun K hK => ?_)
   refine own_step (by rfl) ?_
   refine wp_entry _ (.tmp 62) (.tmp 63) rfl (HM6.out.below (by repeat (first | exact Below.refl _ _ | apply below_drew1 | apply below_alloc))) ⟨(v : Int), (u : Int)⟩ HLK.out rfl rfl ?_
   intro w7 K7 j7 hm7 hj7 hg7
   have c71 : w7.cell? ⟨g, 3, none⟩ = some (.map (some b)) := by rw [cell_of hm7.st]; rfl
   have c72 : w7.cell? ⟨B, 0, none⟩ = some (.int .i64 (v : Int)) := (gcell hg7 (by simp; omega) (by simpa using hbB.symm)).trans (by go_simp)
   have c73 : w7.cell? ⟨B, 1, none⟩ = some (.int .i64 (u : Int)) := (gcell hg7 (by simp; omega) (by simpa using hbB.symm)).trans (by go_simp)
   have c74 : w7.cell? ⟨W6.heap.size, 0, none⟩ = some (.int .i64 (i : Int)) := (gcell hg7 (by simp) (by simp; omega)).trans (by go_simp)
   have hx7 : w7.heap[B]? = some (.cells #[.int .i64 (v : Int), .int .i64 (u : Int)] 53 (0, 0)) := by rw [hg7.block B (by simp; omega) (by simpa using hbB.symm)]; exact (Below.block ((by repeat (first | exact Below.refl _ _ | apply below_drew1 | apply below_alloc)) : Below W6.heap.size W6 _) B l2).trans HX6.out
   have hb7 : Below w.heap.size w w7 := Below.grown (below_keepW HB6.out hz6 (by repeat (first | exact Below.refl _ _ | apply below_drew1 | apply below_alloc))) hg7 (by simp; omega) (fun k hk => by injection hk with hk; omega)
   refine hK.out _ _ ⟨c71, c72, c73⟩ (fun hHeld => ?_)
   clear hK K
   refine norm_ (a' := ?_) ?_ ?_
   rotate_left
   ·show Act.put _ (some 67) _ = _
    simp only [Act.put, List.setIfInBounds_toArray, List.set_cons_zero, List.set_cons_succ, i64_w, i32_w]
    rfl
   refine pure_ (i := 8) (N := some 64) (v := ?_) (a' := ?_) #[true,true,true,true,true,true,true,true,true,false,false,false] rfl rfl (by kernel_rfl) (fun _ _ _ h => h) (Or.inl ⟨by rfl, ?_⟩) ?_ ?_
   rotate_left
   ·intro w'
    go_simp
    with_reducible rfl
   rotate_left
   ·simp only [Act.put, List.setIfInBounds_toArray, List.set_cons_zero, List.set_cons_succ, i64_w, i32_w]
    rfl
   refine pure_ (i := 10) (N := some 69) (v := ?_) (a' := ?_) #[true,true,true,true,true,true,true,true,true,false,true,false] rfl rfl (by kernel_rfl) (fun _ _ _ h => h) (Or.inl ⟨by rfl, ?_⟩) ?_ ?_
   rotate_left
   ·intro w'
    go_simp
    with_reducible rfl
   rotate_left
   ·simp only [Act.put, List.setIfInBounds_toArray, List.set_cons_zero, List.set_cons_succ, i64_w, i32_w]
    rfl
   refine one_ (i := 9) (N := some 68) #[true,true,true,true,true,true,true,true,true,true,true,false] rfl rfl (by kernel_rfl) (by decide) (fun K hK => ?_)
   refine own_step (by rfl) ?_
   refine wp_app1 _ (.tmp 64) (.tmp 66) rfl w.heap.size (val6 (.b ⟨(v : Int), (u : Int)⟩)) (row6 (.b ⟨(v : Int), (u : Int)⟩)) rfl ((hm7.below (by repeat (first | exact Below.refl _ _ | apply below_drew1 | apply below_alloc))).sep.own (.b ⟨(v : Int), (u : Int)⟩)) W6.heap.size rfl (i : Int) (by go_simp) (Nat.le_trans (hrl6 _) (by decide)) (by have := hb7.size; simp; omega) ?_
   intro v8 w8 ho8 hg8 ha8
   have hm7' := hm7.below (w1 := _) (by repeat (first | exact Below.refl _ _ | apply below_drew1 | apply below_alloc))
   obtain ⟨w9, hr9, hm9, hg9⟩ := Mk.step_b (hm7.below (by repeat (first | exact Below.refl _ _ | apply below_drew1 | apply below_alloc))) hj7 ho8 hg8 ha8
   have c81 : w8.cell? ⟨g, 3, none⟩ = some (.map (some b)) := by rw [cell_of (((hm7.below (by repeat (first | exact Below.refl _ _ | apply below_drew1 | apply below_alloc))).grow (.b ⟨(v : Int), (u : Int)⟩) hg8).1.trans (hm7.below (by repeat (first | exact Below.refl _ _ | apply below_drew1 | apply below_alloc))).st)]; rfl
   have hx8 := (hm7.below (by repeat (first | exact Below.refl _ _ | apply below_drew1 | apply below_alloc))).far (.b ⟨(v : Int), (u : Int)⟩) hg8 (B := B) (cs := #[.int .i64 (v : Int), .int .i64 (u : Int)]) (t := 53) hx7 (by decide)
   have c82 : w8.cell? ⟨B, 0, none⟩ = some (.int .i64 (v : Int)) := by rw [cell_of hx8]; rfl
   have c83 : w8.cell? ⟨B, 1, none⟩ = some (.int .i64 (u : Int)) := by rw [cell_of hx8]; rfl
   refine hK.out _ _ ⟨c81, c82, c83⟩ (fun hHeld => ?_)
   clear hK K
   refine norm_ (a' := ?_) ?_ ?_
   rotate_left
   ·show Act.put _ (some 68) _ = _
    simp only [Act.put, List.setIfInBounds_toArray, List.set_cons_zero, List.set_cons_succ, i64_w, i32_w]
    rfl
   refine last_ (i := 11) (N := none) #[true,true,true,true,true,true,true,true,true,true,true,true] rfl rfl (by kernel_rfl) (by decide) (fun K hK => ?_)
   refine own_step (by rfl) ?_
   refine wp_estore _ (.tmp 62) (.tmp 69) (.tmp 68) rfl hr9 rfl rfl rfl ?_
   refine hK.out _ _ ?_
   clear hK K
   refine done_ (by kernel_rfl) ?_
   have hbl : Below w.heap.size w w9 := (Below.grown (below_keepW hb7 (Nat.le_trans (by have := hb7.size; omega) (Nat.le_refl w7.heap.size)) (show Below w7.heap.size w7 _ from by first | exact Below.refl _ _ | exact below_drew1 (Below.refl _ _))) hg8 (by have := hb7.size; first | exact this | (simp; omega)) (fun k hk => own_ge (hm7.sep.own (.b ⟨(v : Int), (u : Int)⟩)) hk)).grown hg9 (by have := hb7.size; have := hg8.size; first | omega | (simp at *; omega)) (fun k hk => by injection hk with hk; omega)
   have HM9 := Lib.hid hm9
   have HB9 := Lib.hid hbl
   clear hm9 hbl hm7 hm7' hg7 hg8 hg9 hr9 hj7 ho8 ha8 hb7 hx7 hx8 c71 c72 c73 c74 c81 c82 c83 p1 p2 p3
   go_wp2
   go_roundw
   case rel =>
    have hm := HM9.out
    have hl : (l.take i).length = i := by rw [List.length_take]; omega
    have he : l[i] = ⟨(v : Int), (u : Int)⟩ := by
     have h1 := HV.out
     have h2 := HU.out
     cases hq : l[i] with
     | mk a0 a1 => rw [hq] at h1 h2; simp at h1 h2; rw [h1, h2]
    have hrow : updI row6 (.b ⟨(v : Int), (u : Int)⟩) (row6 (.b ⟨(v : Int), (u : Int)⟩) ++ [(i : Int)]) = rw_ (l.take (i + 1)) := by
     rw [List.take_succ_eq_append_getElem hlt, he, rw_snoc _ _ (by simp) (by simp), hl, ← HR6.out, ← HR5.out]
     simp [updI]
    rw [hrow] at hm
    exact ⟨i + 1, _, K7, by omega, by go_num, hm, HB9.out⟩
   case measure => simp [intOf]; omega
  ·have hie : i = l.length := by omega
   have HM := Lib.hid hm
   have HB := Lib.hid hb
   have HIE := Lib.hid hie
   clear hm hb hie
   go_wp2
   go_ret
   refine ⟨g, rfl, hgb, ?_, HB.out⟩
   have hm := HM.out
   rw [HIE.out, List.take_length] at hm
   exact ⟨_, _, _, _, _, _, _, _, hm, Kd.C_below HR.out HB.out, hc⟩
end Go.Proofs.Ytkpaefeaplgnmaa.G
