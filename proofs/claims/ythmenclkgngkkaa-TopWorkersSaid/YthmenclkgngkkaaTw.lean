/- The walk of TopWorkers. -/
import Derived.Test.YthmenclkgngkkaaPv
import Derived.Test.YthmenclkgngkkaaTp
set_option linter.unusedSimpArgs false
set_option linter.unusedVariables false
namespace Go.Proofs.Ythmenclkgngkkaa.O
open Go.RowKit Go.Proofs.Ythmenclkgngkkaa.M Go.Proofs.Ythmenclkgngkkaa.Agg Go.Proofs.Ythmenclkgngkkaa.Perm Go.Proofs.Ythmenclkgngkkaa.PA Go.Proofs.YthmenclkgngkkaaW.PrintWords Go.Proofs.YthmenclkgngkkaaW.PrintMore Go.Proofs.YthmenclkgngkkaaW.PrintLast
abbrev RR (w W : World) (v : Value) (l : List S26) : Prop := Kd.R k26 26 W w.heap.size (fun _ => True) v l
def sep (u v : Value) : Prop := ∀ k, u.ownBlock = some k → v.ownBlock ≠ some k
theorem sep.symm {u v : Value} (h : sep u v) : sep v u := fun k hk hu => h k hu hk
structure TW (w W : World) (ga gb Bt Bo : Nat) (v0 v1 va : Value) (l0 l1 la : List S26) (s t c d : Nat → Int) : Prop where
  a : IsA W ga 1 0 2 s c
  b : IsA W gb 1 0 1 t d
  bt : W.heap[Bt]? = some (.cells #[v0, v1] 50 (0, 0))
  op : W.heap[Bo]? = some (.cells #[.int .u8 1, .int .u8 7] 43 (0, 0))
  r0 : RR w W v0 l0
  r1 : RR w W v1 l1
  ra : RR w W va la
  n01 : sep v0 v1
  n0a : sep v0 va
  n1a : sep v1 va
  bl : Below w.heap.size w W
  le : w.heap.size ≤ ga ∧ w.heap.size ≤ gb ∧ w.heap.size ≤ Bt ∧ w.heap.size ≤ Bo ∧ ga ≠ gb
section
variable {w W W' : World} {ga gb Bt Bo : Nat} {v0 v1 va v : Value} {l0 l1 la : List S26} {s t c d : Nat → Int} {x : S26} {y7 y12 : World}
theorem R_ty {v : Value} {l : List S26} (h : RR w W v l) : ∀ k, v.ownBlock = some k → ∃ cells, W.heap[k]? = some (.cells cells 26 (0, 0)) := fun k hk => by
  obtain ⟨inn, ho⟩ := Kd.R_own h
  exact own_typed ho k hk
theorem far26 {v : Value} {l : List S26} (h : RR w W v l) {g t : Nat} {cs : Array Value} (hg : W.heap[g]? = some (.cells cs t (0, 0))) (ht : t ≠ 26) : some g ≠ v.ownBlock := fun e => by
  obtain ⟨cells, hc⟩ := R_ty h g e.symm
  rw [hg] at hc
  injection hc with hc
  injection hc with _ hc
  exact ht hc
theorem R_sep {u v : Value} {l : List S26} (h : RR w W v l) (hn : sep u v) (hg : W.grownBy W' u.ownBlock) : RR w W' v l := Kd.R_grown2 h rfl hg (fun k e he => hn k e he.symm)
theorem TW.below (h : TW w W ga gb Bt Bo v0 v1 va l0 l1 la s t c d) (hb : Below W.heap.size W W') : TW w W' ga gb Bt Bo v0 v1 va l0 l1 la s t c d :=
  ⟨h.a.below hb, h.b.below hb, (hb.block _ (Array.getElem?_eq_some_iff.1 h.bt).1).trans h.bt, (hb.block _ (Array.getElem?_eq_some_iff.1 h.op).1).trans h.op, Kd.R_below h.r0 hb, Kd.R_below h.r1 hb, Kd.R_below h.ra hb, h.n01, h.n0a, h.n1a, below_then h.bl h.bl.size hb, h.le⟩
theorem TW.grown (h : TW w W ga gb Bt Bo v0 v1 va l0 l1 la s t c d) {u : Value} {lu : List S26} (hu : RR w W u lu) (hg : W.grownBy W' u.ownBlock) : IsA W' ga 1 0 2 s c ∧ IsA W' gb 1 0 1 t d ∧ W'.heap[Bt]? = some (.cells #[v0, v1] 50 (0, 0)) ∧ W'.heap[Bo]? = some (.cells #[.int .u8 1, .int .u8 7] 43 (0, 0)) ∧ Below w.heap.size w W' := by
  refine ⟨?_, ?_, ?_, ?_, ?_⟩
  · exact (hg.block _ h.a.lt (far26 hu h.a (by decide))).trans h.a
  · exact (hg.block _ h.b.lt (far26 hu h.b (by decide))).trans h.b
  · exact (hg.block _ (Array.getElem?_eq_some_iff.1 h.bt).1 (far26 hu h.bt (by decide))).trans h.bt
  · exact (hg.block _ (Array.getElem?_eq_some_iff.1 h.op).1 (far26 hu h.op (by decide))).trans h.op
  · refine h.bl.grown hg h.bl.size (fun k e => ?_)
    obtain ⟨inn, ho⟩ := Kd.R_own hu
    exact own_base ho k e
theorem sep_new {u v' v : Value} {lv : List S26} (hv : RR w W v lv) (hn : sep u v) (hat : v'.ownBlock = u.ownBlock ∨ ∃ k, v'.ownBlock = some k ∧ W.heap.size ≤ k) : sep v' v := fun k hk hv' => by
  rcases hat with h | ⟨q, h, hq⟩
  · exact hn k (by rw [← h]; exact hk) hv'
  · rw [h] at hk
    injection hk with hk
    obtain ⟨cells, hc⟩ := R_ty hv k hv'
    have := (Array.getElem?_eq_some_iff.1 hc).1
    omega
theorem setc_grown (W : World) (g i : Nat) (u : Value) : W.grownBy (W.setCell ⟨g, i, none⟩ u) (some g) := by
  refine ⟨rfl, rfl, rfl, by simp, fun k hk hne => ?_⟩
  exact Below.heap_setCell _ _ _ _ (fun e => hne (by rw [e]))
theorem R_setc {v : Value} {l : List S26} (h : RR w W v l) {g : Nat} {cs : Array Value} {q : Nat} (hg : W.heap[g]? = some (.cells cs q (0, 0))) (hq : q ≠ 26) (i : Nat) (u : Value) : RR w (W.setCell ⟨g, i, none⟩ u) v l :=
  Kd.R_grown2 h rfl (setc_grown W g i u) (fun k e he => far26 h hg hq (by cases e; exact he))
theorem TW.put0 (h : TW w W ga gb Bt Bo v0 v1 va l0 l1 la s t c d) (h7 : Below W.heap.size W y7) (hV : RR w y12 v (l0 ++ [x])) (hG : y7.grownBy y12 v0.ownBlock) (hat : v.ownBlock = v0.ownBlock ∨ ∃ k, v.ownBlock = some k ∧ y7.heap.size ≤ k) : TW w (y12.setCell ⟨Bt, 0, none⟩ v) ga gb Bt Bo v v1 va (l0 ++ [x]) l1 la s t c d := by
  have h' := h.below h7
  obtain ⟨ha, hb, hbt, hop, hbl⟩ := h'.grown h'.r0 hG
  have hs := setc_grown y12 Bt 0 v
  have n1 : ga ≠ Bt := fun e => by have := ha; unfold IsA at this; rw [e, hbt] at this; cases this
  have n2 : gb ≠ Bt := fun e => by have := hb; unfold IsA at this; rw [e, hbt] at this; cases this
  have n3 : Bo ≠ Bt := fun e => by rw [e, hbt] at hop; cases hop
  refine ⟨(hs.block _ ha.lt (by simpa using n1)).trans ha, (hs.block _ hb.lt (by simpa using n2)).trans hb, ?_, (hs.block _ (Array.getElem?_eq_some_iff.1 hop).1 (by simpa using n3)).trans hop, R_setc hV hbt (by decide) _ _, R_setc (R_sep h'.r1 h'.n01 hG) hbt (by decide) _ _, R_setc (R_sep h'.ra h'.n0a hG) hbt (by decide) _ _, sep_new h'.r1 h'.n01 hat, sep_new h'.ra h'.n0a hat, h.n1a, hbl.setCell (p := ⟨Bt, 0, none⟩) h.le.2.2.1 _, h.le⟩
  simp [World.setCell, Array.getElem?_modify, hbt]
theorem TW.put1 (h : TW w W ga gb Bt Bo v0 v1 va l0 l1 la s t c d) (h7 : Below W.heap.size W y7) (hV : RR w y12 v (l1 ++ [x])) (hG : y7.grownBy y12 v1.ownBlock) (hat : v.ownBlock = v1.ownBlock ∨ ∃ k, v.ownBlock = some k ∧ y7.heap.size ≤ k) : TW w (y12.setCell ⟨Bt, 1, none⟩ v) ga gb Bt Bo v0 v va l0 (l1 ++ [x]) la s t c d := by
  have h' := h.below h7
  obtain ⟨ha, hb, hbt, hop, hbl⟩ := h'.grown h'.r1 hG
  have hs := setc_grown y12 Bt 1 v
  have n1 : ga ≠ Bt := fun e => by have := ha; unfold IsA at this; rw [e, hbt] at this; cases this
  have n2 : gb ≠ Bt := fun e => by have := hb; unfold IsA at this; rw [e, hbt] at this; cases this
  have n3 : Bo ≠ Bt := fun e => by rw [e, hbt] at hop; cases hop
  refine ⟨(hs.block _ ha.lt (by simpa using n1)).trans ha, (hs.block _ hb.lt (by simpa using n2)).trans hb, ?_, (hs.block _ (Array.getElem?_eq_some_iff.1 hop).1 (by simpa using n3)).trans hop, R_setc (R_sep h'.r0 h'.n01.symm hG) hbt (by decide) _ _, R_setc hV hbt (by decide) _ _, R_setc (R_sep h'.ra h'.n1a hG) hbt (by decide) _ _, (sep_new h'.r0 h'.n01.symm hat).symm, h.n0a, sep_new h'.ra h'.n1a hat, hbl.setCell (p := ⟨Bt, 1, none⟩) h.le.2.2.1 _, h.le⟩
  simp [World.setCell, Array.getElem?_modify, hbt]
theorem TW.putA (h : TW w W ga gb Bt Bo v0 v1 va l0 l1 la s t c d) (h7 : Below W.heap.size W y7) (hV : RR w y12 v (la ++ [x])) (hG : y7.grownBy y12 va.ownBlock) (hat : v.ownBlock = va.ownBlock ∨ ∃ k, v.ownBlock = some k ∧ y7.heap.size ≤ k) : TW w y12 ga gb Bt Bo v0 v1 v l0 l1 (la ++ [x]) s t c d := by
  have h' := h.below h7
  obtain ⟨ha, hb, hbt, hop, hbl⟩ := h'.grown h'.ra hG
  exact ⟨ha, hb, hbt, hop, R_sep h'.r0 h'.n0a.symm hG, R_sep h'.r1 h'.n1a.symm hG, hV, h.n01, (sep_new h'.r0 h'.n0a.symm hat).symm, (sep_new h'.r1 h'.n1a.symm hat).symm, hbl, h.le⟩
theorem R_farA {v : Value} {l : List S26} (h : RR w W v l) {g n : Nat} {o f : Int} {s c : Nat → Int} (hg : IsA W g o f n s c) (hG : W.grownBy W' (some g)) : RR w W' v l :=
  Kd.R_grown2 h rfl hG (fun k e he => far26 h hg (by decide) (by cases e; exact he))
theorem TW.takeA (h : TW w W ga gb Bt Bo v0 v1 va l0 l1 la s t c d) {s' c' : Nat → Int} (hA : IsA W' ga 1 0 2 s' c') (hG : W.grownBy W' (some ga)) : TW w W' ga gb Bt Bo v0 v1 va l0 l1 la s' t c' d := by
  have n1 : Bt ≠ ga := fun e => by have := h.a; unfold IsA at this; rw [← e, h.bt] at this; cases this
  have n3 : Bo ≠ ga := fun e => by have := h.a; unfold IsA at this; rw [← e, h.op] at this; cases this
  exact ⟨hA, (hG.block _ h.b.lt (by simpa using h.le.2.2.2.2.symm)).trans h.b, (hG.block _ (Array.getElem?_eq_some_iff.1 h.bt).1 (by simpa using n1)).trans h.bt, (hG.block _ (Array.getElem?_eq_some_iff.1 h.op).1 (by simpa using n3)).trans h.op, R_farA h.r0 h.a hG, R_farA h.r1 h.a hG, R_farA h.ra h.a hG, h.n01, h.n0a, h.n1a, h.bl.grown hG h.bl.size (fun k e => by cases e; exact h.le.1), h.le⟩
theorem TW.takeB (h : TW w W ga gb Bt Bo v0 v1 va l0 l1 la s t c d) {s' c' : Nat → Int} (hA : IsA W' gb 1 0 1 s' c') (hG : W.grownBy W' (some gb)) : TW w W' ga gb Bt Bo v0 v1 va l0 l1 la s s' c c' := by
  have n1 : Bt ≠ gb := fun e => by have := h.b; unfold IsA at this; rw [← e, h.bt] at this; cases this
  have n3 : Bo ≠ gb := fun e => by have := h.b; unfold IsA at this; rw [← e, h.op] at this; cases this
  exact ⟨(hG.block _ h.a.lt (by simpa using h.le.2.2.2.2)).trans h.a, hA, (hG.block _ (Array.getElem?_eq_some_iff.1 h.bt).1 (by simpa using n1)).trans h.bt, (hG.block _ (Array.getElem?_eq_some_iff.1 h.op).1 (by simpa using n3)).trans h.op, R_farA h.r0 h.b hG, R_farA h.r1 h.b hG, R_farA h.ra h.b hG, h.n01, h.n0a, h.n1a, h.bl.grown hG h.bl.size (fun k e => by cases e; exact h.le.2.1), h.le⟩
end
def nw (m : S26) : S26 := ⟨m.f0, Go.bits .and .i64 m.f1 1, m.f2⟩
theorem cell_of {W : World} {g : Nat} {cs : Array Value} {t : TypeId} {i : Nat} (h : W.heap[g]? = some (.cells cs t (0, 0))) : W.cell? ⟨g, i, none⟩ = cs[i]? := by simp [World.cell?, h]
theorem free_of {W : World} {g : Nat} {cs : Array Value} {t : TypeId} (h : W.heap[g]? = some (.cells cs t (0, 0))) (i : Nat) : W.frozen? ⟨g, i, none⟩ = false := by simp [World.frozen?, h]
def okm (m : S26) : Prop := (-9223372036854775808 ≤ m.f0 ∧ m.f0 ≤ 9223372036854775807) ∧ (m.f1 = 0 ∨ m.f1 = 1)
def two : List Int := [1, 7]
theorem addm_from (ops : List Int) {m x : S26} : ∀ {b : List S26}, x ∈ addm ops b m → (x.f0 = m.f0 ∧ x.f1 = m.f1) ∨ x ∈ b
  | [], h => by
    rw [show addm ops [] m = [m] from rfl] at h
    exact .inl (by rw [List.mem_singleton.1 h]; exact ⟨rfl, rfl⟩)
  | a :: b, h => by
    by_cases hs : same a m
    · rw [addm_hit ops _ hs] at h
      rcases List.mem_cons.1 h with h | h
      · exact .inl (by rw [h]; exact ⟨rfl, rfl⟩)
      · exact .inr (List.mem_cons_of_mem _ h)
    · rw [addm_miss ops _ hs] at h
      rcases List.mem_cons.1 h with h | h
      · exact .inr (by rw [h]; simp)
      · rcases addm_from ops h with h | h
        · exact .inl h
        · exact .inr (List.mem_cons_of_mem _ h)
theorem fold_from (ops : List Int) {x : S26} : ∀ (l b : List S26), x ∈ l.foldl (addm ops) b → (∃ m ∈ l, x.f0 = m.f0 ∧ x.f1 = m.f1) ∨ x ∈ b
  | [], b, h => .inr h
  | m :: l, b, h => by
    rw [List.foldl_cons] at h
    rcases fold_from ops l _ h with ⟨m', h1, h2⟩ | h
    · exact .inl ⟨m', List.mem_cons_of_mem _ h1, h2⟩
    · rcases addm_from ops h with h | h
      · exact .inl ⟨m, by simp, h⟩
      · exact .inr h
theorem comb_okm {l : List S26} (h : ∀ m ∈ l, okm m) : ∀ x ∈ comb two l, okm x := fun x hx => by
  rcases fold_from two l [] hx with ⟨m, hm, h1, h2⟩ | hx
  · have := h m hm
    unfold okm at this ⊢
    rw [h1, h2]
    exact this
  · simp at hx
theorem okm_tk {m : S26} (h : okm m) : inr m ∧ tg two m ∧ takes (opOf two m) := by
  refine ⟨⟨h.1, ?_⟩, ?_, ?_⟩
  · rcases h.2 with h | h <;> rw [h] <;> omega
  · unfold tg two
    rcases h.2 with h | h <;> rw [h] <;> simp
  · unfold opOf two
    rcases h.2 with h | h <;> rw [h]
    · exact .inl rfl
    · exact .inr (.inr (.inl rfl))
theorem comb_two {l : List S26} (h : ∀ m ∈ l, okm m) (hl : l.length ≤ 1000) : mail_Combined.f l two = some ((comb two l).mergeSort le, 0) := by
  unfold mail_Combined.f
  rw [if_pos ⟨fun m hm => (okm_tk (h m hm)).1, by omega, by decide⟩, if_pos fun m hm => (okm_tk (h m hm)).2.1, if_pos fun m hm => (okm_tk (h m hm)).2.2]
theorem k26_ofK {W W' : World} {base : Nat} {ok : Nat → Prop} {z : S26} {cs : List Value} (h : Kd.K k26 W z cs) : Kd.M k26 W' base ok z cs := by
  rw [k26_open h]
  exact k26_mkM _ _ _ z
theorem mone_reads {w W : World} {b : Nat} {y : S26} (h : w.heap[b]? = some (.cells #[.int .i64 y.f0, .int .i64 y.f1, .int .i64 y.f2] 26 (0, 0))) : ReadsRow (Kd.K k26 W) 3 w (some ⟨b, 0, none⟩) 1 [y] := by
  refine ⟨rfl, by omega, fun _ => ⟨_, rfl, fun j q hj => ?_⟩⟩
  have hj0 : j = 0 := by
    have := (List.getElem?_eq_some_iff.1 hj).1
    simp at this; omega
  subst hj0
  simp at hj
  subst hj
  refine ⟨[.int .i64 y.f0, .int .i64 y.f1, .int .i64 y.f2], rfl, k26_mk _ _, fun i u hu => ?_⟩
  rw [add_plain, cell_of h]
  simpa using hu
theorem TW.keepB {w W W' : World} {ga gb Bt Bo : Nat} {v0 v1 va : Value} {l0 l1 la : List S26} {s t c d : Nat → Int} (h : TW w W ga gb Bt Bo v0 v1 va l0 l1 la s t c d) {u : Value} (hg : W.grownBy W' u.ownBlock) (hu : u = v0 ∨ u = v1) : True ∧ W'.heap[Bt]? = some (.cells #[v0, v1] 50 (0, 0)) ∧ True := by
  rcases hu with rfl | rfl
  · exact ⟨trivial, (h.grown h.r0 hg).2.2.1, trivial⟩
  · exact ⟨trivial, (h.grown h.r1 hg).2.2.1, trivial⟩
theorem own_empty (w : World) (b e s : Nat) (hb : b ≤ w.heap.size) : (w.alloc (.cells #[] e (0, 0))).ownsRow b e s (.slice (some ⟨w.heap.size, 0, none⟩) 0 0) 0 [] :=
  ⟨by simp, Or.inr ⟨w.heap.size, 0, #[], rfl, hb, by show (w.heap.push _)[w.heap.size]? = _; simp, Nat.le_refl _, by simp [maxLen], by simp, by simp⟩⟩
theorem R_empty {α : Type} (d : Kd α) (e : Nat) (w : World) (b : Nat) (hb : b ≤ w.heap.size) : Kd.R d e (w.alloc (.cells #[] e (0, 0))) b (fun _ => True) (.slice (some ⟨w.heap.size, 0, none⟩) 0 0) [] :=
  ⟨fun _ _ => trivial, [], own_empty w b e d.sz hb, Reps.none _ _⟩
theorem two_C {w : World} {b : Nat} (h : w.heap[b]? = some (.cells #[.int .u8 1, .int .u8 7] 43 (0, 0))) : Kd.C kb w (some ⟨b, 0, none⟩) two.length two := by
  refine ⟨rfl, by decide, fun _ => ⟨_, rfl, fun j p hj => ⟨[.int .u8 p], rfl, rfl, fun i u hi => ?_⟩⟩⟩
  obtain rfl : i = 0 := by
    have := (List.getElem?_eq_some_iff.1 hi).1
    simp at this; omega
  simp at hi
  subst hi
  rw [add_plain, cell_of h]
  have e1 : j * kb.sz = j := by show j * 1 = j; omega
  rw [e1, Nat.add_zero]
  have : (two.map (Value.int .u8))[j]? = some (.int .u8 p) := by rw [List.getElem?_map, hj]; rfl
  rw [← this, ← List.getElem?_toArray]
  rfl
theorem perm_in0 {la l0 l1 : List S26} {y : S26} (h : la.Perm (l0 ++ l1)) : (la ++ [y]).Perm (l0 ++ [y] ++ l1) := by
  refine (h.append_right [y]).trans ?_
  rw [List.append_assoc, List.append_assoc]
  exact List.perm_append_comm.append_left l0
theorem perm_in1 {la l0 l1 : List S26} {y : S26} (h : la.Perm (l0 ++ l1)) : (la ++ [y]).Perm (l0 ++ (l1 ++ [y])) := by
  refine (h.append_right [y]).trans ?_
  rw [List.append_assoc]
theorem cb_step {c : Nat → Int} {i : Nat} (h : ∀ j, 0 ≤ c j ∧ c j ≤ (i : Int)) (k : Nat) (q : Nat) : 0 ≤ Agg.upd c k (c k + 1) q ∧ Agg.upd c k (c k + 1) q ≤ ((i + 1 : Nat) : Int) := by
  unfold Agg.upd
  have h1 := h k
  have h2 := h q
  split <;> omega
theorem and1 (k : IntKind) (hk : k = .i64 ∨ k = .u64) (y : Int) : Go.bits .and k y 1 = 0 ∨ Go.bits .and k y 1 = 1 := by
  have h : ((BitVec.ofInt 64 y) &&& (BitVec.ofInt 64 1)).toNat ≤ 1 := by
    rw [BitVec.toNat_and]
    exact Nat.le_trans Nat.and_le_right (by decide)
  have e : Go.bits .and k y 1 = k.wrap (((BitVec.ofInt 64 y) &&& (BitVec.ofInt 64 1)).toNat : Int) := by
    rcases hk with rfl | rfl <;> rfl
  rw [e]
  generalize ((BitVec.ofInt 64 y) &&& (BitVec.ofInt 64 1)).toNat = m at h
  have : m = 0 ∨ m = 1 := by omega
  rcases hk with rfl | rfl <;> rcases this with rfl | rfl <;> decide +kernel
set_option maxRecDepth 100000 in
set_option maxHeartbeats 16000000 in
theorem workers_w (w : World) (A : Option Addr) (c : Nat) (l : List S26) (hc : l.length ≤ c) (hr : Kd.C k26 w A l.length l) (hg : l.length ≤ maxLen ∧ ∀ x ∈ l, (Lit.int .i64 x.f0).wf = true ∧ (Lit.int .i64 x.f1).wf = true ∧ (Lit.int .i64 x.f2).wf = true) (hs : l.length * 24 ≤ 140737488351232) (v : Int) (wf : (Lit.int .u64 v).wf = true) (k : Int) (wf2 : (Lit.int .u64 k).wf = true) :
    Calls Try.prog 6 #[.slice A l.length c, .int .u64 v, .int .u64 k] w fun e w' => e = .returned (.bool true) ∧ Below w.heap.size w w' := by
  have hv : 0 ≤ v ∧ v ≤ 18446744073709551615 := by simpa [Lit.wf, IntKind.min, IntKind.max, IntKind.signed, IntKind.bits] using wf
  have hk : 0 ≤ k ∧ k ≤ 18446744073709551615 := by simpa [Lit.wf, IntKind.min, IntKind.max, IntKind.signed, IntKind.bits] using wf2
  have HV := Lib.hid hv
  have HK := Lib.hid hk
  obtain ⟨i26, hi26, z26, s26, b26⟩ := info_parts info26
  have hlm : l.length ≤ 9223372036854775807 := by omega
  have HG : Hid (∀ m ∈ l.take 30, -9223372036854775808 ≤ m.f0 ∧ m.f0 ≤ 9223372036854775807) := Lib.hid fun m hm => by simpa [Lit.wf, IntKind.min, IntKind.max, IntKind.signed, IntKind.bits] using (hg.2 m (List.mem_of_mem_take hm)).1
  have hX := C_take26 30 hr
  have hxl := List.length_take_le 30 l
  have hxc : (l.take 30).length ≤ c := by rw [List.length_take]; omega
  have hRd : num_Reduces.f 3 1 = some (0, true) := rfl
  clear hr hg hs wf wf2 hv hk
  go_enter Try.func6, Try.ntmps6
  by_cases hlong : 30 < l.length
  · have d0 : decide (30 < (l.length : Int)) = true := decide_eq_true (by omega)
    have d1 : decide (30 < l.length) = true := decide_eq_true hlong
    have hct := cut_to (P := Try.prog) 22 26 .i64 Try.underlying22 hi26 A l.length c 30 (by decide) (by omega) hc
    have e30 : (l.take 30).length = 30 := by rw [List.length_take]; omega
    generalize l.take 30 = x at HG hX hxl hxc hct e30
    have hct' : ∀ W, (Instr.slice 22 (.slice A l.length c) none (some (.int .i64 30)) none).run Try.prog W = .ok (.slice A x.length c) W := fun W => by
      rw [hct W, e30]
      rfl
    have HX := Lib.hid hX
    clear hX hct e30 hlong
    go_wp2_with fail
    refine (Agg.new_ok 1 2 0 _ hRd (by omega) (by omega)).mono ?_
    rintro e w1 ⟨rfl, hia, hb1⟩
    have HIA := Lib.hid hia
    have HB1 := Lib.hid (below_then (below_alloc (Below.refl w.heap.size w) (.cells #[.int .u8 1, .int .u8 7] 43)) (below_alloc (Below.refl w.heap.size w) (.cells #[.int .u8 1, .int .u8 7] 43)).size hb1)
    have HOP := Lib.hid ((hb1.block w.heap.size (by simp)).trans (heap_alloc_new w (.cells #[.int .u8 1, .int .u8 7] 43)))
    obtain ⟨ga, hga⟩ : ∃ ga, ga = (w.alloc (.cells #[.int .u8 1, .int .u8 7] 43)).heap.size := ⟨_, rfl⟩
    rw [← hga] at HIA ⊢
    have hgaw : w.heap.size + 1 ≤ ga := by rw [hga]; simp
    clear hia hb1 hga
    go_wp2_with fail
    refine (Agg.new_ok 1 1 0 _ hRd (by omega) (by omega)).mono ?_
    rintro e w2 ⟨rfl, hib, hb2⟩
    have HIB := Lib.hid hib
    have HB2 := Lib.hid (below_then HB1.out HB1.out.size hb2)
    have HIA2 := Lib.hid (HIA.out.below hb2)
    have HOP2 := Lib.hid ((hb2.block _ (Array.getElem?_eq_some_iff.1 HOP.out).1).trans HOP.out)
    obtain ⟨gb, hgb⟩ : ∃ gb, gb = w1.heap.size := ⟨_, rfl⟩
    rw [← hgb] at HIB ⊢
    have hgab : ga < gb := by rw [hgb]; exact HIA.out.lt
    clear hib hb2 hgb
    go_wp2_with fail
    have hTW : TW w (w2.alloc (.cells #[.slice none 0 0, .slice none 0 0] 50)) ga gb w2.heap.size w.heap.size (.slice none 0 0) (.slice none 0 0) (.slice none 0 0) [] [] [] (fun _ => 0) (fun _ => 0) (fun _ => 0) (fun _ => 0) := by
      have hbA := below_alloc (Below.refl w2.heap.size w2) (.cells #[.slice none 0 0, .slice none 0 0] 50)
      exact ⟨HIA2.out.below hbA, HIB.out.below hbA, heap_alloc_new w2 _, (hbA.block _ (Array.getElem?_eq_some_iff.1 HOP2.out).1).trans HOP2.out, Kd.R_nil _ _ _ _ _, Kd.R_nil _ _ _ _ _, Kd.R_nil _ _ _ _ _, fun k h => by simp [Value.ownBlock] at h, fun k h => by simp [Value.ownBlock] at h, fun k h => by simp [Value.ownBlock] at h, below_then HB2.out HB2.out.size hbA, ⟨by omega, by omega, HB2.out.size, Nat.le_refl _, by omega⟩⟩
    have HTW0 := Lib.hid hTW
    obtain ⟨Bt, hBt⟩ : ∃ Bt, Bt = w2.heap.size := ⟨_, rfl⟩
    rw [← hBt] at HTW0 ⊢
    clear hTW hBt HIA HIB HIA2 HOP HOP2
    go_loopw [11, 12] (fun v11 v12 wr => ∃ (i : Nat) (v0 v1 : Value) (l0 l1 : List S26) (s t c d : Nat → Int), i ≤ x.length ∧ v12 = .int .i64 i ∧ TW w wr ga gb Bt w.heap.size v0 v1 v11 l0 l1 ((x.take i).map nw) s t c d ∧ ((x.take i).map nw).Perm (l0 ++ l1) ∧ wrap64 (s 0 + s 1) = wrap64 (t 0) ∧ (∀ j, 0 ≤ c j ∧ c j ≤ i) ∧ (∀ j, 0 ≤ d j ∧ d j ≤ i)) (fun _ v12 _ => x.length - (intOf v12).toNat)
    case atStart => exact ⟨0, _, _, _, _, _, _, _, _, by omega, rfl, HTW0.out, by simp, rfl, fun j => ⟨by omega, by omega⟩, fun j => ⟨by omega, by omega⟩⟩
    case round =>
      clear HTW0 HB1 HB2
      obtain ⟨i, v0, v1, l0, l1, s, t, c, d, hi, rfl, hT, hPm, hSm, hC, hD⟩ := hrel
      obtain ⟨la, hla⟩ : ∃ la, la = (x.take i).map nw := ⟨_, rfl⟩
      rw [← hla] at hT hPm
      obtain ⟨Aa, ca, rfl⟩ := Kd.R_slice hT.ra
      have HLE := Lib.hid hla
      have HTWr := Lib.hid hT
      have HPM := Lib.hid hPm
      have HSM := Lib.hid hSm
      have HCC := Lib.hid hC
      have HDD := Lib.hid hD
      clear hT hPm hSm hC hD hla
      by_cases hlt : i < x.length
      · have d2 : decide ((i : Int) < (x.length : Int)) = true := decide_eq_true (by omega)
        obtain ⟨ad, e, q0, q1, q2⟩ := msg_at HX.out hlt
        subst e
        replace q0 := (HTWr.out.bl.cell (World.block_lt_of_cell? w _ q0)).trans q0
        replace q1 := (HTWr.out.bl.cell (World.block_lt_of_cell? w _ q1)).trans q1
        replace q2 := (HTWr.out.bl.cell (World.block_lt_of_cell? w _ q2)).trans q2
        have hnx : (x.take (i + 1)).map nw = la ++ [nw x[i]] := by rw [HLE.out, List.take_succ_eq_append_getElem hlt, List.map_append]; rfl
        have HNX := Lib.hid hnx
        clear hnx
        generalize x[i] = z at q0 q1 q2 HNX
        go_wp2_with fail
        obtain ⟨y, hy⟩ : ∃ y, y = nw z := ⟨_, rfl⟩
        rw [← hy] at HNX
        have hy0 : y.f0 = z.f0 := by rw [hy]; rfl
        have hy1 : y.f1 = Go.bits .and .i64 z.f1 1 := by rw [hy]; rfl
        have hy2 : y.f2 = z.f2 := by rw [hy]; rfl
        obtain ⟨Bm, hBm⟩ : ∃ Bm, Bm = wr.heap.size := ⟨_, rfl⟩
        rw [← hy0, ← hy1, ← hy2, ← hBm]
        have hbx : (wr.alloc (.cells #[.int .i64 y.f0, .int .i64 y.f1, .int .i64 y.f2] 26)).heap[Bm]? = some (.cells #[.int .i64 y.f0, .int .i64 y.f1, .int .i64 y.f2] 26 (0, 0)) := by rw [hBm]; exact heap_alloc_new wr _
        have hTq := HTWr.out.below (below_alloc (Below.refl wr.heap.size wr) (.cells #[.int .i64 y.f0, .int .i64 y.f1, .int .i64 y.f2] 26))
        have HL0 : Hid (∀ q, v0.ownBlock = some q → q < Bm) := Lib.hid (by rw [hBm]; exact Kd.R_lt HTWr.out.r0)
        have HL1 : Hid (∀ q, v1.ownBlock = some q → q < Bm) := Lib.hid (by rw [hBm]; exact Kd.R_lt HTWr.out.r1)
        have HLA := Lib.hid (Kd.R_lt HTWr.out.ra)
        rw [← hBm] at HLA
        generalize wr.alloc (.cells #[.int .i64 y.f0, .int .i64 y.f1, .int .i64 y.f2] 26) = yq at hbx hTq ⊢
        have HTW := Lib.hid hTq
        have HBM := Lib.hid hbx
        have hlens := HPM.out.length_eq
        rw [List.length_append] at hlens
        have hla2 : la.length = (x.take i).length := by rw [HLE.out, List.length_map]
        have hli : (x.take i).length ≤ 30 := by rw [List.length_take]; omega
        have HLN0 : Hid (l0.length + 1 ≤ 40) := Lib.hid (by omega)
        have HLN1 : Hid (l1.length + 1 ≤ 40) := Lib.hid (by omega)
        have HLNA : Hid (la.length + 1 ≤ 40) := Lib.hid (by omega)
        have hblt : Bm < yq.heap.size := (Array.getElem?_eq_some_iff.1 hbx).1
        have mm0 : yq.cell? ⟨Bm, 0, none⟩ = some (.int .i64 y.f0) := (cell_of hbx).trans rfl
        have mm1 : yq.cell? ⟨Bm, 1, none⟩ = some (.int .i64 y.f1) := (cell_of hbx).trans rfl
        have mm2 : yq.cell? ⟨Bm, 2, none⟩ = some (.int .i64 y.f2) := (cell_of hbx).trans rfl
        have m0 : yq.drew.cell? ⟨Bm, 0, none⟩ = some (.int .i64 y.f0) := mm0
        have m1 : yq.drew.cell? ⟨Bm, 1, none⟩ = some (.int .i64 y.f1) := mm1
        have m2 : yq.drew.cell? ⟨Bm, 2, none⟩ = some (.int .i64 y.f2) := mm2
        have hBtBm : Bt ≠ Bm := fun z => by have := hTq.bt; rw [z, hbx] at this; cases this
        clear q0 q1 q2 hbx hTq hy hy0 hy1 hy2 hBm hla2 mm0 mm1 mm2 hlens HTWr
        rcases and1 .u64 (.inr rfl) (v / 2 ^ i) with hw | hw
        · rw [hw, show wrap64 0 = 0 from (by unfold wrap64; omega)]
          have b0 : yq.drew.cell? ⟨Bt, 0, none⟩ = some v0 := (cell_of HTW.out.bt).trans rfl
          clear hw
          refine start_ (n := 9) (S := fun w' => w'.cell? ⟨Bt, 0, none⟩ = some v0 ∧ w'.cell? ⟨Bm, 0, none⟩ = some (.int .i64 y.f0) ∧ w'.cell? ⟨Bm, 1, none⟩ = some (.int .i64 y.f1) ∧ w'.cell? ⟨Bm, 2, none⟩ = some (.int .i64 y.f2)) (ds := [6, 8]) #[false, false, false, false, false, false, false, false, false] (by kernel_rfl) rfl rfl ⟨b0, m0, m1, m2⟩ (fun hHeld => ?_)
          refine pure_ (i := 0) (N := some 61) (v := ?_) (a' := ?_) #[true, false, false, false, false, false, false, false, false] rfl rfl (by kernel_rfl) (fun _ _ _ h => h) (Or.inl ⟨by rfl, ?_⟩) ?_ ?_
          rotate_left
          · intro w'
            go_simp
            with_reducible rfl
          rotate_left
          · simp only [Act.put, List.setIfInBounds_toArray, List.set_cons_zero, List.set_cons_succ, i64_w, i32_w]
            rfl
          refine pure_ (i := 1) (N := some 62) (v := ?_) (a' := ?_) #[true, true, false, false, false, false, false, false, false] rfl rfl (by kernel_rfl) (fun _ _ _ h => h) (Or.inl ⟨by rfl, ?_⟩) ?_ ?_
          rotate_left
          · intro w'
            go_simp
            with_reducible rfl
          rotate_left
          · simp only [Act.put, List.setIfInBounds_toArray, List.set_cons_zero, List.set_cons_succ, i64_w, i32_w]
            rfl
          refine pure_ (i := 2) (N := some 63) (v := ?_) (a' := ?_) #[true, true, true, false, false, false, false, false, false] rfl rfl (by kernel_rfl) (fun _ _ _ h => h) (Or.inl ⟨by rfl, ?_⟩) ?_ ?_
          rotate_left
          · intro w'
            go_simp
            with_reducible rfl
          rotate_left
          · simp only [Act.put, List.setIfInBounds_toArray, List.set_cons_zero, List.set_cons_succ, i64_w, i32_w]
            rfl
          refine take_ (i := 3) (N := some 64) (v := ?_) (a' := ?_) #[true, true, true, true, false, false, false, false, false] rfl rfl (by kernel_rfl) (fun _ _ _ h => h) (Or.inl ⟨by rfl, ?_⟩) hHeld ?_ ?_
          rotate_left
          · rintro w' ⟨s0, s1, s2, s3⟩
            go_simp
            with_reducible rfl
          rotate_left
          · simp only [Act.put, List.setIfInBounds_toArray, List.set_cons_zero, List.set_cons_succ, i64_w, i32_w]
            rfl
          refine take_ (i := 4) (N := some 65) (v := ?_) (a' := ?_) #[true, true, true, true, true, false, false, false, false] rfl rfl (by kernel_rfl) (fun _ _ _ h => h) (Or.inl ⟨by rfl, ?_⟩) hHeld ?_ ?_
          rotate_left
          · rintro w' ⟨s0, s1, s2, s3⟩
            go_simp
            with_reducible rfl
          rotate_left
          · simp only [Act.put, List.setIfInBounds_toArray, List.set_cons_zero, List.set_cons_succ, i64_w, i32_w]
            rfl
          refine one_ (i := 5) (N := some 66) #[true, true, true, true, true, true, false, false, false] rfl rfl (by kernel_rfl) (by decide) (fun K hK => ?_)
          refine value_ (w1 := yq.drew.alloc (.cells #[.int .i64 y.f0, .int .i64 y.f1, .int .i64 y.f2] 26)) (v := .slice (some ⟨yq.drew.heap.size, 0, none⟩) 1 1) (by rfl) rfl ?_ ?_
          · go_simp
          have hbA := below_alloc (Below.refl yq.drew.heap.size yq.drew) (.cells #[.int .i64 y.f0, .int .i64 y.f1, .int .i64 y.f2] 26)
          have hnew := heap_alloc_new yq.drew (.cells #[.int .i64 y.f0, .int .i64 y.f1, .int .i64 y.f2] 26)
          have hB7 := below_then (below_drew1 (Below.refl yq.heap.size yq)) (below_drew1 (Below.refl yq.heap.size yq)).size hbA
          refine hK.out _ _ ⟨pw_cell_below hbA b0, pw_cell_below hbA m0, pw_cell_below hbA m1, pw_cell_below hbA m2⟩ (fun hHeld => ?_)
          clear hK K
          refine norm_ (a' := ?_) ?_ ?_
          rotate_left
          · show Act.put _ (some 66) _ = _
            simp only [Act.put, List.setIfInBounds_toArray, List.set_cons_zero, List.set_cons_succ, i64_w, i32_w]
            rfl
          refine last_ (i := 6) (N := some 67) #[true, true, true, true, true, true, true, false, false] rfl rfl (by kernel_rfl) (by decide) (fun K hK => ?_)
          refine Kd.R_append_rows_step k26 (Rr := Kd.K k26 yq) (w0 := w) w.heap.size (by rfl) (.tmp 64) (.tmp 66) 22 26 (.agg #[(.int .i64 0), (.int .i64 0), (.int .i64 0)]) 24 rfl Try.underlying22 info26 rfl (by decide) (by decide) v0 l0 [y] (some ⟨yq.drew.heap.size, 0, none⟩) 1 1 (fun _ => True) (fun _ => False) rfl rfl (Kd.R_below HTW.out.r0 hB7) (mone_reads hnew) (fun z cs hz => k26_ofK hz) (fun _ h => h.elim) (fun _ _ => trivial) (below_then HTW.out.bl HTW.out.bl.size hB7) (Nat.le_trans HTW.out.bl.size hB7.size) ?aL ?_
          (case aL => (have := HLN0.out; omega))
          intro vq y12 hV hB12 hG hat
          obtain ⟨Aq, cq, hq⟩ := Kd.R_slice hV
          rw [List.length_append, List.length_singleton] at hq
          subst hq
          obtain ⟨_, hbt12, _⟩ := (HTW.out.below hB7).keepB hG (.inl rfl)
          have hfr := free_of hbt12 0
          refine hK.out _ _ ?_
          clear hK K
          refine norm_ (a' := ?_) ?_ ?_
          rotate_left
          · show Act.put _ (some 67) _ = _
            simp only [Act.put, List.setIfInBounds_toArray, List.set_cons_zero, List.set_cons_succ, i64_w, i32_w]
            rfl
          refine pure_ (i := 7) (N := some 68) (v := ?_) (a' := ?_) #[true, true, true, true, true, true, true, true, false] rfl rfl (by kernel_rfl) (fun _ _ _ h => h) (Or.inl ⟨by rfl, ?_⟩) ?_ ?_
          rotate_left
          · intro w'
            go_simp
            with_reducible rfl
          rotate_left
          · simp only [Act.put, List.setIfInBounds_toArray, List.set_cons_zero, List.set_cons_succ, i64_w, i32_w]
            rfl
          refine last_ (i := 8) (N := none) #[true, true, true, true, true, true, true, true, true] rfl rfl (by kernel_rfl) (by decide) (fun K hK => ?_)
          have hcb := (cell_of hbt12 (i := 0)).trans rfl
          refine skip_ (w1 := ?_) (by rfl) rfl ?_ ?_
          rotate_left
          · go_simp
            rfl
          refine hK.out _ _ ?_
          clear hK K
          refine done_ (by kernel_rfl) ?_
          have hbm12 : y12.heap[Bm]? = some (.cells #[.int .i64 y.f0, .int .i64 y.f1, .int .i64 y.f2] 26 (0, 0)) := (hG.block Bm (Nat.lt_of_lt_of_le hblt hB7.size) (fun z => by have := HL0.out Bm z.symm; omega)).trans ((hB7.block Bm hblt).trans HBM.out)
          have hTp := HTW.out.put0 hB7 hV hG hat
          have hbs : (y12.setCell ⟨Bt, 0, none⟩ (.slice Aq (l0.length + 1) cq)).heap[Bm]? = some (.cells #[.int .i64 y.f0, .int .i64 y.f1, .int .i64 y.f2] 26 (0, 0)) := (Below.heap_setCell _ _ _ _ (fun z => hBtBm z.symm)).trans hbm12
          have HTP := Lib.hid hTp
          have HBS := Lib.hid hbs
          clear hbm12 hTp hbs hV hB12 hG hat hbA hnew hB7 hbt12 hfr hcb b0 m0 m1 m2 hHeld
          generalize y12.setCell ⟨Bt, 0, none⟩ (.slice Aq (l0.length + 1) cq) = W2 at HTP HBS ⊢
          obtain ⟨vw, hvw⟩ : ∃ vw, vw = Value.slice Aq (l0.length + 1) cq := ⟨_, rfl⟩
          rw [← hvw] at HTP
          clear hvw
          have n0 : W2.cell? ⟨Bm, 0, none⟩ = some (.int .i64 y.f0) := (cell_of HBS.out).trans rfl
          have n1 : W2.cell? ⟨Bm, 1, none⟩ = some (.int .i64 y.f1) := (cell_of HBS.out).trans rfl
          have n2 : W2.cell? ⟨Bm, 2, none⟩ = some (.int .i64 y.f2) := (cell_of HBS.out).trans rfl
          go_wp2_with (at_builtin; go_loud (refine Kd.R_append k26 (w0 := w) w.heap.size rfl (.tmp 69) (.tmp 71) 22 26 (.agg #[(.int .i64 0), (.int .i64 0), (.int .i64 0)]) 24 rfl Try.underlying22 info26 rfl (by decide) (by decide) (.slice Aa la.length ca) la y [.int .i64 y.f0, .int .i64 y.f1, .int .i64 y.f2] (fun _ => True) (fun _ => False) rfl ?aX ?aP (fun _ h => h.elim) (fun _ _ => trivial) HTP.out.ra HTP.out.bl HTP.out.bl.size ?aL ?_; (case aX => rfl); (case aP => exact k26_mkM _ _ _ y); (case aL => (have := HLNA.out; omega)); intro v9 w9 hV9 hB9 hG9 hat9; have hbm9 := (hG9.block Bm (Array.getElem?_eq_some_iff.1 HBS.out).1 (fun z => by have := HLA.out Bm z.symm; omega)).trans HBS.out; have n29 : w9.cell? ⟨Bm, 2, none⟩ = some (.int .i64 y.f2) := (cell_of hbm9).trans rfl; have hT9 := HTP.out.putA (Below.refl _ _) hV9 hG9 hat9; have HT9 := Lib.hid hT9; have HBM9 := Lib.hid hbm9; clear hV9 hB9 hG9 hat9 hT9 hbm9))
          refine (Agg.take_ok ga 1 0 2 y.f2 0 s c w9 HT9.out.a (.inl rfl) (by omega) (by omega) (by omega) (by have := HCC.out (0 : Int).toNat; omega)).mono ?_
          rintro e w10 ⟨rfl, hA10, hG10⟩
          have hbm10 := (hG10.block Bm (Array.getElem?_eq_some_iff.1 HBM9.out).1 (fun z => by injection z with z; have := HT9.out.a; unfold IsA at this; rw [← z, HBM9.out] at this; cases this)).trans HBM9.out
          have n210 : w10.cell? ⟨Bm, 2, none⟩ = some (.int .i64 y.f2) := (cell_of hbm10).trans rfl
          have HT10 := Lib.hid (HT9.out.takeA hA10 hG10)
          have HBM10 := Lib.hid hbm10
          clear hA10 hG10 hbm10 n29 n0 n1 n2
          go_wp2_with fail
          refine (Agg.take_ok gb 1 0 1 y.f2 0 t d w10 HT10.out.b (.inl rfl) (by omega) (by omega) (by omega) (by have := HDD.out (0 : Int).toNat; omega)).mono ?_
          rintro e w11 ⟨rfl, hA11, hG11⟩
          have HT11 := Lib.hid (HT10.out.takeB hA11 hG11)
          clear hA11 hG11 n210
          go_wp2_with fail
          go_roundw
          case rel => exact ⟨i + 1, vw, v1, l0 ++ [y], l1, _, _, _, _, by omega, by go_num, by rw [HNX.out]; exact HT11.out, by rw [HNX.out]; exact perm_in0 HPM.out, (sum_step HSM.out).1, fun q => cb_step HCC.out _ q, fun q => cb_step HDD.out _ q⟩
          case measure => simp [intOf]; omega
        · rw [hw, show wrap64 1 = 1 from (by unfold wrap64; omega)]
          have b0 : yq.drew.cell? ⟨Bt, 1, none⟩ = some v1 := (cell_of HTW.out.bt).trans rfl
          clear hw
          refine start_ (n := 9) (S := fun w' => w'.cell? ⟨Bt, 1, none⟩ = some v1 ∧ w'.cell? ⟨Bm, 0, none⟩ = some (.int .i64 y.f0) ∧ w'.cell? ⟨Bm, 1, none⟩ = some (.int .i64 y.f1) ∧ w'.cell? ⟨Bm, 2, none⟩ = some (.int .i64 y.f2)) (ds := [6, 8]) #[false, false, false, false, false, false, false, false, false] (by kernel_rfl) rfl rfl ⟨b0, m0, m1, m2⟩ (fun hHeld => ?_)
          refine pure_ (i := 0) (N := some 61) (v := ?_) (a' := ?_) #[true, false, false, false, false, false, false, false, false] rfl rfl (by kernel_rfl) (fun _ _ _ h => h) (Or.inl ⟨by rfl, ?_⟩) ?_ ?_
          rotate_left
          · intro w'
            go_simp
            with_reducible rfl
          rotate_left
          · simp only [Act.put, List.setIfInBounds_toArray, List.set_cons_zero, List.set_cons_succ, i64_w, i32_w]
            rfl
          refine pure_ (i := 1) (N := some 62) (v := ?_) (a' := ?_) #[true, true, false, false, false, false, false, false, false] rfl rfl (by kernel_rfl) (fun _ _ _ h => h) (Or.inl ⟨by rfl, ?_⟩) ?_ ?_
          rotate_left
          · intro w'
            go_simp
            with_reducible rfl
          rotate_left
          · simp only [Act.put, List.setIfInBounds_toArray, List.set_cons_zero, List.set_cons_succ, i64_w, i32_w]
            rfl
          refine pure_ (i := 2) (N := some 63) (v := ?_) (a' := ?_) #[true, true, true, false, false, false, false, false, false] rfl rfl (by kernel_rfl) (fun _ _ _ h => h) (Or.inl ⟨by rfl, ?_⟩) ?_ ?_
          rotate_left
          · intro w'
            go_simp
            with_reducible rfl
          rotate_left
          · simp only [Act.put, List.setIfInBounds_toArray, List.set_cons_zero, List.set_cons_succ, i64_w, i32_w]
            rfl
          refine take_ (i := 3) (N := some 64) (v := ?_) (a' := ?_) #[true, true, true, true, false, false, false, false, false] rfl rfl (by kernel_rfl) (fun _ _ _ h => h) (Or.inl ⟨by rfl, ?_⟩) hHeld ?_ ?_
          rotate_left
          · rintro w' ⟨s0, s1, s2, s3⟩
            go_simp
            with_reducible rfl
          rotate_left
          · simp only [Act.put, List.setIfInBounds_toArray, List.set_cons_zero, List.set_cons_succ, i64_w, i32_w]
            rfl
          refine take_ (i := 4) (N := some 65) (v := ?_) (a' := ?_) #[true, true, true, true, true, false, false, false, false] rfl rfl (by kernel_rfl) (fun _ _ _ h => h) (Or.inl ⟨by rfl, ?_⟩) hHeld ?_ ?_
          rotate_left
          · rintro w' ⟨s0, s1, s2, s3⟩
            go_simp
            with_reducible rfl
          rotate_left
          · simp only [Act.put, List.setIfInBounds_toArray, List.set_cons_zero, List.set_cons_succ, i64_w, i32_w]
            rfl
          refine one_ (i := 5) (N := some 66) #[true, true, true, true, true, true, false, false, false] rfl rfl (by kernel_rfl) (by decide) (fun K hK => ?_)
          refine value_ (w1 := yq.drew.alloc (.cells #[.int .i64 y.f0, .int .i64 y.f1, .int .i64 y.f2] 26)) (v := .slice (some ⟨yq.drew.heap.size, 0, none⟩) 1 1) (by rfl) rfl ?_ ?_
          · go_simp
          have hbA := below_alloc (Below.refl yq.drew.heap.size yq.drew) (.cells #[.int .i64 y.f0, .int .i64 y.f1, .int .i64 y.f2] 26)
          have hnew := heap_alloc_new yq.drew (.cells #[.int .i64 y.f0, .int .i64 y.f1, .int .i64 y.f2] 26)
          have hB7 := below_then (below_drew1 (Below.refl yq.heap.size yq)) (below_drew1 (Below.refl yq.heap.size yq)).size hbA
          refine hK.out _ _ ⟨pw_cell_below hbA b0, pw_cell_below hbA m0, pw_cell_below hbA m1, pw_cell_below hbA m2⟩ (fun hHeld => ?_)
          clear hK K
          refine norm_ (a' := ?_) ?_ ?_
          rotate_left
          · show Act.put _ (some 66) _ = _
            simp only [Act.put, List.setIfInBounds_toArray, List.set_cons_zero, List.set_cons_succ, i64_w, i32_w]
            rfl
          refine last_ (i := 6) (N := some 67) #[true, true, true, true, true, true, true, false, false] rfl rfl (by kernel_rfl) (by decide) (fun K hK => ?_)
          refine Kd.R_append_rows_step k26 (Rr := Kd.K k26 yq) (w0 := w) w.heap.size (by rfl) (.tmp 64) (.tmp 66) 22 26 (.agg #[(.int .i64 0), (.int .i64 0), (.int .i64 0)]) 24 rfl Try.underlying22 info26 rfl (by decide) (by decide) v1 l1 [y] (some ⟨yq.drew.heap.size, 0, none⟩) 1 1 (fun _ => True) (fun _ => False) rfl rfl (Kd.R_below HTW.out.r1 hB7) (mone_reads hnew) (fun z cs hz => k26_ofK hz) (fun _ h => h.elim) (fun _ _ => trivial) (below_then HTW.out.bl HTW.out.bl.size hB7) (Nat.le_trans HTW.out.bl.size hB7.size) ?aL ?_
          (case aL => (have := HLN1.out; omega))
          intro vq y12 hV hB12 hG hat
          obtain ⟨Aq, cq, hq⟩ := Kd.R_slice hV
          rw [List.length_append, List.length_singleton] at hq
          subst hq
          obtain ⟨_, hbt12, _⟩ := (HTW.out.below hB7).keepB hG (.inr rfl)
          have hfr := free_of hbt12 1
          refine hK.out _ _ ?_
          clear hK K
          refine norm_ (a' := ?_) ?_ ?_
          rotate_left
          · show Act.put _ (some 67) _ = _
            simp only [Act.put, List.setIfInBounds_toArray, List.set_cons_zero, List.set_cons_succ, i64_w, i32_w]
            rfl
          refine pure_ (i := 7) (N := some 68) (v := ?_) (a' := ?_) #[true, true, true, true, true, true, true, true, false] rfl rfl (by kernel_rfl) (fun _ _ _ h => h) (Or.inl ⟨by rfl, ?_⟩) ?_ ?_
          rotate_left
          · intro w'
            go_simp
            with_reducible rfl
          rotate_left
          · simp only [Act.put, List.setIfInBounds_toArray, List.set_cons_zero, List.set_cons_succ, i64_w, i32_w]
            rfl
          refine last_ (i := 8) (N := none) #[true, true, true, true, true, true, true, true, true] rfl rfl (by kernel_rfl) (by decide) (fun K hK => ?_)
          have hcb := (cell_of hbt12 (i := 1)).trans rfl
          refine skip_ (w1 := ?_) (by rfl) rfl ?_ ?_
          rotate_left
          · go_simp
            rfl
          refine hK.out _ _ ?_
          clear hK K
          refine done_ (by kernel_rfl) ?_
          have hbm12 : y12.heap[Bm]? = some (.cells #[.int .i64 y.f0, .int .i64 y.f1, .int .i64 y.f2] 26 (0, 0)) := (hG.block Bm (Nat.lt_of_lt_of_le hblt hB7.size) (fun z => by have := HL1.out Bm z.symm; omega)).trans ((hB7.block Bm hblt).trans HBM.out)
          have hTp := HTW.out.put1 hB7 hV hG hat
          have hbs : (y12.setCell ⟨Bt, 1, none⟩ (.slice Aq (l1.length + 1) cq)).heap[Bm]? = some (.cells #[.int .i64 y.f0, .int .i64 y.f1, .int .i64 y.f2] 26 (0, 0)) := (Below.heap_setCell _ _ _ _ (fun z => hBtBm z.symm)).trans hbm12
          have HTP := Lib.hid hTp
          have HBS := Lib.hid hbs
          clear hbm12 hTp hbs hV hB12 hG hat hbA hnew hB7 hbt12 hfr hcb b0 m0 m1 m2 hHeld
          generalize y12.setCell ⟨Bt, 1, none⟩ (.slice Aq (l1.length + 1) cq) = W2 at HTP HBS ⊢
          obtain ⟨vw, hvw⟩ : ∃ vw, vw = Value.slice Aq (l1.length + 1) cq := ⟨_, rfl⟩
          rw [← hvw] at HTP
          clear hvw
          have n0 : W2.cell? ⟨Bm, 0, none⟩ = some (.int .i64 y.f0) := (cell_of HBS.out).trans rfl
          have n1 : W2.cell? ⟨Bm, 1, none⟩ = some (.int .i64 y.f1) := (cell_of HBS.out).trans rfl
          have n2 : W2.cell? ⟨Bm, 2, none⟩ = some (.int .i64 y.f2) := (cell_of HBS.out).trans rfl
          go_wp2_with (at_builtin; go_loud (refine Kd.R_append k26 (w0 := w) w.heap.size rfl (.tmp 69) (.tmp 71) 22 26 (.agg #[(.int .i64 0), (.int .i64 0), (.int .i64 0)]) 24 rfl Try.underlying22 info26 rfl (by decide) (by decide) (.slice Aa la.length ca) la y [.int .i64 y.f0, .int .i64 y.f1, .int .i64 y.f2] (fun _ => True) (fun _ => False) rfl ?aX ?aP (fun _ h => h.elim) (fun _ _ => trivial) HTP.out.ra HTP.out.bl HTP.out.bl.size ?aL ?_; (case aX => rfl); (case aP => exact k26_mkM _ _ _ y); (case aL => (have := HLNA.out; omega)); intro v9 w9 hV9 hB9 hG9 hat9; have hbm9 := (hG9.block Bm (Array.getElem?_eq_some_iff.1 HBS.out).1 (fun z => by have := HLA.out Bm z.symm; omega)).trans HBS.out; have n29 : w9.cell? ⟨Bm, 2, none⟩ = some (.int .i64 y.f2) := (cell_of hbm9).trans rfl; have hT9 := HTP.out.putA (Below.refl _ _) hV9 hG9 hat9; have HT9 := Lib.hid hT9; have HBM9 := Lib.hid hbm9; clear hV9 hB9 hG9 hat9 hT9 hbm9))
          refine (Agg.take_ok ga 1 0 2 y.f2 1 s c w9 HT9.out.a (.inl rfl) (by omega) (by omega) (by omega) (by have := HCC.out (1 : Int).toNat; omega)).mono ?_
          rintro e w10 ⟨rfl, hA10, hG10⟩
          have hbm10 := (hG10.block Bm (Array.getElem?_eq_some_iff.1 HBM9.out).1 (fun z => by injection z with z; have := HT9.out.a; unfold IsA at this; rw [← z, HBM9.out] at this; cases this)).trans HBM9.out
          have n210 : w10.cell? ⟨Bm, 2, none⟩ = some (.int .i64 y.f2) := (cell_of hbm10).trans rfl
          have HT10 := Lib.hid (HT9.out.takeA hA10 hG10)
          have HBM10 := Lib.hid hbm10
          clear hA10 hG10 hbm10 n29 n0 n1 n2
          go_wp2_with fail
          refine (Agg.take_ok gb 1 0 1 y.f2 0 t d w10 HT10.out.b (.inl rfl) (by omega) (by omega) (by omega) (by have := HDD.out (0 : Int).toNat; omega)).mono ?_
          rintro e w11 ⟨rfl, hA11, hG11⟩
          have HT11 := Lib.hid (HT10.out.takeB hA11 hG11)
          clear hA11 hG11 n210
          go_wp2_with fail
          go_roundw
          case rel => exact ⟨i + 1, v0, vw, l0, l1 ++ [y], _, _, _, _, by omega, by go_num, by rw [HNX.out]; exact HT11.out, by rw [HNX.out]; exact perm_in1 HPM.out, (sum_step HSM.out).2, fun q => cb_step HCC.out _ q, fun q => cb_step HDD.out _ q⟩
          case measure => simp [intOf]; omega
      · obtain ⟨kn, hkn⟩ : ∃ kn : Nat, k = (kn : Int) := ⟨k.toNat, by have := HK.out; omega⟩
        subst hkn
        have HKN : Hid ((kn : Int) ≤ 18446744073709551615) := Lib.hid HK.out.2
        have d2 : decide ((i : Int) < (x.length : Int)) = false := decide_eq_false (by omega)
        have hie : i = x.length := by omega
        have hle := HLE.out
        rw [hie, List.take_length] at hle
        have hok : ∀ m ∈ la, okm m := fun m hm => by
          rw [hle] at hm
          obtain ⟨z, hz, rfl⟩ := List.mem_map.1 hm
          exact ⟨HG.out z hz, and1 .i64 (.inl rfl) z.f1⟩
        have hll : la.length ≤ 30 := by rw [hle, List.length_map]; exact hxl
        have hp2 := HPM.out
        have hlen2 := hp2.length_eq
        rw [List.length_append] at hlen2
        have hk0 : ∀ m ∈ l0, okm m := fun m hm => hok m (hp2.mem_iff.2 (by simp [hm]))
        have hk1 : ∀ m ∈ l1, okm m := fun m hm => hok m (hp2.mem_iff.2 (by simp [hm]))
        have hcm0 := comb_two hk0 (by omega)
        have hcm1 := comb_two hk1 (by omega)
        have hcmA := comb_two hok (by omega)
        have hX : ((comb two l0).mergeSort le).Perm (comb two l0) := List.mergeSort_perm _ _
        have hY : ((comb two l1).mergeSort le).Perm (comb two l1) := List.mergeSort_perm _ _
        have hXl : ((comb two l0).mergeSort le).length ≤ 30 := by rw [hX.length_eq]; have := fold_len two l0 []; unfold comb; simp at this; omega
        have hYl : ((comb two l1).mergeSort le).length ≤ 30 := by rw [hY.length_eq]; have := fold_len two l1 []; unfold comb; simp at this; omega
        have hZp : ∀ q, (turnl ((comb two l1).mergeSort le ++ (comb two l0).mergeSort le) q).Perm (comb two l1 ++ comb two l0) := fun q => (turnl_perm _ q).trans (hY.append hX)
        have hzok : ∀ q, ∀ m ∈ turnl ((comb two l1).mergeSort le ++ (comb two l0).mergeSort le) q, okm m := fun q m hm => by
          rcases List.mem_append.1 ((hZp q).mem_iff.1 hm) with h | h
          · exact comb_okm hk1 m h
          · exact comb_okm hk0 m h
        have hzl : ∀ q, (turnl ((comb two l1).mergeSort le ++ (comb two l0).mergeSort le) q).length ≤ 60 := fun q => by rw [(turnl_perm _ q).length_eq, List.length_append]; omega
        have hcmZ := fun q => comb_two (hzok q) (by have := hzl q; omega)
        have hres : ∀ q, (comb two (turnl ((comb two l1).mergeSort le ++ (comb two l0).mergeSort le) q)).mergeSort le = (comb two la).mergeSort le := fun q => sort_perm (workers_comb two l0 l1 la _ hp2 (fun m hm => (okm_tk (hok m hm)).2.2) (hZp q))
        have hRl : ((comb two la).mergeSort le).length ≤ 30 := by rw [(List.mergeSort_perm _ _).length_eq]; have := fold_len two la []; unfold comb; simp at this; omega
        obtain ⟨A0, c0, e0, hC0, hc0⟩ := R_c HTWr.out.r0
        obtain ⟨A1, c1, e1, hC1, hc1⟩ := R_c HTWr.out.r1
        obtain ⟨A9, c9, e9, hC9, hc9⟩ := R_c HTWr.out.ra
        subst e0; subst e1
        obtain ⟨rfl, rfl⟩ : Aa = A9 ∧ ca = c9 := by injection e9 with q1 _ q3; exact ⟨q1, q3⟩
        have hTW2 := two_C HTWr.out.op
        have HC0 := Lib.hid hC0
        have HC1 := Lib.hid hC1
        have HC9 := Lib.hid hC9
        have HC2 := Lib.hid hTW2
        have HM0 := Lib.hid hcm0
        have HM1 := Lib.hid hcm1
        have HMA := Lib.hid hcmA
        have HMZ := Lib.hid hcmZ
        have HZL := Lib.hid hzl
        have HRES := Lib.hid hres
        have t0 : wr.cell? ⟨Bt, 0, none⟩ = some (.slice A0 l0.length c0) := (cell_of HTWr.out.bt).trans rfl
        have t1 : wr.cell? ⟨Bt, 1, none⟩ = some (.slice A1 l1.length c1) := (cell_of HTWr.out.bt).trans rfl
        generalize (comb two l0).mergeSort le = X at HM0 HMZ HZL HRES hXl
        generalize (comb two l1).mergeSort le = Y at HM1 HMZ HZL HRES hYl
        generalize (comb two la).mergeSort le = RR_ at HMA HRES hRl
        clear e9 hC0 hC1 hC9 hTW2 hcm0 hcm1 hcmA hcmZ hzl hzok hZp hX hY hres hle hok hp2 hlen2 hk0 hk1 hie
        go_wp2_with fail
        refine (mail_Combined.calls A0 c0 l0 (some ⟨w.heap.size, 0, none⟩) 2 two _ 0 wr HC0.out hc0 HC2.out (by decide) HM0.out).mono ?_
        rintro e w1 ⟨v15, rfl, hV15, hb1⟩
        have HT1 := Lib.hid (HTWr.out.below hb1)
        have HBB1 := Lib.hid hb1
        have HV15 := Lib.hid hV15
        have u1' := pw_cell_below hb1 t1
        clear hV15 hb1 t0 t1
        go_wp2_with fail
        refine (mail_Combined.calls A1 c1 l1 (some ⟨w.heap.size, 0, none⟩) 2 two _ 0 w1 (Kd.C_below HC1.out HBB1.out) hc1 (Kd.C_below HC2.out HBB1.out) (by decide) HM1.out).mono ?_
        rintro e w2 ⟨v17, rfl, hV17, hb2⟩
        have HBB2 := Lib.hid (below_then HBB1.out HBB1.out.size hb2)
        have HV17 := Lib.hid hV17
        have HV152 := Lib.hid (Kd.R_below HV15.out hb2)
        clear hV17 hb2 u1'
        obtain ⟨A15, c15, rfl, hC15, hc15⟩ := R_c HV152.out
        obtain ⟨A17, c17, rfl, hC17, hc17⟩ := R_c HV17.out
        have HC15 := Lib.hid hC15
        have HC17 := Lib.hid hC17
        clear hC15 hC17
        go_wp2_with (first | ((with_reducible refine gate_builtin (b := .append) (xs := #[.tmp 101, .tmp 102]) rfl ?_); at_builtin; go_loud (refine Kd.R_append_rows k26 (Rr := Kd.K k26 (w2.alloc (.cells #[] 26))) (w0 := w2) w2.heap.size rfl (.tmp 101) (.tmp 102) 22 26 (.agg #[(.int .i64 0), (.int .i64 0), (.int .i64 0)]) 24 rfl Try.underlying22 info26 rfl (by decide) (by decide) (.slice (some ⟨w2.heap.size, 0, none⟩) 0 0) [] Y A17 Y.length c17 (fun _ => True) (fun _ => False) rfl rfl (R_empty k26 26 w2 w2.heap.size (Nat.le_refl _)) (Kd.C_below HC17.out (below_alloc (Below.refl _ _) _)) (fun z cs h => k26_ofK h) (fun _ h => h.elim) (fun _ _ => trivial) (below_alloc (Below.refl _ _) _) (below_alloc (Below.refl w2.heap.size w2) (.cells #[] 26)).size (by simp; omega) ?_; intro v18 w3 hV18 hB18 _ _; rw [List.nil_append] at hV18; obtain ⟨A18, c18, rfl⟩ := Kd.R_slice hV18; have HV18 := Lib.hid hV18; have HB18 := Lib.hid hB18; clear hV18 hB18)) | ((with_reducible refine gate_builtin (b := .append) (xs := #[.tmp 103, .tmp 104]) rfl ?_); at_builtin; go_loud (refine Kd.R_append_rows k26 (Rr := Kd.K k26 w3) (w0 := w2) w2.heap.size rfl (.tmp 103) (.tmp 104) 22 26 (.agg #[(.int .i64 0), (.int .i64 0), (.int .i64 0)]) 24 rfl Try.underlying22 info26 rfl (by decide) (by decide) (.slice A18 Y.length c18) Y X A15 X.length c15 (fun _ => True) (fun _ => False) rfl rfl HV18.out (Kd.C_below HC15.out HB18.out) (fun z cs h => k26_ofK h) (fun _ h => h.elim) (fun _ _ => trivial) HB18.out HB18.out.size (by omega) ?_; intro v19 w4 hV19 hB19 _ _; obtain ⟨A19, c19, h19, hC19, hc19⟩ := R_c hV19; rw [List.length_append] at h19; subst h19; have HC19 := Lib.hid hC19; have HB19 := Lib.hid hB19; clear hV19 hB19 hC19)))
        have hTr := turned_c A19 c19 (Y ++ X) kn w4 HC19.out hc19 (by rw [List.length_append]; omega) (by omega) HKN.out
        rw [List.length_append] at hTr
        rw [List.length_append] at hc19
        refine hTr.mono ?_
        clear hTr
        rintro e w5 ⟨V5, c5, rfl, hC5, hc5, hb5⟩
        have HBB5 := Lib.hid (below_then HBB2.out HBB2.out.size (below_then HB19.out HB19.out.size hb5))
        have HC5 := Lib.hid hC5
        have hz5 := HMZ.out (kn : Int).toNat
        rw [HRES.out] at hz5
        have HZ5 := Lib.hid hz5
        generalize turnl (Y ++ X) (kn : Int).toNat = Z at HC5 hc5 HZ5
        clear hC5 hb5 hz5
        go_wp2_with fail
        refine (mail_Combined.calls V5 c5 Z (some ⟨w.heap.size, 0, none⟩) 2 two _ 0 w5 HC5.out hc5 (Kd.C_below HC2.out HBB5.out) (by decide) HZ5.out).mono ?_
        rintro e w6 ⟨v20, rfl, hV20, hb6⟩
        obtain ⟨A20, c20, rfl, hC20, hc20⟩ := R_c hV20
        have HBB6 := Lib.hid (below_then HBB5.out HBB5.out.size hb6)
        have HC20 := Lib.hid hC20
        clear hV20 hC20 hb6
        go_wp2_with fail
        refine (mail_Combined.calls Aa ca la (some ⟨w.heap.size, 0, none⟩) 2 two _ 0 w6 (Kd.C_below HC9.out HBB6.out) hc9 (Kd.C_below HC2.out HBB6.out) (by decide) HMA.out).mono ?_
        rintro e w7 ⟨v21, rfl, hV21, hb7⟩
        obtain ⟨A21, c21, rfl, hC21, hc21⟩ := R_c hV21
        have HBB7 := Lib.hid (below_then HBB6.out HBB6.out.size hb7)
        have HC21 := Lib.hid hC21
        have HC207 := Lib.hid (Kd.C_below HC20.out hb7)
        clear hV21 hC21 hb7
        go_wp2_with fail
        go_loopw [23] (fun v23 wi => ∃ j : Nat, j ≤ RR_.length ∧ v23 = .int .i64 j ∧ Below w7.heap.size w7 wi) (fun v23 _ => RR_.length - (intOf v23).toNat)
        case atStart => exact ⟨0, by omega, rfl, Below.refl _ _⟩
        case round =>
          obtain ⟨j, hj, rfl, hbj⟩ := hrel
          have HBJ := Lib.hid hbj
          clear hbj
          by_cases hjt : j < RR_.length
          · have dj : decide ((j : Int) < (RR_.length : Int)) = true := decide_eq_true (by omega)
            obtain ⟨a4, x4, p0, p1, p2⟩ := msg_at HC207.out hjt
            obtain ⟨a5, x5, q0, q1, q2⟩ := msg_at HC21.out hjt
            subst x4; subst x5
            replace p0 := pw_cell_below HBJ.out p0
            replace p1 := pw_cell_below HBJ.out p1
            replace p2 := pw_cell_below HBJ.out p2
            replace q0 := pw_cell_below HBJ.out q0
            replace q1 := pw_cell_below HBJ.out q1
            replace q2 := pw_cell_below HBJ.out q2
            generalize RR_[j] = z at p0 p1 p2 q0 q1 q2
            have dn : decide (j < RR_.length) = true := decide_eq_true hjt
            go_wp2_with fail
            refine start_ (n := 9) (S := fun w' => w'.cell? (a4.add (j * 3)) = some (.int .i64 z.f0) ∧ w'.cell? ⟨(a4.add (j * 3)).block, (a4.add (j * 3)).off + 1, none⟩ = some (.int .i64 z.f1) ∧ w'.cell? ⟨(a4.add (j * 3)).block, (a4.add (j * 3)).off + 2, none⟩ = some (.int .i64 z.f2) ∧ w'.cell? (a5.add (j * 3)) = some (.int .i64 z.f0) ∧ w'.cell? ⟨(a5.add (j * 3)).block, (a5.add (j * 3)).off + 1, none⟩ = some (.int .i64 z.f1) ∧ w'.cell? ⟨(a5.add (j * 3)).block, (a5.add (j * 3)).off + 2, none⟩ = some (.int .i64 z.f2)) (ds := []) #[false, false, false, false, false, false, false, false, false] (by kernel_rfl) rfl rfl ⟨p0, p1, p2, q0, q1, q2⟩ (fun hHeld => ?_)
            refine pure_ (i := 0) (N := some 145) (v := ?_) (a' := ?_) #[true, false, false, false, false, false, false, false, false] rfl rfl (by kernel_rfl) (fun _ _ _ h => h) (Or.inl ⟨by rfl, ?_⟩) ?_ ?_
            rotate_left
            · intro w'
              go_simp
              with_reducible rfl
            rotate_left
            · simp only [Act.put, List.setIfInBounds_toArray, List.set_cons_zero, List.set_cons_succ, i64_w, i32_w]
              rfl
            refine pure_ (i := 1) (N := some 146) (v := ?_) (a' := ?_) #[true, true, false, false, false, false, false, false, false] rfl rfl (by kernel_rfl) (fun _ _ _ h => h) (Or.inl ⟨by rfl, ?_⟩) ?_ ?_
            rotate_left
            · intro w'
              go_simp
              with_reducible rfl
            rotate_left
            · simp only [Act.put, List.setIfInBounds_toArray, List.set_cons_zero, List.set_cons_succ, i64_w, i32_w]
              rfl
            refine pure_ (i := 2) (N := some 147) (v := ?_) (a' := ?_) #[true, true, true, false, false, false, false, false, false] rfl rfl (by kernel_rfl) (fun _ _ _ h => h) (Or.inl ⟨by rfl, ?_⟩) ?_ ?_
            rotate_left
            · intro w'
              go_simp
              with_reducible rfl
            rotate_left
            · simp only [Act.put, List.setIfInBounds_toArray, List.set_cons_zero, List.set_cons_succ, i64_w, i32_w]
              rfl
            refine pure_ (i := 4) (N := some 149) (v := ?_) (a' := ?_) #[true, true, true, false, true, false, false, false, false] rfl rfl (by kernel_rfl) (fun _ _ _ h => h) (Or.inl ⟨by rfl, ?_⟩) ?_ ?_
            rotate_left
            · intro w'
              go_simp
              with_reducible rfl
            rotate_left
            · simp only [Act.put, List.setIfInBounds_toArray, List.set_cons_zero, List.set_cons_succ, i64_w, i32_w]
              rfl
            refine pure_ (i := 5) (N := some 150) (v := ?_) (a' := ?_) #[true, true, true, false, true, true, false, false, false] rfl rfl (by kernel_rfl) (fun _ _ _ h => h) (Or.inl ⟨by rfl, ?_⟩) ?_ ?_
            rotate_left
            · intro w'
              go_simp
              with_reducible rfl
            rotate_left
            · simp only [Act.put, List.setIfInBounds_toArray, List.set_cons_zero, List.set_cons_succ, i64_w, i32_w]
              rfl
            refine pure_ (i := 6) (N := some 151) (v := ?_) (a' := ?_) #[true, true, true, false, true, true, true, false, false] rfl rfl (by kernel_rfl) (fun _ _ _ h => h) (Or.inl ⟨by rfl, ?_⟩) ?_ ?_
            rotate_left
            · intro w'
              go_simp
              with_reducible rfl
            rotate_left
            · simp only [Act.put, List.setIfInBounds_toArray, List.set_cons_zero, List.set_cons_succ, i64_w, i32_w]
              rfl
            refine take_ (i := 3) (N := some 148) (v := ?_) (a' := ?_) #[true, true, true, true, true, true, true, false, false] rfl rfl (by kernel_rfl) (fun _ _ _ h => h) (Or.inl ⟨by rfl, ?_⟩) hHeld ?_ ?_
            rotate_left
            · rintro w' ⟨s0, s1, s2, s3, s4, s5⟩
              go_simp
              with_reducible rfl
            rotate_left
            · simp only [Act.put, List.setIfInBounds_toArray, List.set_cons_zero, List.set_cons_succ, i64_w, i32_w]
              rfl
            refine take_ (i := 7) (N := some 152) (v := ?_) (a' := ?_) #[true, true, true, true, true, true, true, true, false] rfl rfl (by kernel_rfl) (fun _ _ _ h => h) (Or.inl ⟨by rfl, ?_⟩) hHeld ?_ ?_
            rotate_left
            · rintro w' ⟨s0, s1, s2, s3, s4, s5⟩
              go_simp
              with_reducible rfl
            rotate_left
            · simp only [Act.put, List.setIfInBounds_toArray, List.set_cons_zero, List.set_cons_succ, i64_w, i32_w]
              rfl
            refine pure_ (i := 8) (N := some 153) (v := ?_) (a' := ?_) #[true, true, true, true, true, true, true, true, true] rfl rfl (by kernel_rfl) (fun _ _ _ h => h) (Or.inl ⟨by rfl, ?_⟩) ?_ ?_
            rotate_left
            · intro w'
              go_simp
              with_reducible rfl
            rotate_left
            · simp only [Act.put, List.setIfInBounds_toArray, List.set_cons_zero, List.set_cons_succ, i64_w, i32_w]
              rfl
            refine done_ (by kernel_rfl) ?_
            go_wp2_with fail
            go_roundw
            case rel => exact ⟨j + 1, by omega, by go_num, pw_below_drewN HBJ.out _⟩
            case measure => simp [intOf]; omega
          · have dj : decide ((j : Int) < (RR_.length : Int)) = false := decide_eq_false (by omega)
            have HWA : Hid (∀ W, Below w7.heap.size w7 W → Calls Try.prog 27 #[.pointer (some ⟨ga, 0, none⟩), .int .u64 (kn : Int)] W fun e w' => e = .returned (.tuple #[.int .i64 (wrap64 (t 0)), .int .i64 0]) ∧ Below W.heap.size W w') := Lib.hid fun W hW => by
              have := Agg.whole_ok ga 2 kn 1 0 s c W (HTWr.out.below (below_then HBB7.out HBB7.out.size hW)).a (.inl rfl) (by omega) (by omega) HKN.out
              rw [all_two, HSM.out] at this
              exact this
            have HWB : Hid (∀ W, Below w7.heap.size w7 W → Calls Try.prog 27 #[.pointer (some ⟨gb, 0, none⟩), .int .u64 (kn : Int)] W fun e w' => e = .returned (.tuple #[.int .i64 (wrap64 (t 0)), .int .i64 0]) ∧ Below W.heap.size W w') := Lib.hid fun W hW => by
              have := Agg.whole_ok gb 1 kn 1 0 t d W (HTWr.out.below (below_then HBB7.out HBB7.out.size hW)).b (.inl rfl) (by omega) (by omega) HKN.out
              rw [all_one] at this
              exact this
            generalize wrap64 (t 0) = tot at HWA HWB
            go_wp2_with (first | (go_at_call 27; with_reducible refine (HWA.out _ HBJ.out).mono ?_; rintro e w9 ⟨rfl, hb9⟩; have HB9 := Lib.hid (below_then HBJ.out HBJ.out.size hb9); clear hb9) | (go_at_call 27; with_reducible refine (HWB.out _ HB9.out).mono ?_; rintro e w10 ⟨rfl, hb10⟩; have HB10 := Lib.hid (below_then HB9.out HB9.out.size hb10); clear hb10))
            go_ret
            exact ⟨rfl, below_then (below_then HTWr.out.bl HTWr.out.bl.size HBB7.out) (below_then HTWr.out.bl HTWr.out.bl.size HBB7.out).size HB10.out⟩
  · have d0 : decide (30 < (l.length : Int)) = false := decide_eq_false (by omega)
    have d1 : decide (30 < l.length) = false := decide_eq_false hlong
    have e30 : l.take 30 = l := List.take_of_length_le (by omega)
    rw [e30] at HG hX hxl hxc
    obtain ⟨x, hx⟩ : ∃ x, x = l := ⟨_, rfl⟩
    rw [← hx] at HG hX hxl hxc d0 d1 ⊢
    have HX := Lib.hid hX
    clear hX hlong hx e30
    go_wp2_with fail
    refine (Agg.new_ok 1 2 0 _ hRd (by omega) (by omega)).mono ?_
    rintro e w1 ⟨rfl, hia, hb1⟩
    have HIA := Lib.hid hia
    have HB1 := Lib.hid (below_then (below_alloc (Below.refl w.heap.size w) (.cells #[.int .u8 1, .int .u8 7] 43)) (below_alloc (Below.refl w.heap.size w) (.cells #[.int .u8 1, .int .u8 7] 43)).size hb1)
    have HOP := Lib.hid ((hb1.block w.heap.size (by simp)).trans (heap_alloc_new w (.cells #[.int .u8 1, .int .u8 7] 43)))
    obtain ⟨ga, hga⟩ : ∃ ga, ga = (w.alloc (.cells #[.int .u8 1, .int .u8 7] 43)).heap.size := ⟨_, rfl⟩
    rw [← hga] at HIA ⊢
    have hgaw : w.heap.size + 1 ≤ ga := by rw [hga]; simp
    clear hia hb1 hga
    go_wp2_with fail
    refine (Agg.new_ok 1 1 0 _ hRd (by omega) (by omega)).mono ?_
    rintro e w2 ⟨rfl, hib, hb2⟩
    have HIB := Lib.hid hib
    have HB2 := Lib.hid (below_then HB1.out HB1.out.size hb2)
    have HIA2 := Lib.hid (HIA.out.below hb2)
    have HOP2 := Lib.hid ((hb2.block _ (Array.getElem?_eq_some_iff.1 HOP.out).1).trans HOP.out)
    obtain ⟨gb, hgb⟩ : ∃ gb, gb = w1.heap.size := ⟨_, rfl⟩
    rw [← hgb] at HIB ⊢
    have hgab : ga < gb := by rw [hgb]; exact HIA.out.lt
    clear hib hb2 hgb
    go_wp2_with fail
    have hTW : TW w (w2.alloc (.cells #[.slice none 0 0, .slice none 0 0] 50)) ga gb w2.heap.size w.heap.size (.slice none 0 0) (.slice none 0 0) (.slice none 0 0) [] [] [] (fun _ => 0) (fun _ => 0) (fun _ => 0) (fun _ => 0) := by
      have hbA := below_alloc (Below.refl w2.heap.size w2) (.cells #[.slice none 0 0, .slice none 0 0] 50)
      exact ⟨HIA2.out.below hbA, HIB.out.below hbA, heap_alloc_new w2 _, (hbA.block _ (Array.getElem?_eq_some_iff.1 HOP2.out).1).trans HOP2.out, Kd.R_nil _ _ _ _ _, Kd.R_nil _ _ _ _ _, Kd.R_nil _ _ _ _ _, fun k h => by simp [Value.ownBlock] at h, fun k h => by simp [Value.ownBlock] at h, fun k h => by simp [Value.ownBlock] at h, below_then HB2.out HB2.out.size hbA, ⟨by omega, by omega, HB2.out.size, Nat.le_refl _, by omega⟩⟩
    have HTW0 := Lib.hid hTW
    obtain ⟨Bt, hBt⟩ : ∃ Bt, Bt = w2.heap.size := ⟨_, rfl⟩
    rw [← hBt] at HTW0 ⊢
    clear hTW hBt HIA HIB HIA2 HOP HOP2
    go_loopw [11, 12] (fun v11 v12 wr => ∃ (i : Nat) (v0 v1 : Value) (l0 l1 : List S26) (s t c d : Nat → Int), i ≤ x.length ∧ v12 = .int .i64 i ∧ TW w wr ga gb Bt w.heap.size v0 v1 v11 l0 l1 ((x.take i).map nw) s t c d ∧ ((x.take i).map nw).Perm (l0 ++ l1) ∧ wrap64 (s 0 + s 1) = wrap64 (t 0) ∧ (∀ j, 0 ≤ c j ∧ c j ≤ i) ∧ (∀ j, 0 ≤ d j ∧ d j ≤ i)) (fun _ v12 _ => x.length - (intOf v12).toNat)
    case atStart => exact ⟨0, _, _, _, _, _, _, _, _, by omega, rfl, HTW0.out, by simp, rfl, fun j => ⟨by omega, by omega⟩, fun j => ⟨by omega, by omega⟩⟩
    case round =>
      clear HTW0 HB1 HB2
      obtain ⟨i, v0, v1, l0, l1, s, t, c, d, hi, rfl, hT, hPm, hSm, hC, hD⟩ := hrel
      obtain ⟨la, hla⟩ : ∃ la, la = (x.take i).map nw := ⟨_, rfl⟩
      rw [← hla] at hT hPm
      obtain ⟨Aa, ca, rfl⟩ := Kd.R_slice hT.ra
      have HLE := Lib.hid hla
      have HTWr := Lib.hid hT
      have HPM := Lib.hid hPm
      have HSM := Lib.hid hSm
      have HCC := Lib.hid hC
      have HDD := Lib.hid hD
      clear hT hPm hSm hC hD hla
      by_cases hlt : i < x.length
      · have d2 : decide ((i : Int) < (x.length : Int)) = true := decide_eq_true (by omega)
        obtain ⟨ad, e, q0, q1, q2⟩ := msg_at HX.out hlt
        subst e
        replace q0 := (HTWr.out.bl.cell (World.block_lt_of_cell? w _ q0)).trans q0
        replace q1 := (HTWr.out.bl.cell (World.block_lt_of_cell? w _ q1)).trans q1
        replace q2 := (HTWr.out.bl.cell (World.block_lt_of_cell? w _ q2)).trans q2
        have hnx : (x.take (i + 1)).map nw = la ++ [nw x[i]] := by rw [HLE.out, List.take_succ_eq_append_getElem hlt, List.map_append]; rfl
        have HNX := Lib.hid hnx
        clear hnx
        generalize x[i] = z at q0 q1 q2 HNX
        go_wp2_with fail
        obtain ⟨y, hy⟩ : ∃ y, y = nw z := ⟨_, rfl⟩
        rw [← hy] at HNX
        have hy0 : y.f0 = z.f0 := by rw [hy]; rfl
        have hy1 : y.f1 = Go.bits .and .i64 z.f1 1 := by rw [hy]; rfl
        have hy2 : y.f2 = z.f2 := by rw [hy]; rfl
        obtain ⟨Bm, hBm⟩ : ∃ Bm, Bm = wr.heap.size := ⟨_, rfl⟩
        rw [← hy0, ← hy1, ← hy2, ← hBm]
        have hbx : (wr.alloc (.cells #[.int .i64 y.f0, .int .i64 y.f1, .int .i64 y.f2] 26)).heap[Bm]? = some (.cells #[.int .i64 y.f0, .int .i64 y.f1, .int .i64 y.f2] 26 (0, 0)) := by rw [hBm]; exact heap_alloc_new wr _
        have hTq := HTWr.out.below (below_alloc (Below.refl wr.heap.size wr) (.cells #[.int .i64 y.f0, .int .i64 y.f1, .int .i64 y.f2] 26))
        have HL0 : Hid (∀ q, v0.ownBlock = some q → q < Bm) := Lib.hid (by rw [hBm]; exact Kd.R_lt HTWr.out.r0)
        have HL1 : Hid (∀ q, v1.ownBlock = some q → q < Bm) := Lib.hid (by rw [hBm]; exact Kd.R_lt HTWr.out.r1)
        have HLA := Lib.hid (Kd.R_lt HTWr.out.ra)
        rw [← hBm] at HLA
        generalize wr.alloc (.cells #[.int .i64 y.f0, .int .i64 y.f1, .int .i64 y.f2] 26) = yq at hbx hTq ⊢
        have HTW := Lib.hid hTq
        have HBM := Lib.hid hbx
        have hlens := HPM.out.length_eq
        rw [List.length_append] at hlens
        have hla2 : la.length = (x.take i).length := by rw [HLE.out, List.length_map]
        have hli : (x.take i).length ≤ 30 := by rw [List.length_take]; omega
        have HLN0 : Hid (l0.length + 1 ≤ 40) := Lib.hid (by omega)
        have HLN1 : Hid (l1.length + 1 ≤ 40) := Lib.hid (by omega)
        have HLNA : Hid (la.length + 1 ≤ 40) := Lib.hid (by omega)
        have hblt : Bm < yq.heap.size := (Array.getElem?_eq_some_iff.1 hbx).1
        have mm0 : yq.cell? ⟨Bm, 0, none⟩ = some (.int .i64 y.f0) := (cell_of hbx).trans rfl
        have mm1 : yq.cell? ⟨Bm, 1, none⟩ = some (.int .i64 y.f1) := (cell_of hbx).trans rfl
        have mm2 : yq.cell? ⟨Bm, 2, none⟩ = some (.int .i64 y.f2) := (cell_of hbx).trans rfl
        have m0 : yq.drew.cell? ⟨Bm, 0, none⟩ = some (.int .i64 y.f0) := mm0
        have m1 : yq.drew.cell? ⟨Bm, 1, none⟩ = some (.int .i64 y.f1) := mm1
        have m2 : yq.drew.cell? ⟨Bm, 2, none⟩ = some (.int .i64 y.f2) := mm2
        have hBtBm : Bt ≠ Bm := fun z => by have := hTq.bt; rw [z, hbx] at this; cases this
        clear q0 q1 q2 hbx hTq hy hy0 hy1 hy2 hBm hla2 mm0 mm1 mm2 hlens HTWr
        rcases and1 .u64 (.inr rfl) (v / 2 ^ i) with hw | hw
        · rw [hw, show wrap64 0 = 0 from (by unfold wrap64; omega)]
          have b0 : yq.drew.cell? ⟨Bt, 0, none⟩ = some v0 := (cell_of HTW.out.bt).trans rfl
          clear hw
          refine start_ (n := 9) (S := fun w' => w'.cell? ⟨Bt, 0, none⟩ = some v0 ∧ w'.cell? ⟨Bm, 0, none⟩ = some (.int .i64 y.f0) ∧ w'.cell? ⟨Bm, 1, none⟩ = some (.int .i64 y.f1) ∧ w'.cell? ⟨Bm, 2, none⟩ = some (.int .i64 y.f2)) (ds := [6, 8]) #[false, false, false, false, false, false, false, false, false] (by kernel_rfl) rfl rfl ⟨b0, m0, m1, m2⟩ (fun hHeld => ?_)
          refine pure_ (i := 0) (N := some 61) (v := ?_) (a' := ?_) #[true, false, false, false, false, false, false, false, false] rfl rfl (by kernel_rfl) (fun _ _ _ h => h) (Or.inl ⟨by rfl, ?_⟩) ?_ ?_
          rotate_left
          · intro w'
            go_simp
            with_reducible rfl
          rotate_left
          · simp only [Act.put, List.setIfInBounds_toArray, List.set_cons_zero, List.set_cons_succ, i64_w, i32_w]
            rfl
          refine pure_ (i := 1) (N := some 62) (v := ?_) (a' := ?_) #[true, true, false, false, false, false, false, false, false] rfl rfl (by kernel_rfl) (fun _ _ _ h => h) (Or.inl ⟨by rfl, ?_⟩) ?_ ?_
          rotate_left
          · intro w'
            go_simp
            with_reducible rfl
          rotate_left
          · simp only [Act.put, List.setIfInBounds_toArray, List.set_cons_zero, List.set_cons_succ, i64_w, i32_w]
            rfl
          refine pure_ (i := 2) (N := some 63) (v := ?_) (a' := ?_) #[true, true, true, false, false, false, false, false, false] rfl rfl (by kernel_rfl) (fun _ _ _ h => h) (Or.inl ⟨by rfl, ?_⟩) ?_ ?_
          rotate_left
          · intro w'
            go_simp
            with_reducible rfl
          rotate_left
          · simp only [Act.put, List.setIfInBounds_toArray, List.set_cons_zero, List.set_cons_succ, i64_w, i32_w]
            rfl
          refine take_ (i := 3) (N := some 64) (v := ?_) (a' := ?_) #[true, true, true, true, false, false, false, false, false] rfl rfl (by kernel_rfl) (fun _ _ _ h => h) (Or.inl ⟨by rfl, ?_⟩) hHeld ?_ ?_
          rotate_left
          · rintro w' ⟨s0, s1, s2, s3⟩
            go_simp
            with_reducible rfl
          rotate_left
          · simp only [Act.put, List.setIfInBounds_toArray, List.set_cons_zero, List.set_cons_succ, i64_w, i32_w]
            rfl
          refine take_ (i := 4) (N := some 65) (v := ?_) (a' := ?_) #[true, true, true, true, true, false, false, false, false] rfl rfl (by kernel_rfl) (fun _ _ _ h => h) (Or.inl ⟨by rfl, ?_⟩) hHeld ?_ ?_
          rotate_left
          · rintro w' ⟨s0, s1, s2, s3⟩
            go_simp
            with_reducible rfl
          rotate_left
          · simp only [Act.put, List.setIfInBounds_toArray, List.set_cons_zero, List.set_cons_succ, i64_w, i32_w]
            rfl
          refine one_ (i := 5) (N := some 66) #[true, true, true, true, true, true, false, false, false] rfl rfl (by kernel_rfl) (by decide) (fun K hK => ?_)
          refine value_ (w1 := yq.drew.alloc (.cells #[.int .i64 y.f0, .int .i64 y.f1, .int .i64 y.f2] 26)) (v := .slice (some ⟨yq.drew.heap.size, 0, none⟩) 1 1) (by rfl) rfl ?_ ?_
          · go_simp
          have hbA := below_alloc (Below.refl yq.drew.heap.size yq.drew) (.cells #[.int .i64 y.f0, .int .i64 y.f1, .int .i64 y.f2] 26)
          have hnew := heap_alloc_new yq.drew (.cells #[.int .i64 y.f0, .int .i64 y.f1, .int .i64 y.f2] 26)
          have hB7 := below_then (below_drew1 (Below.refl yq.heap.size yq)) (below_drew1 (Below.refl yq.heap.size yq)).size hbA
          refine hK.out _ _ ⟨pw_cell_below hbA b0, pw_cell_below hbA m0, pw_cell_below hbA m1, pw_cell_below hbA m2⟩ (fun hHeld => ?_)
          clear hK K
          refine norm_ (a' := ?_) ?_ ?_
          rotate_left
          · show Act.put _ (some 66) _ = _
            simp only [Act.put, List.setIfInBounds_toArray, List.set_cons_zero, List.set_cons_succ, i64_w, i32_w]
            rfl
          refine last_ (i := 6) (N := some 67) #[true, true, true, true, true, true, true, false, false] rfl rfl (by kernel_rfl) (by decide) (fun K hK => ?_)
          refine Kd.R_append_rows_step k26 (Rr := Kd.K k26 yq) (w0 := w) w.heap.size (by rfl) (.tmp 64) (.tmp 66) 22 26 (.agg #[(.int .i64 0), (.int .i64 0), (.int .i64 0)]) 24 rfl Try.underlying22 info26 rfl (by decide) (by decide) v0 l0 [y] (some ⟨yq.drew.heap.size, 0, none⟩) 1 1 (fun _ => True) (fun _ => False) rfl rfl (Kd.R_below HTW.out.r0 hB7) (mone_reads hnew) (fun z cs hz => k26_ofK hz) (fun _ h => h.elim) (fun _ _ => trivial) (below_then HTW.out.bl HTW.out.bl.size hB7) (Nat.le_trans HTW.out.bl.size hB7.size) ?aL ?_
          (case aL => (have := HLN0.out; omega))
          intro vq y12 hV hB12 hG hat
          obtain ⟨Aq, cq, hq⟩ := Kd.R_slice hV
          rw [List.length_append, List.length_singleton] at hq
          subst hq
          obtain ⟨_, hbt12, _⟩ := (HTW.out.below hB7).keepB hG (.inl rfl)
          have hfr := free_of hbt12 0
          refine hK.out _ _ ?_
          clear hK K
          refine norm_ (a' := ?_) ?_ ?_
          rotate_left
          · show Act.put _ (some 67) _ = _
            simp only [Act.put, List.setIfInBounds_toArray, List.set_cons_zero, List.set_cons_succ, i64_w, i32_w]
            rfl
          refine pure_ (i := 7) (N := some 68) (v := ?_) (a' := ?_) #[true, true, true, true, true, true, true, true, false] rfl rfl (by kernel_rfl) (fun _ _ _ h => h) (Or.inl ⟨by rfl, ?_⟩) ?_ ?_
          rotate_left
          · intro w'
            go_simp
            with_reducible rfl
          rotate_left
          · simp only [Act.put, List.setIfInBounds_toArray, List.set_cons_zero, List.set_cons_succ, i64_w, i32_w]
            rfl
          refine last_ (i := 8) (N := none) #[true, true, true, true, true, true, true, true, true] rfl rfl (by kernel_rfl) (by decide) (fun K hK => ?_)
          have hcb := (cell_of hbt12 (i := 0)).trans rfl
          refine skip_ (w1 := ?_) (by rfl) rfl ?_ ?_
          rotate_left
          · go_simp
            rfl
          refine hK.out _ _ ?_
          clear hK K
          refine done_ (by kernel_rfl) ?_
          have hbm12 : y12.heap[Bm]? = some (.cells #[.int .i64 y.f0, .int .i64 y.f1, .int .i64 y.f2] 26 (0, 0)) := (hG.block Bm (Nat.lt_of_lt_of_le hblt hB7.size) (fun z => by have := HL0.out Bm z.symm; omega)).trans ((hB7.block Bm hblt).trans HBM.out)
          have hTp := HTW.out.put0 hB7 hV hG hat
          have hbs : (y12.setCell ⟨Bt, 0, none⟩ (.slice Aq (l0.length + 1) cq)).heap[Bm]? = some (.cells #[.int .i64 y.f0, .int .i64 y.f1, .int .i64 y.f2] 26 (0, 0)) := (Below.heap_setCell _ _ _ _ (fun z => hBtBm z.symm)).trans hbm12
          have HTP := Lib.hid hTp
          have HBS := Lib.hid hbs
          clear hbm12 hTp hbs hV hB12 hG hat hbA hnew hB7 hbt12 hfr hcb b0 m0 m1 m2 hHeld
          generalize y12.setCell ⟨Bt, 0, none⟩ (.slice Aq (l0.length + 1) cq) = W2 at HTP HBS ⊢
          obtain ⟨vw, hvw⟩ : ∃ vw, vw = Value.slice Aq (l0.length + 1) cq := ⟨_, rfl⟩
          rw [← hvw] at HTP
          clear hvw
          have n0 : W2.cell? ⟨Bm, 0, none⟩ = some (.int .i64 y.f0) := (cell_of HBS.out).trans rfl
          have n1 : W2.cell? ⟨Bm, 1, none⟩ = some (.int .i64 y.f1) := (cell_of HBS.out).trans rfl
          have n2 : W2.cell? ⟨Bm, 2, none⟩ = some (.int .i64 y.f2) := (cell_of HBS.out).trans rfl
          go_wp2_with (at_builtin; go_loud (refine Kd.R_append k26 (w0 := w) w.heap.size rfl (.tmp 69) (.tmp 71) 22 26 (.agg #[(.int .i64 0), (.int .i64 0), (.int .i64 0)]) 24 rfl Try.underlying22 info26 rfl (by decide) (by decide) (.slice Aa la.length ca) la y [.int .i64 y.f0, .int .i64 y.f1, .int .i64 y.f2] (fun _ => True) (fun _ => False) rfl ?aX ?aP (fun _ h => h.elim) (fun _ _ => trivial) HTP.out.ra HTP.out.bl HTP.out.bl.size ?aL ?_; (case aX => rfl); (case aP => exact k26_mkM _ _ _ y); (case aL => (have := HLNA.out; omega)); intro v9 w9 hV9 hB9 hG9 hat9; have hbm9 := (hG9.block Bm (Array.getElem?_eq_some_iff.1 HBS.out).1 (fun z => by have := HLA.out Bm z.symm; omega)).trans HBS.out; have n29 : w9.cell? ⟨Bm, 2, none⟩ = some (.int .i64 y.f2) := (cell_of hbm9).trans rfl; have hT9 := HTP.out.putA (Below.refl _ _) hV9 hG9 hat9; have HT9 := Lib.hid hT9; have HBM9 := Lib.hid hbm9; clear hV9 hB9 hG9 hat9 hT9 hbm9))
          refine (Agg.take_ok ga 1 0 2 y.f2 0 s c w9 HT9.out.a (.inl rfl) (by omega) (by omega) (by omega) (by have := HCC.out (0 : Int).toNat; omega)).mono ?_
          rintro e w10 ⟨rfl, hA10, hG10⟩
          have hbm10 := (hG10.block Bm (Array.getElem?_eq_some_iff.1 HBM9.out).1 (fun z => by injection z with z; have := HT9.out.a; unfold IsA at this; rw [← z, HBM9.out] at this; cases this)).trans HBM9.out
          have n210 : w10.cell? ⟨Bm, 2, none⟩ = some (.int .i64 y.f2) := (cell_of hbm10).trans rfl
          have HT10 := Lib.hid (HT9.out.takeA hA10 hG10)
          have HBM10 := Lib.hid hbm10
          clear hA10 hG10 hbm10 n29 n0 n1 n2
          go_wp2_with fail
          refine (Agg.take_ok gb 1 0 1 y.f2 0 t d w10 HT10.out.b (.inl rfl) (by omega) (by omega) (by omega) (by have := HDD.out (0 : Int).toNat; omega)).mono ?_
          rintro e w11 ⟨rfl, hA11, hG11⟩
          have HT11 := Lib.hid (HT10.out.takeB hA11 hG11)
          clear hA11 hG11 n210
          go_wp2_with fail
          go_roundw
          case rel => exact ⟨i + 1, vw, v1, l0 ++ [y], l1, _, _, _, _, by omega, by go_num, by rw [HNX.out]; exact HT11.out, by rw [HNX.out]; exact perm_in0 HPM.out, (sum_step HSM.out).1, fun q => cb_step HCC.out _ q, fun q => cb_step HDD.out _ q⟩
          case measure => simp [intOf]; omega
        · rw [hw, show wrap64 1 = 1 from (by unfold wrap64; omega)]
          have b0 : yq.drew.cell? ⟨Bt, 1, none⟩ = some v1 := (cell_of HTW.out.bt).trans rfl
          clear hw
          refine start_ (n := 9) (S := fun w' => w'.cell? ⟨Bt, 1, none⟩ = some v1 ∧ w'.cell? ⟨Bm, 0, none⟩ = some (.int .i64 y.f0) ∧ w'.cell? ⟨Bm, 1, none⟩ = some (.int .i64 y.f1) ∧ w'.cell? ⟨Bm, 2, none⟩ = some (.int .i64 y.f2)) (ds := [6, 8]) #[false, false, false, false, false, false, false, false, false] (by kernel_rfl) rfl rfl ⟨b0, m0, m1, m2⟩ (fun hHeld => ?_)
          refine pure_ (i := 0) (N := some 61) (v := ?_) (a' := ?_) #[true, false, false, false, false, false, false, false, false] rfl rfl (by kernel_rfl) (fun _ _ _ h => h) (Or.inl ⟨by rfl, ?_⟩) ?_ ?_
          rotate_left
          · intro w'
            go_simp
            with_reducible rfl
          rotate_left
          · simp only [Act.put, List.setIfInBounds_toArray, List.set_cons_zero, List.set_cons_succ, i64_w, i32_w]
            rfl
          refine pure_ (i := 1) (N := some 62) (v := ?_) (a' := ?_) #[true, true, false, false, false, false, false, false, false] rfl rfl (by kernel_rfl) (fun _ _ _ h => h) (Or.inl ⟨by rfl, ?_⟩) ?_ ?_
          rotate_left
          · intro w'
            go_simp
            with_reducible rfl
          rotate_left
          · simp only [Act.put, List.setIfInBounds_toArray, List.set_cons_zero, List.set_cons_succ, i64_w, i32_w]
            rfl
          refine pure_ (i := 2) (N := some 63) (v := ?_) (a' := ?_) #[true, true, true, false, false, false, false, false, false] rfl rfl (by kernel_rfl) (fun _ _ _ h => h) (Or.inl ⟨by rfl, ?_⟩) ?_ ?_
          rotate_left
          · intro w'
            go_simp
            with_reducible rfl
          rotate_left
          · simp only [Act.put, List.setIfInBounds_toArray, List.set_cons_zero, List.set_cons_succ, i64_w, i32_w]
            rfl
          refine take_ (i := 3) (N := some 64) (v := ?_) (a' := ?_) #[true, true, true, true, false, false, false, false, false] rfl rfl (by kernel_rfl) (fun _ _ _ h => h) (Or.inl ⟨by rfl, ?_⟩) hHeld ?_ ?_
          rotate_left
          · rintro w' ⟨s0, s1, s2, s3⟩
            go_simp
            with_reducible rfl
          rotate_left
          · simp only [Act.put, List.setIfInBounds_toArray, List.set_cons_zero, List.set_cons_succ, i64_w, i32_w]
            rfl
          refine take_ (i := 4) (N := some 65) (v := ?_) (a' := ?_) #[true, true, true, true, true, false, false, false, false] rfl rfl (by kernel_rfl) (fun _ _ _ h => h) (Or.inl ⟨by rfl, ?_⟩) hHeld ?_ ?_
          rotate_left
          · rintro w' ⟨s0, s1, s2, s3⟩
            go_simp
            with_reducible rfl
          rotate_left
          · simp only [Act.put, List.setIfInBounds_toArray, List.set_cons_zero, List.set_cons_succ, i64_w, i32_w]
            rfl
          refine one_ (i := 5) (N := some 66) #[true, true, true, true, true, true, false, false, false] rfl rfl (by kernel_rfl) (by decide) (fun K hK => ?_)
          refine value_ (w1 := yq.drew.alloc (.cells #[.int .i64 y.f0, .int .i64 y.f1, .int .i64 y.f2] 26)) (v := .slice (some ⟨yq.drew.heap.size, 0, none⟩) 1 1) (by rfl) rfl ?_ ?_
          · go_simp
          have hbA := below_alloc (Below.refl yq.drew.heap.size yq.drew) (.cells #[.int .i64 y.f0, .int .i64 y.f1, .int .i64 y.f2] 26)
          have hnew := heap_alloc_new yq.drew (.cells #[.int .i64 y.f0, .int .i64 y.f1, .int .i64 y.f2] 26)
          have hB7 := below_then (below_drew1 (Below.refl yq.heap.size yq)) (below_drew1 (Below.refl yq.heap.size yq)).size hbA
          refine hK.out _ _ ⟨pw_cell_below hbA b0, pw_cell_below hbA m0, pw_cell_below hbA m1, pw_cell_below hbA m2⟩ (fun hHeld => ?_)
          clear hK K
          refine norm_ (a' := ?_) ?_ ?_
          rotate_left
          · show Act.put _ (some 66) _ = _
            simp only [Act.put, List.setIfInBounds_toArray, List.set_cons_zero, List.set_cons_succ, i64_w, i32_w]
            rfl
          refine last_ (i := 6) (N := some 67) #[true, true, true, true, true, true, true, false, false] rfl rfl (by kernel_rfl) (by decide) (fun K hK => ?_)
          refine Kd.R_append_rows_step k26 (Rr := Kd.K k26 yq) (w0 := w) w.heap.size (by rfl) (.tmp 64) (.tmp 66) 22 26 (.agg #[(.int .i64 0), (.int .i64 0), (.int .i64 0)]) 24 rfl Try.underlying22 info26 rfl (by decide) (by decide) v1 l1 [y] (some ⟨yq.drew.heap.size, 0, none⟩) 1 1 (fun _ => True) (fun _ => False) rfl rfl (Kd.R_below HTW.out.r1 hB7) (mone_reads hnew) (fun z cs hz => k26_ofK hz) (fun _ h => h.elim) (fun _ _ => trivial) (below_then HTW.out.bl HTW.out.bl.size hB7) (Nat.le_trans HTW.out.bl.size hB7.size) ?aL ?_
          (case aL => (have := HLN1.out; omega))
          intro vq y12 hV hB12 hG hat
          obtain ⟨Aq, cq, hq⟩ := Kd.R_slice hV
          rw [List.length_append, List.length_singleton] at hq
          subst hq
          obtain ⟨_, hbt12, _⟩ := (HTW.out.below hB7).keepB hG (.inr rfl)
          have hfr := free_of hbt12 1
          refine hK.out _ _ ?_
          clear hK K
          refine norm_ (a' := ?_) ?_ ?_
          rotate_left
          · show Act.put _ (some 67) _ = _
            simp only [Act.put, List.setIfInBounds_toArray, List.set_cons_zero, List.set_cons_succ, i64_w, i32_w]
            rfl
          refine pure_ (i := 7) (N := some 68) (v := ?_) (a' := ?_) #[true, true, true, true, true, true, true, true, false] rfl rfl (by kernel_rfl) (fun _ _ _ h => h) (Or.inl ⟨by rfl, ?_⟩) ?_ ?_
          rotate_left
          · intro w'
            go_simp
            with_reducible rfl
          rotate_left
          · simp only [Act.put, List.setIfInBounds_toArray, List.set_cons_zero, List.set_cons_succ, i64_w, i32_w]
            rfl
          refine last_ (i := 8) (N := none) #[true, true, true, true, true, true, true, true, true] rfl rfl (by kernel_rfl) (by decide) (fun K hK => ?_)
          have hcb := (cell_of hbt12 (i := 1)).trans rfl
          refine skip_ (w1 := ?_) (by rfl) rfl ?_ ?_
          rotate_left
          · go_simp
            rfl
          refine hK.out _ _ ?_
          clear hK K
          refine done_ (by kernel_rfl) ?_
          have hbm12 : y12.heap[Bm]? = some (.cells #[.int .i64 y.f0, .int .i64 y.f1, .int .i64 y.f2] 26 (0, 0)) := (hG.block Bm (Nat.lt_of_lt_of_le hblt hB7.size) (fun z => by have := HL1.out Bm z.symm; omega)).trans ((hB7.block Bm hblt).trans HBM.out)
          have hTp := HTW.out.put1 hB7 hV hG hat
          have hbs : (y12.setCell ⟨Bt, 1, none⟩ (.slice Aq (l1.length + 1) cq)).heap[Bm]? = some (.cells #[.int .i64 y.f0, .int .i64 y.f1, .int .i64 y.f2] 26 (0, 0)) := (Below.heap_setCell _ _ _ _ (fun z => hBtBm z.symm)).trans hbm12
          have HTP := Lib.hid hTp
          have HBS := Lib.hid hbs
          clear hbm12 hTp hbs hV hB12 hG hat hbA hnew hB7 hbt12 hfr hcb b0 m0 m1 m2 hHeld
          generalize y12.setCell ⟨Bt, 1, none⟩ (.slice Aq (l1.length + 1) cq) = W2 at HTP HBS ⊢
          obtain ⟨vw, hvw⟩ : ∃ vw, vw = Value.slice Aq (l1.length + 1) cq := ⟨_, rfl⟩
          rw [← hvw] at HTP
          clear hvw
          have n0 : W2.cell? ⟨Bm, 0, none⟩ = some (.int .i64 y.f0) := (cell_of HBS.out).trans rfl
          have n1 : W2.cell? ⟨Bm, 1, none⟩ = some (.int .i64 y.f1) := (cell_of HBS.out).trans rfl
          have n2 : W2.cell? ⟨Bm, 2, none⟩ = some (.int .i64 y.f2) := (cell_of HBS.out).trans rfl
          go_wp2_with (at_builtin; go_loud (refine Kd.R_append k26 (w0 := w) w.heap.size rfl (.tmp 69) (.tmp 71) 22 26 (.agg #[(.int .i64 0), (.int .i64 0), (.int .i64 0)]) 24 rfl Try.underlying22 info26 rfl (by decide) (by decide) (.slice Aa la.length ca) la y [.int .i64 y.f0, .int .i64 y.f1, .int .i64 y.f2] (fun _ => True) (fun _ => False) rfl ?aX ?aP (fun _ h => h.elim) (fun _ _ => trivial) HTP.out.ra HTP.out.bl HTP.out.bl.size ?aL ?_; (case aX => rfl); (case aP => exact k26_mkM _ _ _ y); (case aL => (have := HLNA.out; omega)); intro v9 w9 hV9 hB9 hG9 hat9; have hbm9 := (hG9.block Bm (Array.getElem?_eq_some_iff.1 HBS.out).1 (fun z => by have := HLA.out Bm z.symm; omega)).trans HBS.out; have n29 : w9.cell? ⟨Bm, 2, none⟩ = some (.int .i64 y.f2) := (cell_of hbm9).trans rfl; have hT9 := HTP.out.putA (Below.refl _ _) hV9 hG9 hat9; have HT9 := Lib.hid hT9; have HBM9 := Lib.hid hbm9; clear hV9 hB9 hG9 hat9 hT9 hbm9))
          refine (Agg.take_ok ga 1 0 2 y.f2 1 s c w9 HT9.out.a (.inl rfl) (by omega) (by omega) (by omega) (by have := HCC.out (1 : Int).toNat; omega)).mono ?_
          rintro e w10 ⟨rfl, hA10, hG10⟩
          have hbm10 := (hG10.block Bm (Array.getElem?_eq_some_iff.1 HBM9.out).1 (fun z => by injection z with z; have := HT9.out.a; unfold IsA at this; rw [← z, HBM9.out] at this; cases this)).trans HBM9.out
          have n210 : w10.cell? ⟨Bm, 2, none⟩ = some (.int .i64 y.f2) := (cell_of hbm10).trans rfl
          have HT10 := Lib.hid (HT9.out.takeA hA10 hG10)
          have HBM10 := Lib.hid hbm10
          clear hA10 hG10 hbm10 n29 n0 n1 n2
          go_wp2_with fail
          refine (Agg.take_ok gb 1 0 1 y.f2 0 t d w10 HT10.out.b (.inl rfl) (by omega) (by omega) (by omega) (by have := HDD.out (0 : Int).toNat; omega)).mono ?_
          rintro e w11 ⟨rfl, hA11, hG11⟩
          have HT11 := Lib.hid (HT10.out.takeB hA11 hG11)
          clear hA11 hG11 n210
          go_wp2_with fail
          go_roundw
          case rel => exact ⟨i + 1, v0, vw, l0, l1 ++ [y], _, _, _, _, by omega, by go_num, by rw [HNX.out]; exact HT11.out, by rw [HNX.out]; exact perm_in1 HPM.out, (sum_step HSM.out).2, fun q => cb_step HCC.out _ q, fun q => cb_step HDD.out _ q⟩
          case measure => simp [intOf]; omega
      · obtain ⟨kn, hkn⟩ : ∃ kn : Nat, k = (kn : Int) := ⟨k.toNat, by have := HK.out; omega⟩
        subst hkn
        have HKN : Hid ((kn : Int) ≤ 18446744073709551615) := Lib.hid HK.out.2
        have d2 : decide ((i : Int) < (x.length : Int)) = false := decide_eq_false (by omega)
        have hie : i = x.length := by omega
        have hle := HLE.out
        rw [hie, List.take_length] at hle
        have hok : ∀ m ∈ la, okm m := fun m hm => by
          rw [hle] at hm
          obtain ⟨z, hz, rfl⟩ := List.mem_map.1 hm
          exact ⟨HG.out z hz, and1 .i64 (.inl rfl) z.f1⟩
        have hll : la.length ≤ 30 := by rw [hle, List.length_map]; exact hxl
        have hp2 := HPM.out
        have hlen2 := hp2.length_eq
        rw [List.length_append] at hlen2
        have hk0 : ∀ m ∈ l0, okm m := fun m hm => hok m (hp2.mem_iff.2 (by simp [hm]))
        have hk1 : ∀ m ∈ l1, okm m := fun m hm => hok m (hp2.mem_iff.2 (by simp [hm]))
        have hcm0 := comb_two hk0 (by omega)
        have hcm1 := comb_two hk1 (by omega)
        have hcmA := comb_two hok (by omega)
        have hX : ((comb two l0).mergeSort le).Perm (comb two l0) := List.mergeSort_perm _ _
        have hY : ((comb two l1).mergeSort le).Perm (comb two l1) := List.mergeSort_perm _ _
        have hXl : ((comb two l0).mergeSort le).length ≤ 30 := by rw [hX.length_eq]; have := fold_len two l0 []; unfold comb; simp at this; omega
        have hYl : ((comb two l1).mergeSort le).length ≤ 30 := by rw [hY.length_eq]; have := fold_len two l1 []; unfold comb; simp at this; omega
        have hZp : ∀ q, (turnl ((comb two l1).mergeSort le ++ (comb two l0).mergeSort le) q).Perm (comb two l1 ++ comb two l0) := fun q => (turnl_perm _ q).trans (hY.append hX)
        have hzok : ∀ q, ∀ m ∈ turnl ((comb two l1).mergeSort le ++ (comb two l0).mergeSort le) q, okm m := fun q m hm => by
          rcases List.mem_append.1 ((hZp q).mem_iff.1 hm) with h | h
          · exact comb_okm hk1 m h
          · exact comb_okm hk0 m h
        have hzl : ∀ q, (turnl ((comb two l1).mergeSort le ++ (comb two l0).mergeSort le) q).length ≤ 60 := fun q => by rw [(turnl_perm _ q).length_eq, List.length_append]; omega
        have hcmZ := fun q => comb_two (hzok q) (by have := hzl q; omega)
        have hres : ∀ q, (comb two (turnl ((comb two l1).mergeSort le ++ (comb two l0).mergeSort le) q)).mergeSort le = (comb two la).mergeSort le := fun q => sort_perm (workers_comb two l0 l1 la _ hp2 (fun m hm => (okm_tk (hok m hm)).2.2) (hZp q))
        have hRl : ((comb two la).mergeSort le).length ≤ 30 := by rw [(List.mergeSort_perm _ _).length_eq]; have := fold_len two la []; unfold comb; simp at this; omega
        obtain ⟨A0, c0, e0, hC0, hc0⟩ := R_c HTWr.out.r0
        obtain ⟨A1, c1, e1, hC1, hc1⟩ := R_c HTWr.out.r1
        obtain ⟨A9, c9, e9, hC9, hc9⟩ := R_c HTWr.out.ra
        subst e0; subst e1
        obtain ⟨rfl, rfl⟩ : Aa = A9 ∧ ca = c9 := by injection e9 with q1 _ q3; exact ⟨q1, q3⟩
        have hTW2 := two_C HTWr.out.op
        have HC0 := Lib.hid hC0
        have HC1 := Lib.hid hC1
        have HC9 := Lib.hid hC9
        have HC2 := Lib.hid hTW2
        have HM0 := Lib.hid hcm0
        have HM1 := Lib.hid hcm1
        have HMA := Lib.hid hcmA
        have HMZ := Lib.hid hcmZ
        have HZL := Lib.hid hzl
        have HRES := Lib.hid hres
        have t0 : wr.cell? ⟨Bt, 0, none⟩ = some (.slice A0 l0.length c0) := (cell_of HTWr.out.bt).trans rfl
        have t1 : wr.cell? ⟨Bt, 1, none⟩ = some (.slice A1 l1.length c1) := (cell_of HTWr.out.bt).trans rfl
        generalize (comb two l0).mergeSort le = X at HM0 HMZ HZL HRES hXl
        generalize (comb two l1).mergeSort le = Y at HM1 HMZ HZL HRES hYl
        generalize (comb two la).mergeSort le = RR_ at HMA HRES hRl
        clear e9 hC0 hC1 hC9 hTW2 hcm0 hcm1 hcmA hcmZ hzl hzok hZp hX hY hres hle hok hp2 hlen2 hk0 hk1 hie
        go_wp2_with fail
        refine (mail_Combined.calls A0 c0 l0 (some ⟨w.heap.size, 0, none⟩) 2 two _ 0 wr HC0.out hc0 HC2.out (by decide) HM0.out).mono ?_
        rintro e w1 ⟨v15, rfl, hV15, hb1⟩
        have HT1 := Lib.hid (HTWr.out.below hb1)
        have HBB1 := Lib.hid hb1
        have HV15 := Lib.hid hV15
        have u1' := pw_cell_below hb1 t1
        clear hV15 hb1 t0 t1
        go_wp2_with fail
        refine (mail_Combined.calls A1 c1 l1 (some ⟨w.heap.size, 0, none⟩) 2 two _ 0 w1 (Kd.C_below HC1.out HBB1.out) hc1 (Kd.C_below HC2.out HBB1.out) (by decide) HM1.out).mono ?_
        rintro e w2 ⟨v17, rfl, hV17, hb2⟩
        have HBB2 := Lib.hid (below_then HBB1.out HBB1.out.size hb2)
        have HV17 := Lib.hid hV17
        have HV152 := Lib.hid (Kd.R_below HV15.out hb2)
        clear hV17 hb2 u1'
        obtain ⟨A15, c15, rfl, hC15, hc15⟩ := R_c HV152.out
        obtain ⟨A17, c17, rfl, hC17, hc17⟩ := R_c HV17.out
        have HC15 := Lib.hid hC15
        have HC17 := Lib.hid hC17
        clear hC15 hC17
        go_wp2_with (first | ((with_reducible refine gate_builtin (b := .append) (xs := #[.tmp 101, .tmp 102]) rfl ?_); at_builtin; go_loud (refine Kd.R_append_rows k26 (Rr := Kd.K k26 (w2.alloc (.cells #[] 26))) (w0 := w2) w2.heap.size rfl (.tmp 101) (.tmp 102) 22 26 (.agg #[(.int .i64 0), (.int .i64 0), (.int .i64 0)]) 24 rfl Try.underlying22 info26 rfl (by decide) (by decide) (.slice (some ⟨w2.heap.size, 0, none⟩) 0 0) [] Y A17 Y.length c17 (fun _ => True) (fun _ => False) rfl rfl (R_empty k26 26 w2 w2.heap.size (Nat.le_refl _)) (Kd.C_below HC17.out (below_alloc (Below.refl _ _) _)) (fun z cs h => k26_ofK h) (fun _ h => h.elim) (fun _ _ => trivial) (below_alloc (Below.refl _ _) _) (below_alloc (Below.refl w2.heap.size w2) (.cells #[] 26)).size (by simp; omega) ?_; intro v18 w3 hV18 hB18 _ _; rw [List.nil_append] at hV18; obtain ⟨A18, c18, rfl⟩ := Kd.R_slice hV18; have HV18 := Lib.hid hV18; have HB18 := Lib.hid hB18; clear hV18 hB18)) | ((with_reducible refine gate_builtin (b := .append) (xs := #[.tmp 103, .tmp 104]) rfl ?_); at_builtin; go_loud (refine Kd.R_append_rows k26 (Rr := Kd.K k26 w3) (w0 := w2) w2.heap.size rfl (.tmp 103) (.tmp 104) 22 26 (.agg #[(.int .i64 0), (.int .i64 0), (.int .i64 0)]) 24 rfl Try.underlying22 info26 rfl (by decide) (by decide) (.slice A18 Y.length c18) Y X A15 X.length c15 (fun _ => True) (fun _ => False) rfl rfl HV18.out (Kd.C_below HC15.out HB18.out) (fun z cs h => k26_ofK h) (fun _ h => h.elim) (fun _ _ => trivial) HB18.out HB18.out.size (by omega) ?_; intro v19 w4 hV19 hB19 _ _; obtain ⟨A19, c19, h19, hC19, hc19⟩ := R_c hV19; rw [List.length_append] at h19; subst h19; have HC19 := Lib.hid hC19; have HB19 := Lib.hid hB19; clear hV19 hB19 hC19)))
        have hTr := turned_c A19 c19 (Y ++ X) kn w4 HC19.out hc19 (by rw [List.length_append]; omega) (by omega) HKN.out
        rw [List.length_append] at hTr
        rw [List.length_append] at hc19
        refine hTr.mono ?_
        clear hTr
        rintro e w5 ⟨V5, c5, rfl, hC5, hc5, hb5⟩
        have HBB5 := Lib.hid (below_then HBB2.out HBB2.out.size (below_then HB19.out HB19.out.size hb5))
        have HC5 := Lib.hid hC5
        have hz5 := HMZ.out (kn : Int).toNat
        rw [HRES.out] at hz5
        have HZ5 := Lib.hid hz5
        generalize turnl (Y ++ X) (kn : Int).toNat = Z at HC5 hc5 HZ5
        clear hC5 hb5 hz5
        go_wp2_with fail
        refine (mail_Combined.calls V5 c5 Z (some ⟨w.heap.size, 0, none⟩) 2 two _ 0 w5 HC5.out hc5 (Kd.C_below HC2.out HBB5.out) (by decide) HZ5.out).mono ?_
        rintro e w6 ⟨v20, rfl, hV20, hb6⟩
        obtain ⟨A20, c20, rfl, hC20, hc20⟩ := R_c hV20
        have HBB6 := Lib.hid (below_then HBB5.out HBB5.out.size hb6)
        have HC20 := Lib.hid hC20
        clear hV20 hC20 hb6
        go_wp2_with fail
        refine (mail_Combined.calls Aa ca la (some ⟨w.heap.size, 0, none⟩) 2 two _ 0 w6 (Kd.C_below HC9.out HBB6.out) hc9 (Kd.C_below HC2.out HBB6.out) (by decide) HMA.out).mono ?_
        rintro e w7 ⟨v21, rfl, hV21, hb7⟩
        obtain ⟨A21, c21, rfl, hC21, hc21⟩ := R_c hV21
        have HBB7 := Lib.hid (below_then HBB6.out HBB6.out.size hb7)
        have HC21 := Lib.hid hC21
        have HC207 := Lib.hid (Kd.C_below HC20.out hb7)
        clear hV21 hC21 hb7
        go_wp2_with fail
        go_loopw [23] (fun v23 wi => ∃ j : Nat, j ≤ RR_.length ∧ v23 = .int .i64 j ∧ Below w7.heap.size w7 wi) (fun v23 _ => RR_.length - (intOf v23).toNat)
        case atStart => exact ⟨0, by omega, rfl, Below.refl _ _⟩
        case round =>
          obtain ⟨j, hj, rfl, hbj⟩ := hrel
          have HBJ := Lib.hid hbj
          clear hbj
          by_cases hjt : j < RR_.length
          · have dj : decide ((j : Int) < (RR_.length : Int)) = true := decide_eq_true (by omega)
            obtain ⟨a4, x4, p0, p1, p2⟩ := msg_at HC207.out hjt
            obtain ⟨a5, x5, q0, q1, q2⟩ := msg_at HC21.out hjt
            subst x4; subst x5
            replace p0 := pw_cell_below HBJ.out p0
            replace p1 := pw_cell_below HBJ.out p1
            replace p2 := pw_cell_below HBJ.out p2
            replace q0 := pw_cell_below HBJ.out q0
            replace q1 := pw_cell_below HBJ.out q1
            replace q2 := pw_cell_below HBJ.out q2
            generalize RR_[j] = z at p0 p1 p2 q0 q1 q2
            have dn : decide (j < RR_.length) = true := decide_eq_true hjt
            go_wp2_with fail
            refine start_ (n := 9) (S := fun w' => w'.cell? (a4.add (j * 3)) = some (.int .i64 z.f0) ∧ w'.cell? ⟨(a4.add (j * 3)).block, (a4.add (j * 3)).off + 1, none⟩ = some (.int .i64 z.f1) ∧ w'.cell? ⟨(a4.add (j * 3)).block, (a4.add (j * 3)).off + 2, none⟩ = some (.int .i64 z.f2) ∧ w'.cell? (a5.add (j * 3)) = some (.int .i64 z.f0) ∧ w'.cell? ⟨(a5.add (j * 3)).block, (a5.add (j * 3)).off + 1, none⟩ = some (.int .i64 z.f1) ∧ w'.cell? ⟨(a5.add (j * 3)).block, (a5.add (j * 3)).off + 2, none⟩ = some (.int .i64 z.f2)) (ds := []) #[false, false, false, false, false, false, false, false, false] (by kernel_rfl) rfl rfl ⟨p0, p1, p2, q0, q1, q2⟩ (fun hHeld => ?_)
            refine pure_ (i := 0) (N := some 145) (v := ?_) (a' := ?_) #[true, false, false, false, false, false, false, false, false] rfl rfl (by kernel_rfl) (fun _ _ _ h => h) (Or.inl ⟨by rfl, ?_⟩) ?_ ?_
            rotate_left
            · intro w'
              go_simp
              with_reducible rfl
            rotate_left
            · simp only [Act.put, List.setIfInBounds_toArray, List.set_cons_zero, List.set_cons_succ, i64_w, i32_w]
              rfl
            refine pure_ (i := 1) (N := some 146) (v := ?_) (a' := ?_) #[true, true, false, false, false, false, false, false, false] rfl rfl (by kernel_rfl) (fun _ _ _ h => h) (Or.inl ⟨by rfl, ?_⟩) ?_ ?_
            rotate_left
            · intro w'
              go_simp
              with_reducible rfl
            rotate_left
            · simp only [Act.put, List.setIfInBounds_toArray, List.set_cons_zero, List.set_cons_succ, i64_w, i32_w]
              rfl
            refine pure_ (i := 2) (N := some 147) (v := ?_) (a' := ?_) #[true, true, true, false, false, false, false, false, false] rfl rfl (by kernel_rfl) (fun _ _ _ h => h) (Or.inl ⟨by rfl, ?_⟩) ?_ ?_
            rotate_left
            · intro w'
              go_simp
              with_reducible rfl
            rotate_left
            · simp only [Act.put, List.setIfInBounds_toArray, List.set_cons_zero, List.set_cons_succ, i64_w, i32_w]
              rfl
            refine pure_ (i := 4) (N := some 149) (v := ?_) (a' := ?_) #[true, true, true, false, true, false, false, false, false] rfl rfl (by kernel_rfl) (fun _ _ _ h => h) (Or.inl ⟨by rfl, ?_⟩) ?_ ?_
            rotate_left
            · intro w'
              go_simp
              with_reducible rfl
            rotate_left
            · simp only [Act.put, List.setIfInBounds_toArray, List.set_cons_zero, List.set_cons_succ, i64_w, i32_w]
              rfl
            refine pure_ (i := 5) (N := some 150) (v := ?_) (a' := ?_) #[true, true, true, false, true, true, false, false, false] rfl rfl (by kernel_rfl) (fun _ _ _ h => h) (Or.inl ⟨by rfl, ?_⟩) ?_ ?_
            rotate_left
            · intro w'
              go_simp
              with_reducible rfl
            rotate_left
            · simp only [Act.put, List.setIfInBounds_toArray, List.set_cons_zero, List.set_cons_succ, i64_w, i32_w]
              rfl
            refine pure_ (i := 6) (N := some 151) (v := ?_) (a' := ?_) #[true, true, true, false, true, true, true, false, false] rfl rfl (by kernel_rfl) (fun _ _ _ h => h) (Or.inl ⟨by rfl, ?_⟩) ?_ ?_
            rotate_left
            · intro w'
              go_simp
              with_reducible rfl
            rotate_left
            · simp only [Act.put, List.setIfInBounds_toArray, List.set_cons_zero, List.set_cons_succ, i64_w, i32_w]
              rfl
            refine take_ (i := 3) (N := some 148) (v := ?_) (a' := ?_) #[true, true, true, true, true, true, true, false, false] rfl rfl (by kernel_rfl) (fun _ _ _ h => h) (Or.inl ⟨by rfl, ?_⟩) hHeld ?_ ?_
            rotate_left
            · rintro w' ⟨s0, s1, s2, s3, s4, s5⟩
              go_simp
              with_reducible rfl
            rotate_left
            · simp only [Act.put, List.setIfInBounds_toArray, List.set_cons_zero, List.set_cons_succ, i64_w, i32_w]
              rfl
            refine take_ (i := 7) (N := some 152) (v := ?_) (a' := ?_) #[true, true, true, true, true, true, true, true, false] rfl rfl (by kernel_rfl) (fun _ _ _ h => h) (Or.inl ⟨by rfl, ?_⟩) hHeld ?_ ?_
            rotate_left
            · rintro w' ⟨s0, s1, s2, s3, s4, s5⟩
              go_simp
              with_reducible rfl
            rotate_left
            · simp only [Act.put, List.setIfInBounds_toArray, List.set_cons_zero, List.set_cons_succ, i64_w, i32_w]
              rfl
            refine pure_ (i := 8) (N := some 153) (v := ?_) (a' := ?_) #[true, true, true, true, true, true, true, true, true] rfl rfl (by kernel_rfl) (fun _ _ _ h => h) (Or.inl ⟨by rfl, ?_⟩) ?_ ?_
            rotate_left
            · intro w'
              go_simp
              with_reducible rfl
            rotate_left
            · simp only [Act.put, List.setIfInBounds_toArray, List.set_cons_zero, List.set_cons_succ, i64_w, i32_w]
              rfl
            refine done_ (by kernel_rfl) ?_
            go_wp2_with fail
            go_roundw
            case rel => exact ⟨j + 1, by omega, by go_num, pw_below_drewN HBJ.out _⟩
            case measure => simp [intOf]; omega
          · have dj : decide ((j : Int) < (RR_.length : Int)) = false := decide_eq_false (by omega)
            have HWA : Hid (∀ W, Below w7.heap.size w7 W → Calls Try.prog 27 #[.pointer (some ⟨ga, 0, none⟩), .int .u64 (kn : Int)] W fun e w' => e = .returned (.tuple #[.int .i64 (wrap64 (t 0)), .int .i64 0]) ∧ Below W.heap.size W w') := Lib.hid fun W hW => by
              have := Agg.whole_ok ga 2 kn 1 0 s c W (HTWr.out.below (below_then HBB7.out HBB7.out.size hW)).a (.inl rfl) (by omega) (by omega) HKN.out
              rw [all_two, HSM.out] at this
              exact this
            have HWB : Hid (∀ W, Below w7.heap.size w7 W → Calls Try.prog 27 #[.pointer (some ⟨gb, 0, none⟩), .int .u64 (kn : Int)] W fun e w' => e = .returned (.tuple #[.int .i64 (wrap64 (t 0)), .int .i64 0]) ∧ Below W.heap.size W w') := Lib.hid fun W hW => by
              have := Agg.whole_ok gb 1 kn 1 0 t d W (HTWr.out.below (below_then HBB7.out HBB7.out.size hW)).b (.inl rfl) (by omega) (by omega) HKN.out
              rw [all_one] at this
              exact this
            generalize wrap64 (t 0) = tot at HWA HWB
            go_wp2_with (first | (go_at_call 27; with_reducible refine (HWA.out _ HBJ.out).mono ?_; rintro e w9 ⟨rfl, hb9⟩; have HB9 := Lib.hid (below_then HBJ.out HBJ.out.size hb9); clear hb9) | (go_at_call 27; with_reducible refine (HWB.out _ HB9.out).mono ?_; rintro e w10 ⟨rfl, hb10⟩; have HB10 := Lib.hid (below_then HB9.out HB9.out.size hb10); clear hb10))
            go_ret
            exact ⟨rfl, below_then (below_then HTWr.out.bl HTWr.out.bl.size HBB7.out) (below_then HTWr.out.bl HTWr.out.bl.size HBB7.out).size HB10.out⟩
end Go.Proofs.Ythmenclkgngkkaa.O
