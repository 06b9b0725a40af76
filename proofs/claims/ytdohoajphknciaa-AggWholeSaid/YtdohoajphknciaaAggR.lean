/- The walks of the reference of agg: an operation, what each worker took in. -/
import Derived.Test.YtdohoajphknciaaAggB
import Derived.Laws.AppendOwnNone
set_option linter.unusedSimpArgs false
set_option linter.unusedVariables false
namespace Go.Proofs.Ytdohoajphknciaa.Agg
open Go.RowKit Go.Proofs.Ytdohoajphknciaa.PT Go.Proofs.Ytdohoajphknciaa.Pure Go.Proofs.Ytdohoajphknciaa.Perm Go.Proofs.YtdohoajphknciaaW.PrintWords Go.Proofs.YtdohoajphknciaaW.PrintLast Go.Proofs.YtdohoajphknciaaW.PrintMore

/-- A row of rows of numbers. -/
def Rows (w : World) (v : Value) (ls : List (List Int)) : Prop :=
 ∃ vs, w.ownsRow 0 32 1 v ls.length vs ∧ ∀ (i : Nat) (l : List Int), ls[i]? = some l → ∃ u, vs[i]? = some u ∧ w.ownsRow 0 34 1 u l.length (l.map I)
def IsR (w : World) (g : Nat) (o : Int) (ls : List (List Int)) : Prop := ∃ v, w.heap[g]? = some (.cells #[.int .u8 o, v] 73 (0, 0)) ∧ Rows w v ls

theorem own_ne {w : World} {b e s n k t : Nat} {v : Value} {xs : List Value} {c : Array Value} (h : w.ownsRow b e s v n xs) (hk : w.heap[k]? = some (.cells c t (0, 0))) (ht : t ≠ e) : v.ownBlock ≠ some k := by
 rcases h.2 with ⟨rfl, _⟩ | ⟨g, cap, cur, rfl, _, hg, _⟩
 ·simp [Value.ownBlock]
 ·intro q
  injection q with q
  subst q
  rw [show (Addr.mk g 0 none).block = g from rfl] at hk
  rw [hg] at hk
  injection hk with hk
  injection hk with _ hk _
  exact ht hk.symm
/-- Only a block of another type has been written. -/
def Apart (w : World) (r : Option Nat) : Prop := ∀ k, r = some k → ∃ c t, w.heap[k]? = some (.cells c t (0, 0)) ∧ t ≠ 32 ∧ t ≠ 34
theorem own_kept {w w' : World} {b e s n : Nat} {v : Value} {xs : List Value} {r : Option Nat} (h : w.ownsRow b e s v n xs) (hg : w.grownBy w' r) (ha : Apart w r) (he : e = 32 ∨ e = 34) : w'.ownsRow b e s v n xs := by
 refine h.kept hg ?_
 cases r with
 | none => cases v.ownBlock <;> simp
 | some k =>
  obtain ⟨c, t, h1, h2, h3⟩ := ha k rfl
  exact Or.inr (own_ne h h1 (by rcases he with rfl | rfl <;> assumption))
theorem Rows.kept {w w' : World} {v : Value} {ls : List (List Int)} {r : Option Nat} (h : Rows w v ls) (hg : w.grownBy w' r) (ha : Apart w r) : Rows w' v ls := by
 obtain ⟨vs, h1, h2⟩ := h
 refine ⟨vs, own_kept h1 hg ha (Or.inl rfl), fun i l hl => ?_⟩
 obtain ⟨u, q1, q2⟩ := h2 i l hl
 exact ⟨u, q1, own_kept q2 hg ha (Or.inr rfl)⟩
theorem Apart.none (w : World) : Apart w none := fun k h => by cases h
theorem grown_none {w w' : World} (hb : Below w.heap.size w w') : w.grownBy w' none := ⟨hb.os, hb.tape, hb.output, hb.size, fun k hk _ => hb.block k hk⟩
theorem Rows.below {w w' : World} {v : Value} {ls : List (List Int)} (h : Rows w v ls) (hb : Below w.heap.size w w') : Rows w' v ls := h.kept (grown_none hb) (Apart.none w)
theorem IsR.lt {w : World} {g : Nat} {o : Int} {ls : List (List Int)} (h : IsR w g o ls) : g < w.heap.size := by
 obtain ⟨v, h, _⟩ := h
 rcases Nat.lt_or_ge g w.heap.size with h' | h'
 ·exact h'
 ·rw [Array.getElem?_eq_none h'] at h; cases h
theorem IsR.below {w w' : World} {g : Nat} {o : Int} {ls : List (List Int)} (h : IsR w g o ls) (hb : Below w.heap.size w w') : IsR w' g o ls := by
 have hl := h.lt
 obtain ⟨v, h1, h2⟩ := h
 exact ⟨v, by rw [hb.block g hl, h1], h2.below hb⟩
/-- Another thing's block has been written. -/
theorem IsR.kept {w w' : World} {g k : Nat} {o : Int} {ls : List (List Int)} (h : IsR w g o ls) (hg : w.grownBy w' (some k)) (ha : Apart w (some k)) (hne : g ≠ k) : IsR w' g o ls := by
 have hl := h.lt
 obtain ⟨v, h1, h2⟩ := h
 exact ⟨v, by rw [hg.block g hl (fun e => hne (by injection e)), h1], h2.kept hg ha⟩
theorem IsA.apart {w : World} {g : Nat} {o f n : Int} {s c : Nat → Int} (h : IsA w g o f n s c) : Apart w (some g) := fun k e => by
 injection e with e; subst e
 exact ⟨_, 67, h, by decide, by decide⟩
theorem IsR.apart {w : World} {g : Nat} {o : Int} {ls : List (List Int)} (h : IsR w g o ls) : Apart w (some g) := fun k e => by
 injection e with e; subst e
 obtain ⟨v, h, _⟩ := h
 exact ⟨_, 73, h, by decide, by decide⟩
theorem IsA.kept {w w' : World} {g k : Nat} {o f n : Int} {s c : Nat → Int} (h : IsA w g o f n s c) (hg : w.grownBy w' (some k)) (hne : g ≠ k) : IsA w' g o f n s c := by
 have hl := h.lt
 unfold IsA at h ⊢
 rw [hg.block g hl (fun e => hne (by injection e)), h]
theorem IsA.ne {w : World} {g k : Nat} {o f n o' : Int} {s c : Nat → Int} {ls : List (List Int)} (h : IsA w g o f n s c) (h' : IsR w k o' ls) : g ≠ k := by
 rintro rfl
 obtain ⟨v, h1, _⟩ := h'
 unfold IsA at h
 rw [h1] at h
 injection h with h
 injection h with _ h _
 exact absurd h (by decide)

theorem may_nil (worker : Int) (w : World) : Calls Try.prog 44 #[.pointer none, .int .i64 worker] w fun e w' => e = .returned (.int .i64 1) ∧ Below w.heap.size w w' := by
 go_enter Try.func44, Try.ntmps44
 go_wp2
 go_ret
 exact ⟨rfl, Below.refl _ _⟩
theorem rows_val {w : World} {v : Value} {ls : List (List Int)} (h : Rows w v ls) : ∃ A c, v = .slice A ls.length c := by
 obtain ⟨vs, h1, _⟩ := h
 rcases h1.2 with ⟨rfl, q⟩ | ⟨g, cap, cur, rfl, _⟩
 ·exact ⟨none, 0, by rw [q]⟩
 ·exact ⟨_, _, rfl⟩
theorem may_bad (g : Nat) (o worker : Int) (ls : List (List Int)) (w : World) (h : IsR w g o ls) (hw : worker < 0 ∨ (ls.length : Int) ≤ worker) : Calls Try.prog 44 #[.pointer (some ⟨g, 0, none⟩), .int .i64 worker] w fun e w' => e = .returned (.int .i64 2) ∧ Below w.heap.size w w' := by
 obtain ⟨v, h1, h2⟩ := h
 obtain ⟨A, c, rfl⟩ := rows_val h2
 have e1 : w.cell? ⟨g, 1, none⟩ = some (.slice A ls.length c) := by simp [World.cell?, h1]
 clear h1 h2
 by_cases h0 : worker < 0
 ·have hd0 : decide (worker < 0) = true := decide_eq_true h0
  clear hw
  go_enter Try.func44, Try.ntmps44
  go_wp2
  go_ret
  exact ⟨rfl, Below.refl _ _⟩
 ·have hd0 : decide (worker < 0) = false := decide_eq_false h0
  have hd1 : decide ((ls.length : Int) ≤ worker) = true := decide_eq_true (by omega)
  clear hw
  go_enter Try.func44, Try.ntmps44
  go_wp2
  go_ret
  exact ⟨rfl, Below.refl _ _⟩
theorem may_ok (g : Nat) (o worker : Int) (ls : List (List Int)) (w : World) (h : IsR w g o ls) (h0 : 0 ≤ worker) (hn : worker < ls.length) : Calls Try.prog 44 #[.pointer (some ⟨g, 0, none⟩), .int .i64 worker] w fun e w' => e = .returned (.int .i64 0) ∧ Below w.heap.size w w' := by
 obtain ⟨v, h1, h2⟩ := h
 obtain ⟨A, c, rfl⟩ := rows_val h2
 have e1 : w.cell? ⟨g, 1, none⟩ = some (.slice A ls.length c) := by simp [World.cell?, h1]
 have hd0 : decide (worker < 0) = false := decide_eq_false (by omega)
 have hd1 : decide ((ls.length : Int) ≤ worker) = false := decide_eq_false (by omega)
 clear h1 h2
 go_enter Try.func44, Try.ntmps44
 go_wp2
 go_ret
 exact ⟨rfl, Below.refl _ _⟩

theorem rtake_nil (worker x : Int) (w : World) : Calls Try.prog 35 #[.pointer none, .int .i64 worker, .int .i64 x] w fun e w' => e = .returned (.int .i64 1) ∧ Below w.heap.size w w' := by
 go_enter Try.func35, Try.ntmps35
 go_wp2_with fail
 refine (may_nil _ _).mono ?_
 rintro e w' ⟨rfl, hb⟩
 have HB := Lib.hid hb
 clear hb
 go_wp2
 go_ret
 exact ⟨rfl, HB.out⟩
theorem rtake_bad (g : Nat) (o worker x : Int) (ls : List (List Int)) (w : World) (h : IsR w g o ls) (hw : worker < 0 ∨ (ls.length : Int) ≤ worker) : Calls Try.prog 35 #[.pointer (some ⟨g, 0, none⟩), .int .i64 worker, .int .i64 x] w fun e w' => e = .returned (.int .i64 2) ∧ Below w.heap.size w w' := by
 have HI := Lib.hid h
 have HW := Lib.hid hw
 clear h hw
 go_enter Try.func35, Try.ntmps35
 go_wp2_with fail
 refine (may_bad g o worker ls _ HI.out HW.out).mono ?_
 rintro e w' ⟨rfl, hb⟩
 have HB := Lib.hid hb
 clear hb
 go_wp2
 go_ret
 exact ⟨rfl, HB.out⟩

theorem info32 : (Try.prog.info? 32).map (fun i => (i.zero, i.size, i.bytes)) = some (some (.slice none 0 0), 1, 24) := by kernel_rfl
theorem info34 : (Try.prog.info? 34).map (fun i => (i.zero, i.size, i.bytes)) = some (some (.int .i64 0), 1, 8) := by kernel_rfl

/-- append(own row, a row of one-cell elements...), nil or not. -/
theorem append_any {P : Program} {W : World} {ops : Array Oper} {rest : List Oper} {o : Oper} {a : Act} {Q : Exit → Act → World → Prop} (hgd : o.guard = none) (s x : Operand) (t : TypeId)
  (ho : o.op = .call { callee := .builtin .append, args := #[s, x], argTypes := #[t, t] })
  (base : Nat) (e : TypeId) (i : TypeInfo) (z : Value) (bytes : Nat) (ht : P.underlying t = some (.slice e)) (hi : P.info? e = some i) (hz : i.zero = some z)
  (hsize : i.size = 1) (hby : i.bytes = bytes) (hzs : z.cells.size = 1)
  (v0 : Value) (n0 : Nat) (xs0 : List Value) (hs : a.eval s = v0) (hown : W.ownsRow base e 1 v0 n0 xs0) (u : Value) (m b' : Nat) (news : List Value) (hx : a.eval x = u) (hu : W.ownsRow b' e 1 u m news) (h1 : ∀ u ∈ news, u.oneCell' = true)
  (h63 : n0 + m ≤ maxLen) (hbytes : (n0 + m) * bytes ≤ 140737488355328) (hbase : base ≤ W.heap.size)
  (h : ∀ v' w', w'.ownsRow base e 1 v' (n0 + m) (xs0 ++ news) → W.grownBy w' v0.ownBlock → wpList P ops Q rest (a.put o.dst v') w') : wpList P ops Q (o :: rest) a W := by
 rcases hu.2 with ⟨rfl, rfl⟩ | ⟨g, cap, cur, rfl, hb, hg, hn, hm, hc, htk⟩
 ·have hnil : news = [] := by simpa using hu.1
  subst hnil
  refine wpList_append_own_none hgd s x t ho base e i 1 ht hi v0 n0 xs0 hs hown hx ?_
  refine h v0 W (by simpa using hown) ⟨rfl, rfl, rfl, Nat.le_refl _, fun _ _ _ => rfl⟩
 ·refine wpList_append_own _ hgd s x t ho base e i z 1 bytes ht hi hz hsize hby hzs (by decide) v0 n0 xs0 hs hown ⟨g, 0, none⟩ m cap news hx hu.1 (fun q y hy => ?_) h1 h63 hbytes hbase (fun v' w' q1 q2 _ => h v' w' q1 q2)
  rw [Addr.add_lit, Nat.zero_add]
  have hq : q < m * 1 := by
   obtain ⟨q', _⟩ := List.getElem?_eq_some_iff.1 hy
   rw [hu.1] at q'; exact q'
  rw [hu.cellAt q hq, hy]

theorem own_base {w : World} {b b' e s n : Nat} {v : Value} {xs : List Value} (h : w.ownsRow b e s v n xs) (hb : b' ≤ b) : w.ownsRow b' e s v n xs := by
 obtain ⟨h1, h2⟩ := h
 refine ⟨h1, ?_⟩
 rcases h2 with h2 | ⟨g, cap, cur, hv, hg, r⟩
 ·exact Or.inl h2
 ·exact Or.inr ⟨g, cap, cur, hv, Nat.le_trans hb hg, r⟩
theorem own_below {w w' : World} {b e s n : Nat} {v : Value} {xs : List Value} (h : w.ownsRow b e s v n xs) (hb : Below w.heap.size w w') : w'.ownsRow b e s v n xs :=
 h.kept (grown_none hb) (by cases v.ownBlock <;> simp)
/-- A store into a block of another type. -/
theorem own_store {w : World} {b e s n k i t : Nat} {v u : Value} {xs : List Value} {c : Array Value} (h : w.ownsRow b e s v n xs) (hk : w.heap[k]? = some (.cells c t (0, 0))) (ht : t ≠ e) : (w.setCell ⟨k, i, none⟩ u).ownsRow b e s v n xs :=
 h.kept (row := some k) ⟨rfl, rfl, rfl, by simp [World.setCell], fun q _ hne => Below.heap_setCell _ _ _ _ (fun e => hne (by rw [e]))⟩ (Or.inr (own_ne h hk ht))
theorem own_block {w : World} {b e n g cap : Nat} {xs : List Value} (h : w.ownsRow b e 1 (.slice (some ⟨g, 0, none⟩) n cap) n xs) : ∃ c, w.heap[g]? = some (.cells c e (0, 0)) := by
 rcases h.2 with ⟨q, _⟩ | ⟨g', cap', cur, q, _, hg, _⟩
 ·cases q
 ·injection q with q _ _
  injection q with q
  injection q with q
  subst q
  exact ⟨cur, hg⟩
theorem map_one (l : List Int) : ∀ u ∈ l.map I, u.oneCell' = true := fun u hu => by
 obtain ⟨x, _, rfl⟩ := List.mem_map.1 hu
 rfl
theorem own_form {w : World} {b e n : Nat} {v : Value} {xs : List Value} (h : w.ownsRow b e 1 v n xs) (hn : 0 < n) : ∃ g cap, v = .slice (some ⟨g, 0, none⟩) n cap ∧ b ≤ g ∧ g < w.heap.size := by
 rcases h.2 with ⟨_, rfl⟩ | ⟨g, cap, cur, rfl, hb, _⟩
 ·omega
 ·exact ⟨g, cap, rfl, hb, (h.lt g rfl).2⟩

/-- A literal of no element. -/
theorem own_empty (w : World) (b e : Nat) (hb : b ≤ w.heap.size) : (w.alloc (.cells #[] e (0, 0))).ownsRow b e 1 (.slice (some ⟨w.heap.size, 0, none⟩) 0 0) 0 [] :=
 ⟨rfl, Or.inr ⟨w.heap.size, 0, #[], rfl, hb, by show (w.heap.push _)[w.heap.size]? = _; simp, Nat.le_refl _, by simp [maxLen], rfl, rfl⟩⟩

theorem set_row {w : World} {g gn cn j : Nat} {o : Int} {old : Value} {ls : List (List Int)} {l : List Int} {vs : List Value} {u : Value} (hv : w.heap[g]? = some (.cells #[.int .u8 o, old] 73 (0, 0))) (ho : w.ownsRow 0 32 1 (.slice (some ⟨gn, 0, none⟩) ls.length cn) ls.length vs)
  (hr : ∀ (i : Nat) (l : List Int), ls[i]? = some l → ∃ u, vs[i]? = some u ∧ w.ownsRow 0 34 1 u l.length (l.map I)) (hu : w.ownsRow 0 34 1 u l.length (l.map I)) (hj : j < ls.length) :
  IsR ((w.setCell ⟨gn, j, none⟩ u).setCell ⟨g, 1, none⟩ (.slice (some ⟨gn, 0, none⟩) ls.length cn)) g o (ls.set j l) := by
 obtain ⟨c, hc⟩ := own_block ho
 have hne : gn ≠ g := by
  rintro rfl
  rw [hv] at hc
  injection hc with hc
  injection hc with _ hc _
  exact absurd hc (by decide)
 have hg : (w.setCell ⟨gn, j, none⟩ u).heap[g]? = some (.cells #[.int .u8 o, old] 73 (0, 0)) := by
  rw [Below.heap_setCell _ _ _ _ (fun e => hne e.symm), hv]
 have two : ∀ (v : Value) (n : Nat) (xs : List Value), w.ownsRow 0 34 1 v n xs → ((w.setCell ⟨gn, j, none⟩ u).setCell ⟨g, 1, none⟩ (.slice (some ⟨gn, 0, none⟩) ls.length cn)).ownsRow 0 34 1 v n xs := fun v n xs h =>
  own_store (own_store h hc (by decide)) hg (by decide)
 refine ⟨.slice (some ⟨gn, 0, none⟩) ls.length cn, ?_, vs.set j u, ?_, ?_⟩
 ·simp [World.setCell, Array.getElem?_modify] at hg ⊢
  simp [hg]
 ·rw [List.length_set]
  exact own_store (ho.stored j u).1 hg (by decide)
 ·intro i l' hl'
  have hvl : vs.length = ls.length := by have := ho.1; omega
  by_cases e : i = j
  ·subst e
   rw [List.getElem?_set_self hj] at hl'
   injection hl' with hl'
   subst hl'
   exact ⟨u, by rw [List.getElem?_set_self (by omega)], two _ _ _ hu⟩
  ·rw [List.getElem?_set_ne (fun q => e q.symm)] at hl'
   obtain ⟨u', q1, q2⟩ := hr i l' hl'
   exact ⟨u', by rw [List.getElem?_set_ne (fun q => e q.symm)]; exact q1, two _ _ _ q2⟩
theorem rtake_end {w w1 w2 w4 : World} {g gn gm cn cm j : Nat} {o x : Int} {old : Value} {ls : List (List Int)} {vs : List Value} (hv : w.heap[g]? = some (.cells #[.int .u8 o, old] 73 (0, 0)))
  (hr : ∀ (i : Nat) (l : List Int), ls[i]? = some l → ∃ u, vs[i]? = some u ∧ w1.ownsRow 0 34 1 u l.length (l.map I)) (hb1 : Below w.heap.size w w1) (hb2 : Below w1.heap.size w1 w2) (ho2 : w2.ownsRow w1.heap.size 32 1 (.slice (some ⟨gn, 0, none⟩) ls.length cn) ls.length vs) (hb4 : Below w2.heap.size w2 w4) {l : List Int} {y : Value}
  (ho4 : w4.ownsRow w2.heap.size 34 1 (.slice (some ⟨gm, 0, none⟩) (l.length + 1) cm) (l.length + 1) (l.map I ++ [y])) (hj : j < ls.length) (hgn : w1.heap.size ≤ gn) (lg : g < w.heap.size) (hl : ls[j] = l) (hy : y = I x) :
  IsR ((w4.setCell ⟨gn, j, none⟩ (.slice (some ⟨gm, 0, none⟩) (l.length + 1) cm)).setCell ⟨g, 1, none⟩ (.slice (some ⟨gn, 0, none⟩) ls.length cn)) g o (ls.set j (ls.getD j [] ++ [x])) ∧ w.grownBy ((w4.setCell ⟨gn, j, none⟩ (.slice (some ⟨gm, 0, none⟩) (l.length + 1) cm)).setCell ⟨g, 1, none⟩ (.slice (some ⟨gn, 0, none⟩) ls.length cn)) (some g) := by
 have hb14 : Below w1.heap.size w1 w4 := below_step hb2 hb4
 have hb : Below w.heap.size w w4 := below_step hb1 hb14
 subst hl hy
 constructor
 ·refine set_row (old := old) (vs := vs) (by rw [hb.block g lg, hv]) (own_base (own_below ho2 hb4) (Nat.zero_le _)) (fun i l hl => ?_) ?_ hj
  ·obtain ⟨u, q1, q2⟩ := hr i l hl
   exact ⟨u, q1, own_below q2 hb14⟩
  ·have e : ls.getD j [] = ls[j] := by simp [List.getD, hj]
   rw [e]
   simpa using own_base ho4 (Nat.zero_le _)
 ·exact grown_set (grown_below (hb.setCell (Nat.le_trans hb1.size hgn) _))

set_option maxHeartbeats 4000000 in
theorem rtake_ok (g : Nat) (o worker x : Int) (ls : List (List Int)) (w : World) (h : IsR w g o ls) (h0 : 0 ≤ worker) (hn : worker < ls.length) (h4 : ls.length ≤ 4) (hl : ∀ l ∈ ls, l.length ≤ 100000) :
  Calls Try.prog 35 #[.pointer (some ⟨g, 0, none⟩), .int .i64 worker, .int .i64 x] w fun e w' => e = .returned (.int .i64 0) ∧ IsR w' g o (ls.set worker.toNat (ls.getD worker.toNat [] ++ [x])) ∧ w.grownBy w' (some g) := by
 have HI := Lib.hid h
 obtain ⟨v, hv, hrw⟩ := h
 obtain ⟨i32, hi32, z32, s32, b32⟩ := info_parts info32
 obtain ⟨i34, hi34, z34, s34, b34⟩ := info_parts info34
 obtain ⟨j, rfl⟩ := Int.eq_ofNat_of_zero_le h0
 have hj : j < ls.length := by omega
 have lg := HI.out.lt
 have HV := Lib.hid hv
 have HRW := Lib.hid hrw
 clear hv hrw
 go_enter Try.func35, Try.ntmps35
 go_wp2_with fail
 refine (may_ok g o j ls _ HI.out h0 hn).mono ?_
 rintro e w1 ⟨rfl, hb1⟩
 obtain ⟨vs, hvs, hrows⟩ := HRW.out.below hb1
 have hne : v ≠ .slice none 0 0 := by
  rintro rfl
  rcases hvs.2 with ⟨_, q⟩ | ⟨_, _, _, q, _⟩
  ·omega
  ·cases q
 obtain ⟨gv, cap, cur, rfl, _, hgv, hnc, hcm, hcs, hct⟩ := hvs.2.resolve_left (fun q => hne q.1)
 have e1 : w1.cell? ⟨g, 1, none⟩ = some (.slice (some ⟨gv, 0, none⟩) ls.length cap) := by
  rw [hb1.cell lg]; simp [World.cell?, HV.out]
 have hvl : vs.length = ls.length * 1 := hvs.1
 have hnews : ∀ j u, vs[j]? = some u → w1.cell? ⟨gv, j, none⟩ = some u := fun j u hu => by
  have hjl : j < ls.length * 1 := by
   obtain ⟨q, _⟩ := List.getElem?_eq_some_iff.1 hu
   omega
  rw [hvs.cellAt j hjl, hu]
 have lgv : gv < w1.heap.size := (hvs.lt gv rfl).2
 have lg1 : g < w1.heap.size := Nat.lt_of_lt_of_le lg hb1.size
 have hone : ∀ u ∈ vs, u.oneCell' = true := fun u hu => by
  obtain ⟨i, hi⟩ := List.getElem?_of_mem hu
  have hil : i < ls.length := by
   obtain ⟨q, _⟩ := List.getElem?_eq_some_iff.1 hi
   omega
  obtain ⟨u', q1, q2⟩ := hrows i ls[i] (List.getElem?_eq_getElem hil)
  rw [hi] at q1
  injection q1 with q1
  subst q1
  rcases q2.2 with ⟨rfl, _⟩ | ⟨_, _, _, rfl, _⟩ <;> rfl
 have HVS := Lib.hid hvs
 have HRO := Lib.hid hrows
 have HN := Lib.hid hnews
 have HB1 := Lib.hid hb1
 have HO1 := Lib.hid hone
 clear hvs hrows hnews hb1 hone hgv hcs hct hne
 obtain ⟨u, hu1, hu2⟩ := HRO.out j ls[j] (List.getElem?_eq_getElem hj)
 have hlj := hl ls[j] (List.getElem_mem hj)
 have HU := Lib.hid hu2
 have HU1 := Lib.hid hu1
 clear hu2 hu1
 have hjl1 : j < ls.length * 1 := by omega
 go_wp2_with (first
  | (at_builtin; refine append_any rfl (.tmp 14) (.tmp 18) 71 rfl w1.heap.size 32 i32 (.slice none 0 0) 24 Try.underlying71 hi32 z32 s32 b32 rfl (.slice (some ⟨w1.heap.size, 0, none⟩) 0 0) 0 [] rfl (own_empty w1 _ 32 (Nat.le_refl _)) (.slice (some ⟨gv, 0, none⟩) ls.length cap) ls.length 0 vs rfl (HVS.out.alloc _) HO1.out ?c3 ?c4 (by simp) ?_; (case c3 => (unfold maxLen; omega)); (case c4 => omega); intro v2 w2 ho2 hg2; rw [Nat.zero_add, List.nil_append] at ho2; obtain ⟨gn, cn, rfl, hgn1, hgn2⟩ := own_form ho2 (by omega); have hc2 : w2.cell? ⟨gn, j, none⟩ = some u := (ho2.cellAt j hjl1).trans HU1.out; have HO2 := Lib.hid ho2; have HB2 := Lib.hid (((below_alloc (Below.refl w1.heap.size w1) (.cells #[] 32)).grown hg2 (by simp) (fun k hk => by injection hk with hk; exact Nat.le_of_eq hk)) : Below w1.heap.size w1 w2); clear ho2 hg2)
  | (at_builtin; refine append_any rfl (.tmp 22) (.tmp 26) 32 rfl w2.heap.size 34 i34 (.int .i64 0) 8 Try.underlying32 hi34 z34 s34 b34 rfl (.slice (some ⟨w2.heap.size, 0, none⟩) 0 0) 0 [] rfl (own_empty w2 _ 34 (Nat.le_refl _)) u ls[j].length 0 (ls[j].map I) rfl ((own_below HU.out HB2.out).alloc _) (map_one _) ?d3 ?d4 (by simp) ?_; (case d3 => (unfold maxLen; omega)); (case d4 => omega); intro v3 w3 ho3 hg3; rw [Nat.zero_add, List.nil_append] at ho3; have HO3 := Lib.hid ho3; have HB3 := Lib.hid (((below_alloc (Below.refl w2.heap.size w2) (.cells #[] 34)).grown hg3 (by simp) (fun k hk => by injection hk with hk; exact Nat.le_of_eq hk)) : Below w2.heap.size w2 w3); clear ho3 hg3)
  | (at_builtin; refine print_append_cells (w0 := w2) w2.heap.size rfl (.tmp 27) (.tmp 29) 32 34 (.int .i64 0) 1 8 rfl Try.underlying32 info34 rfl (by decide) (by decide) v3 ls[j].length (ls[j].map I) [.int .i64 x] rfl rfl rfl (map_one [x]) HO3.out HB3.out HB3.out.size ?e1 ?_; (case e1 => omega); intro v4 w4 ho4 hb4 _ _; obtain ⟨gm, cm, rfl, hgm1, hgm2⟩ := own_form ho4 (by omega); have HO4 := Lib.hid ho4; have hc4 : w4.cell? ⟨gn, j, none⟩ = some u := (hb4.cell hgn2).trans hc2; have hf4 : w4.frozen? ⟨gn, j, none⟩ = false := (hb4.frozen hgn2).trans (HO2.out.frozenAt j); have lg2 : g < w2.heap.size := Nat.lt_of_lt_of_le lg1 HB2.out.size; have he4 : w4.cell? ⟨g, 1, none⟩ = some (.slice (some ⟨gv, 0, none⟩) ls.length cap) := (hb4.cell lg2).trans ((HB2.out.cell lg1).trans e1); have hfg : w4.frozen? ⟨g, 1, none⟩ = false := (hb4.frozen lg2).trans ((HB2.out.frozen lg1).trans ((HB1.out.frozen lg).trans (by simp [World.frozen?, HV.out]))); have hgg : g ≠ gn := (by omega); have HB4 := Lib.hid hb4; clear ho4 hb4))
 go_ret
 rw [Int.toNat_natCast]
 exact ⟨rfl, rtake_end HV.out HRO.out HB1.out HB2.out HO2.out HB4.out HO4.out hj hgn1 lg rfl rfl⟩
end Go.Proofs.Ytdohoajphknciaa.Agg
