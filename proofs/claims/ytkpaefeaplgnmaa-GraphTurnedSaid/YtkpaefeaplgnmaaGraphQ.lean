/- The walks of graph beside the document's: what both tell. -/
import Derived.Test.YtkpaefeaplgnmaaRefLev
import Derived.Test.YtkpaefeaplgnmaaGraphO
set_option linter.unusedSimpArgs false
set_option linter.unusedVariables false
namespace Go.Proofs.Ytkpaefeaplgnmaa.G
open Go.RowKit Go.Proofs.Ytkpaefeaplgnmaa.PA Go.Proofs.Ytkpaefeaplgnmaa.Mp Go.Proofs.YtkpaefeaplgnmaaW.PrintWords Go.Proofs.YtkpaefeaplgnmaaW.PrintLast Go.Proofs.YtkpaefeaplgnmaaW.PrintMore

theorem chk_in {n : Int} {l : List S53} (h : chk n l = (0, 0)) : ∀ e ∈ l, 0 ≤ e.f0 ∧ e.f0 < n ∧ 0 ≤ e.f1 ∧ e.f1 < n := by
  obtain ⟨m, rfl, hf, _⟩ := ok_fits (show okG n l = true by simp [okG, h])
  exact hf.fit
theorem ref_chk (n : Int) (l : List S53) (hl : l.length ≤ 100) : ∃ k, reticuleref03_Check.f k n l = some (chk n l) := by
  have loop : ∀ (d k i : Nat), l.length - i = d → i ≤ l.length → i ≤ bad n l → d < k → reticuleref03_Check.l0 k n l (i : Int) = some (if bad n l < l.length then ((bad n l : Int), 11) else (0, 0)) := by
    intro d
    induction d with
    | zero =>
      intro k i h0 h1 hb h2
      obtain ⟨k, rfl⟩ : ∃ m, k = m + 1 := ⟨k - 1, by omega⟩
      simp only [reticuleref03_Check.l0]
      rw [if_neg (by omega), if_neg (by omega)]
    | succ d ih =>
      intro k i h0 h1 hb h2
      obtain ⟨k, rfl⟩ : ∃ m, k = m + 1 := ⟨k - 1, by omega⟩
      have hi : i < l.length := by omega
      simp only [reticuleref03_Check.l0]
      rw [if_pos (by omega), if_pos (by omega), rd53 hi, w64_succ (by omega)]
      cases hf : fit n l[i] with
      | false =>
        have hbd := bad_at hi hb hf
        rw [hbd, if_pos hi]
        unfold fit at hf
        by_cases c1 : l[i].f0 < 0
        · rw [if_pos c1]
        · rw [if_neg c1]
          by_cases c2 : l[i].f0 ≥ n
          · rw [if_pos c2]
          · rw [if_neg c2]
            by_cases c3 : l[i].f1 < 0
            · rw [if_pos c3]
            · rw [if_neg c3]
              by_cases c4 : l[i].f1 ≥ n
              · rw [if_pos c4]
              · simp only [Bool.and_eq_false_iff, decide_eq_false_iff_not] at hf
                omega
      | true =>
        have hbd := bad_past hi hb hf
        simp only [fit, Bool.and_eq_true, decide_eq_true_eq] at hf
        rw [if_neg (by omega), if_neg (by omega), if_neg (by omega), if_neg (by omega)]
        exact ih k (i + 1) (by omega) (by omega) hbd (by omega)
  refine ⟨l.length + 1 + 1, ?_⟩
  have hl0 := loop l.length (l.length + 1) 0 (by omega) (by omega) (by omega) (by omega)
  unfold reticuleref03_Check.f chk
  generalize l.length + 1 = F at hl0 ⊢
  by_cases c1 : n < 1
  · rw [if_pos c1, if_pos (.inl c1)]
    simp only [reticuleref03_Check.j0]
    rfl
  · rw [if_neg c1]
    by_cases c2 : n > 12
    · rw [if_pos c2, if_pos (.inr (.inl c2))]
      simp only [reticuleref03_Check.j0]
      rfl
    · rw [if_neg c2]
      simp only [reticuleref03_Check.j0]
      by_cases c3 : (l.length : Int) > 30
      · rw [if_pos (by simpa using c3), if_pos (by omega)]
      · rw [if_neg (by simpa using c3), if_neg (by omega)]
        exact hl0

def okB (b : Bool) (gr k : Nat) : Prop := b = true → k ≠ gr
/-- All but the document's graph is kept. -/
def Kp (b : Bool) (gr : Nat) (w w' : World) : Prop := w.heap.size ≤ w'.heap.size ∧ ∀ k, k < w.heap.size → okB b gr k → w'.heap[k]? = w.heap[k]?
theorem Kp.of_below {b : Bool} {gr : Nat} {w w' : World} (h : Below w.heap.size w w') : Kp b gr w w' := ⟨h.size, fun k hk _ => h.block k hk⟩
theorem Kp.of_keep {gr : Nat} {w w' : World} (h : KeepBut w w' gr none) : Kp true gr w w' := ⟨h.1, fun k hk ho => h.2 k hk (ho rfl) (by simp)⟩
theorem Kp.trans {b : Bool} {gr : Nat} {w w' w2 : World} (h : Kp b gr w w') (h2 : Kp b gr w' w2) : Kp b gr w w2 := ⟨Nat.le_trans h.1 h2.1, fun k hk ho => (h2.2 k (Nat.lt_of_lt_of_le hk h.1) ho).trans (h.2 k hk ho)⟩
theorem R_kp {b : Bool} {gr : Nat} {w w' : World} {x : Value} {xs : List Int} (h : Kd.R (Kd.int .i64) 3 w 0 (okB b gr) x xs) (hk : Kp b gr w w') : Kd.R (Kd.int .i64) 3 w' 0 (okB b gr) x xs := Kd.R_step h (fun k ho hl => hk.2 k hl ho)
theorem R_new {b : Bool} {gr : Nat} {w : World} {base : Nat} {x : Value} {xs : List Int} (h : Kd.R (Kd.int .i64) 3 w base (fun _ => True) x xs) (hg : b = true → gr < base) : Kd.R (Kd.int .i64) 3 w 0 (okB b gr) x xs :=
  Kd.R_lower (Kd.R_mono (Kd.R_bound h) (fun k hk hb => by have := hk.2.1; have := hg hb; omega)) (Nat.zero_le _)
/-- A graph beside the document's; or neither. -/
structure St (w0 w : World) (b : Bool) (A B : Option Addr) (n : Nat) (l : List S53) (gr : Nat) : Prop where
  lt : b = true → gr < w.heap.size
  bl : Below w0.heap.size w0 w
  no : b = false → A = none ∧ B = none
  yes : b = true → ∃ g, A = some ⟨g, 0, none⟩ ∧ B = some ⟨gr, 0, none⟩ ∧ IsG w0 g n l ∧ IsS66 w0 w gr n l
  fits : b = true → Fits n l
section
variable {w0 w w' : World} {b : Bool} {A B : Option Addr} {n gr : Nat} {l : List S53}
theorem St.below (h : St w0 w b A B n l gr) (hb : Below w.heap.size w w') : St w0 w' b A B n l gr :=
  ⟨fun e => Nat.lt_of_lt_of_le (h.lt e) hb.size, below_then h.bl h.bl.size hb, h.no, fun e => by
    obtain ⟨g, h1, h2, h3, h4⟩ := h.yes e
    exact ⟨g, h1, h2, h3, h4.below hb⟩, h.fits⟩
theorem St.ref (h : St w0 w true A B n l gr) (hi : IsS66 w0 w' gr n l) (hb : Below w0.heap.size w0 w') (hk : KeepBut w w' gr none) : St w0 w' true A B n l gr :=
  ⟨fun e => Nat.lt_of_lt_of_le (h.lt e) hk.1, hb, h.no, fun e => by
    obtain ⟨g, h1, h2, h3, h4⟩ := h.yes e
    exact ⟨g, h1, h2, h3, hi⟩, h.fits⟩
theorem St.gn (h : St w0 w b A B n l gr) : Gn w b A n l := by
  cases b with
  | false => exact (h.no rfl).1
  | true => obtain ⟨g, h1, h2, h3, h4⟩ := h.yes rfl; exact ⟨g, h1, h3.below h.bl⟩
theorem St.inb (h : St w0 w true A B n l gr) : InB n l ∧ l.length ≤ 100 ∧ 1 ≤ n ∧ n ≤ 12 := ⟨(h.fits rfl).fit, by have := (h.fits rfl).few; omega, (h.fits rfl).one, (h.fits rfl).top⟩

/-- A list is told, and both graphs stay. -/
def Tell (w0 w : World) (b : Bool) (A B : Option Addr) (n : Nat) (l : List S53) (gr : Nat) (xs : List Int) (e : Ending) (w' : World) : Prop :=
  ∃ x, e = .returned x ∧ Kd.R (Kd.int .i64) 3 w' 0 (okB b gr) x xs ∧ St w0 w' b A B n l gr ∧ Kp b gr w w'
theorem tell_p (h : St w0 w b A B n l gr) {xs : List Int} {e : Ending} (q : ∃ x, e = .returned x ∧ Kd.R (Kd.int .i64) 3 w' w.heap.size (fun _ => True) x xs ∧ Below w.heap.size w w') : Tell w0 w b A B n l gr xs e w' := by
  obtain ⟨x, he, hx, hb⟩ := q
  exact ⟨x, he, R_new hx h.lt, h.below hb, .of_below hb⟩
theorem tell_r (h : St w0 w true A B n l gr) {xs : List Int} {e : Ending} (q : ∃ x, e = .returned x ∧ Kd.R (Kd.int .i64) 3 w' w.heap.size (fun _ => True) x xs ∧ IsS66 w0 w' gr n l ∧ Below w0.heap.size w0 w' ∧ KeepBut w w' gr none) : Tell w0 w true A B n l gr xs e w' := by
  obtain ⟨x, he, hx, hi, hb, hk⟩ := q
  exact ⟨x, he, R_new hx h.lt, h.ref hi hb hk, .of_keep hk⟩
/-- A number is told. -/
def Say (w0 w : World) (b : Bool) (A B : Option Addr) (n : Nat) (l : List S53) (gr : Nat) (x : Value) (e : Ending) (w' : World) : Prop := e = .returned x ∧ St w0 w' b A B n l gr ∧ Kp b gr w w'
theorem say_p (h : St w0 w b A B n l gr) {x : Value} {e : Ending} (q : e = .returned x ∧ Below w.heap.size w w') : Say w0 w b A B n l gr x e w' := ⟨q.1, h.below q.2, .of_below q.2⟩
theorem say_r (h : St w0 w true A B n l gr) {x : Value} {e : Ending} (q : e = .returned x ∧ IsS66 w0 w' gr n l ∧ Below w0.heap.size w0 w' ∧ KeepBut w w' gr none) : Say w0 w true A B n l gr x e w' := ⟨q.1, h.ref q.2.1 q.2.2.1 q.2.2.2, .of_keep q.2.2.2⟩
theorem St.len (h : St w0 w b A B n l gr) (hl : l.length ≤ 100) : l.length ≤ 1000 := by omega

theorem pOut (h : St w0 w b A B n l gr) (hl : l.length ≤ 1000) (v : Int) : Calls Try.prog 15 #[.pointer A, .int .i64 v] w (Tell w0 w b A B n l gr (outs b n l v)) := (out_ok b A n l v w h.gn hl).mono fun _ _ q => tell_p h q
theorem pIn (h : St w0 w b A B n l gr) (hl : l.length ≤ 1000) (v : Int) : Calls Try.prog 16 #[.pointer A, .int .i64 v] w (Tell w0 w b A B n l gr (ins b n l v)) := (in_ok b A n l v w h.gn hl).mono fun _ _ q => tell_p h q
theorem pLev (h : St w0 w b A B n l gr) (v : Int) : Calls Try.prog 29 #[.pointer A, .int .i64 v] w (Tell w0 w b A B n l gr (levs b n l v)) := (levels_any b A n l v w h.gn h.fits).mono fun _ _ q => tell_p h q
theorem pBet (h : St w0 w b A B n l gr) (hl : l.length ≤ 1000) (x y : Int) (hx : (Lit.int .i64 x).wf = true) (hy : (Lit.int .i64 y).wf = true) : Calls Try.prog 49 #[.pointer A, .int .i64 x, .int .i64 y] w (Tell w0 w b A B n l gr (betw b l x y)) := (between_ok b A n l x y w h.gn hl hx hy).mono fun _ _ q => tell_p h q
theorem pDeg (h : St w0 w b A B n l gr) (hl : l.length ≤ 1000) (v : Int) (i : Bool) : Calls Try.prog 46 #[.pointer A, .int .i64 v, .bool i] w (Say w0 w b A B n l gr (.int .i64 (degs b n l v i))) := by
  cases i with
  | true => exact (deg_in_ok b A n l v w h.gn hl).mono fun _ _ q => say_p h q
  | false => exact (deg_out_ok b A n l v w h.gn hl).mono fun _ _ q => say_p h q
theorem pEdge (h : St w0 w b A B n l gr) (i : Int) : Calls Try.prog 51 #[.pointer A, .int .i64 i] w (Say w0 w b A B n l gr (.tuple #[.agg #[.int .i64 (edge b l i).1.f0, .int .i64 (edge b l i).1.f1], .bool (edge b l i).2])) := (edge_ok b A n l i w h.gn).mono fun _ _ q => say_p h q
/-- A number of a graph that may be none. -/
def nB (b : Bool) (n : Nat) : Int := if b = true then (n : Int) else 0
theorem pN (h : St w0 w b A B n l gr) : Calls Try.prog 14 #[.pointer A] w (Say w0 w b A B n l gr (.int .i64 (nB b n))) := h.gn.N.mono fun _ _ q => say_p h q
theorem pM (h : St w0 w b A B n l gr) : Calls Try.prog 39 #[.pointer A] w (Say w0 w b A B n l gr (.int .i64 (nB b l.length))) := h.gn.M.mono fun _ _ q => say_p h q
/-- Two lists are told. -/
def Tell2 (w0 w : World) (b : Bool) (A B : Option Addr) (n : Nat) (l : List S53) (gr : Nat) (xs ys : List Int) (e : Ending) (w' : World) : Prop :=
  ∃ x y, e = .returned (.tuple #[x, y]) ∧ Kd.R (Kd.int .i64) 3 w' 0 (okB b gr) x xs ∧ Kd.R (Kd.int .i64) 3 w' 0 (okB b gr) y ys ∧ St w0 w' b A B n l gr ∧ Kp b gr w w'
def rowsB (b : Bool) (n : Nat) (l : List S53) : List Int := if b = true then rowsN l (n + 1) else []
def colsB (b : Bool) (n : Nat) (l : List S53) : List Int := if b = true then colsN l n else []
theorem pRows (h : St w0 w b A B n l gr) : Calls Try.prog 13 #[.pointer A] w (Tell2 w0 w b A B n l gr (rowsB b n l) (colsB b n l)) := by
  cases b with
  | false =>
    rw [(h.no rfl).1]
    refine (rows_nil w).mono ?_
    rintro e w' ⟨rfl, hb⟩
    exact ⟨_, _, rfl, Kd.R_nil _ _ _ _ _, Kd.R_nil _ _ _ _ _, by have := h.below hb; rwa [(h.no rfl).1] at this, .of_below hb⟩
  | true =>
    obtain ⟨g, h1, h2, h3, h4⟩ := h.yes rfl
    rw [h1]
    refine (rows_ok g n l w (h3.below h.bl) (h.fits rfl)).mono ?_
    rintro e w' ⟨x, y, rfl, hx, hy, hb⟩
    exact ⟨x, y, rfl, R_new hx h.lt, R_new hy h.lt, by have := h.below hb; rwa [h1] at this, .of_below hb⟩

/-! ### The document's graph, where there is none -/
theorem rM0 (w : World) : Calls Try.prog 55 #[.pointer none] w fun e w' => e = .returned (.int .i64 0) ∧ w' = w := by
  go_enter Try.func55, Try.ntmps55
  go_wp2
  go_ret
  exact ⟨rfl, rfl⟩
theorem rN0 (w : World) : Calls Try.prog 54 #[.pointer none] w fun e w' => e = .returned (.int .i64 0) ∧ w' = w := by
  go_enter Try.func54, Try.ntmps54
  go_wp2
  go_ret
  exact ⟨rfl, rfl⟩
theorem rOut0 (v : Int) (w : World) : Calls Try.prog 44 #[.pointer none, .int .i64 v] w fun e w' => e = .returned (.slice none 0 0) ∧ w' = w := by
  go_enter Try.func44, Try.ntmps44
  go_wp2
  go_loop [5, 6] (fun v5 v6 => v5 = .slice none 0 0 ∧ v6 = .int .i64 0) (fun _ _ => 0)
  case atStart => exact ⟨rfl, rfl⟩
  case round =>
    obtain ⟨rfl, rfl⟩ := hrel
    go_wp2_with fail
    refine (rM0 w).mono ?_
    rintro e w' ⟨rfl, rfl⟩
    go_wp2
    go_ret
    exact ⟨rfl, rfl⟩
theorem rIn0 (v : Int) (w : World) : Calls Try.prog 45 #[.pointer none, .int .i64 v] w fun e w' => e = .returned (.slice none 0 0) ∧ w' = w := by
  go_enter Try.func45, Try.ntmps45
  go_wp2
  go_loop [5, 6] (fun v5 v6 => v5 = .slice none 0 0 ∧ v6 = .int .i64 0) (fun _ _ => 0)
  case atStart => exact ⟨rfl, rfl⟩
  case round =>
    obtain ⟨rfl, rfl⟩ := hrel
    go_wp2_with fail
    refine (rM0 w).mono ?_
    rintro e w' ⟨rfl, rfl⟩
    go_wp2
    go_ret
    exact ⟨rfl, rfl⟩
theorem rBet0 (x y : Int) (w : World) : Calls Try.prog 50 #[.pointer none, .int .i64 x, .int .i64 y] w fun e w' => e = .returned (.slice none 0 0) ∧ w' = w := by
  go_enter Try.func50, Try.ntmps50
  go_wp2
  go_loop [7, 8] (fun v5 v6 => v5 = .slice none 0 0 ∧ v6 = .int .i64 0) (fun _ _ => 0)
  case atStart => exact ⟨rfl, rfl⟩
  case round =>
    obtain ⟨rfl, rfl⟩ := hrel
    go_wp2_with fail
    refine (rM0 w).mono ?_
    rintro e w' ⟨rfl, rfl⟩
    go_wp2
    go_ret
    exact ⟨rfl, rfl⟩
theorem rDeg0 (v : Int) (i : Bool) (w : World) : Calls Try.prog 47 #[.pointer none, .int .i64 v, .bool i] w fun e w' => e = .returned (.int .i64 0) ∧ w' = w := by
  cases i with
  | true =>
    go_enter Try.func47, Try.ntmps47
    go_wp2_with fail
    refine (rIn0 v w).mono ?_
    rintro e w' ⟨rfl, rfl⟩
    go_wp2
    go_ret
    exact ⟨rfl, rfl⟩
  | false =>
    go_enter Try.func47, Try.ntmps47
    go_wp2_with fail
    refine (rOut0 v w).mono ?_
    rintro e w' ⟨rfl, rfl⟩
    go_wp2
    go_ret
    exact ⟨rfl, rfl⟩
theorem rLev0 (v : Int) (w : World) : Calls Try.prog 48 #[.pointer none, .int .i64 v] w fun e w' => e = .returned (.slice none 0 0) ∧ w' = w := by
  go_enter Try.func48, Try.ntmps48
  go_wp2
  go_loop [5, 6] (fun v5 v6 => v5 = .slice none 0 0 ∧ v6 = .int .i64 0) (fun _ _ => 0)
  case atStart => exact ⟨rfl, rfl⟩
  case round =>
    obtain ⟨rfl, rfl⟩ := hrel
    go_wp2_with fail
    refine (rN0 w).mono ?_
    rintro e w' ⟨rfl, rfl⟩
    go_wp2
    go_loop [8] (fun v8 => v8 = .int .i64 0) (fun _ => 0)
    case atStart => rfl
    case round =>
      obtain rfl := hrel
      go_wp2_with fail
      refine (rN0 _).mono ?_
      rintro e w' ⟨rfl, rfl⟩
      go_wp2
      go_ret
      exact ⟨rfl, rfl⟩
theorem rRows0 (w : World) : Calls Try.prog 53 #[.pointer none] w fun e w' => e = .returned (.tuple #[.slice none 0 0, .slice none 0 0]) ∧ w' = w := by
  go_enter Try.func53, Try.ntmps53
  go_wp2
  go_ret2
  exact ⟨rfl, rfl⟩
theorem rEdge0 (i : Int) (w : World) : Calls Try.prog 52 #[.pointer none, .int .i64 i] w fun e w' => e = .returned (.tuple #[.agg #[.int .i64 0, .int .i64 0], .bool false]) ∧ Below w.heap.size w w' := by
  by_cases h : i < 0
  · have d : decide (i < 0) = true := decide_eq_true h
    go_enter Try.func52, Try.ntmps52
    go_wp2
    exact bodyPost_ret (v := .tuple #[.agg #[.int .i64 0, .int .i64 0], .bool false]) (by simp [results, Try.results52, go_sem]) rfl ⟨rfl, (Below.refl _ _).alloc (Nat.le_refl _) _⟩
  · have d : decide (i < 0) = false := decide_eq_false h
    have d2 : decide (0 ≤ i) = true := decide_eq_true (by omega)
    have d3 : 0 ≤ i := by omega
    go_enter Try.func52, Try.ntmps52
    go_wp2_with fail
    refine (rM0 _).mono ?_
    rintro e w' ⟨rfl, rfl⟩
    go_wp2
    exact bodyPost_ret (v := .tuple #[.agg #[.int .i64 0, .int .i64 0], .bool false]) (by simp [results, Try.results52, go_sem]) rfl ⟨rfl, (Below.refl _ _).alloc (Nat.le_refl _) _⟩
end
end Go.Proofs.Ytkpaefeaplgnmaa.G
