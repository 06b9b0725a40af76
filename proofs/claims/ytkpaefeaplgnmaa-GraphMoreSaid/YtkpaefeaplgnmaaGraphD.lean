/- A graph as it is made: rows of numbers, each in a block of its own. -/
import Derived.Test.YtkpaefeaplgnmaaGraphC
set_option linter.unusedSimpArgs false
set_option linter.unusedVariables false
namespace Go.Proofs.Ytkpaefeaplgnmaa.G
open Go.RowKit Go.Proofs.Ytkpaefeaplgnmaa.PA Go.Proofs.Ytkpaefeaplgnmaa.Mp Go.Proofs.YtkpaefeaplgnmaaW.PrintWords Go.Proofs.YtkpaefeaplgnmaaW.PrintLast Go.Proofs.YtkpaefeaplgnmaaW.PrintMore

def I (x : Int) : Value := .int .i64 x
deriving instance DecidableEq for S53
/-- Which row: of the edges that leave a node, that come to it, from one to another one. -/
inductive Ix
 | o (v : Nat)
 | i (v : Nat)
 | b (e : S53)
 deriving DecidableEq
def updI {α : Type} (f : Ix → α) (x : Ix) (a : α) : Ix → α := fun y => if y = x then a else f y
theorem updI_self {α : Type} (f : Ix → α) (x : Ix) (a : α) : updI f x a x = a := by simp [updI]
theorem updI_ne {α : Type} (f : Ix → α) {x y : Ix} (a : α) (h : y ≠ x) : updI f x a y = f y := by simp [updI, h]

/-- Rows, each in a block of its own. -/
structure Sep (w : World) (base : Nat) (val : Ix → Value) (row : Ix → List Int) : Prop where
 own : ∀ x, w.ownsRow base 3 1 (val x) (row x).length ((row x).map I)
 ap : ∀ x y, x ≠ y → (val x).ownBlock = none ∨ (val x).ownBlock ≠ (val y).ownBlock
theorem Sep.kept {w w' : World} {base : Nat} {val : Ix → Value} {row : Ix → List Int} {r : Option Nat} (h : Sep w base val row) (hg : w.grownBy w' r) (hr : ∀ x, (val x).ownBlock = none ∨ (val x).ownBlock ≠ r) : Sep w' base val row := ⟨fun x => (h.own x).kept hg (hr x), h.ap⟩
theorem grown_none {w w' : World} (hb : Below w.heap.size w w') : w.grownBy w' none := ⟨hb.os, hb.tape, hb.output, hb.size, fun k hk _ => hb.block k hk⟩
theorem Sep.below {w w' : World} {base : Nat} {val : Ix → Value} {row : Ix → List Int} (h : Sep w base val row) (hb : Below w.heap.size w w') : Sep w' base val row := h.kept (grown_none hb) (fun x => by cases (val x).ownBlock <;> simp)
theorem own_lt {w : World} {b e s n : Nat} {v : Value} {xs : List Value} (h : w.ownsRow b e s v n xs) {k : Nat} (hk : v.ownBlock = some k) : k < w.heap.size ∧ ∃ c, w.heap[k]? = some (.cells c e (0, 0)) := by
 rcases h.2 with ⟨rfl, _⟩ | ⟨g, cap, cur, rfl, _, hg, _⟩
 ·simp [Value.ownBlock] at hk
 ·injection hk with hk
  have hk' : g = k := hk
  subst hk'
  refine ⟨?_, cur, hg⟩
  rcases Nat.lt_or_ge g w.heap.size with q | q
  ·exact q
  ·rw [Array.getElem?_eq_none q] at hg; cases hg
/-- Another block than the rows' has been written. -/
theorem Sep.other {w w' : World} {base k : Nat} {val : Ix → Value} {row : Ix → List Int} (h : Sep w base val row) (hg : w.grownBy w' (some k)) (hk : ∀ c, w.heap[k]? ≠ some (.cells c 3 (0, 0))) : Sep w' base val row :=
 h.kept hg (fun x => Or.inr (fun e => by
  obtain ⟨_, c, hc⟩ := own_lt (h.own x) e
  exact hk c hc))
theorem Sep.step {w w1 : World} {base : Nat} {val : Ix → Value} {row : Ix → List Int} (h : Sep w base val row) (x : Ix) {v' : Value} {j : Int} (ho : w1.ownsRow base 3 1 v' ((row x).length + 1) ((row x).map I ++ [I j])) (hg : w.grownBy w1 (val x).ownBlock) (hat : v'.ownBlock = (val x).ownBlock ∨ ∃ b, v'.ownBlock = some b ∧ w.heap.size ≤ b) :
  Sep w1 base (updI val x v') (updI row x (row x ++ [j])) := by
 have far : ∀ y, y ≠ x → (val y).ownBlock = none ∨ (val y).ownBlock ≠ v'.ownBlock := fun y hy => by
  rcases hat with e | ⟨b, e, hb⟩
  ·rw [e]; exact h.ap y x hy
  ·rw [e]
   right
   intro q
   have := (own_lt (h.own y) q).1
   omega
 refine ⟨fun y => ?_, fun y z hyz => ?_⟩
 ·by_cases e : y = x
  ·subst e
   rw [updI_self, updI_self]
   simpa using ho
  ·rw [updI_ne _ _ e, updI_ne _ _ e]
   exact (h.own y).kept hg (h.ap y x e)
 ·by_cases ey : y = x
  ·subst ey
   rw [updI_self, updI_ne _ _ (fun e => hyz e.symm)]
   by_cases q : v'.ownBlock = none
   ·exact Or.inl q
   ·right
    intro e
    rcases far z (fun e => hyz e.symm) with h1 | h1
    ·rw [h1] at e; exact q e
    ·exact h1 e.symm
  ·rw [updI_ne _ _ ey]
   by_cases ez : z = x
   ·subst ez
    rw [updI_self]
    exact far y ey
   ·rw [updI_ne _ _ ez]
    exact h.ap y z hyz

/-- The places of the edges of which something holds. -/
def idxs (l : List S53) (p : S53 → Bool) : List Int := ((List.range l.length).filter (fun j => (l[j]?).any p)).map (fun j : Nat => (j : Int))
def P_ : Ix → S53 → Bool
 | .o v, e => e.f0 == (v : Int)
 | .i v, e => e.f1 == (v : Int)
 | .b k, e => e == k
def rw_ (l : List S53) (x : Ix) : List Int := idxs l (P_ x)
theorem idxs_nil (p : S53 → Bool) : idxs [] p = [] := rfl
theorem idxs_snoc (l : List S53) (e : S53) (p : S53 → Bool) : idxs (l ++ [e]) p = if p e then idxs l p ++ [(l.length : Int)] else idxs l p := by
 unfold idxs
 rw [List.length_append, List.length_singleton, List.range_succ, List.filter_append, List.map_append]
 have h1 : (List.range l.length).filter (fun j => ((l ++ [e])[j]?).any p) = (List.range l.length).filter (fun j => (l[j]?).any p) := by
  apply List.filter_congr
  intro j hj
  rw [List.getElem?_append_left (by simpa using hj)]
 rw [h1]
 by_cases hp : p e
 ·simp [hp]
 ·simp [hp]
theorem rw_snoc (l : List S53) (e : S53) (h0 : 0 ≤ e.f0) (h1 : 0 ≤ e.f1) : rw_ (l ++ [e]) = updI (updI (updI (rw_ l) (.o e.f0.toNat) (rw_ l (.o e.f0.toNat) ++ [(l.length : Int)])) (.i e.f1.toNat) (rw_ l (.i e.f1.toNat) ++ [(l.length : Int)])) (.b e) (rw_ l (.b e) ++ [(l.length : Int)]) := by
 funext x
 unfold rw_
 rw [idxs_snoc]
 cases x with
 | o v =>
  by_cases q : e.f0 = (v : Int)
  ·have : v = e.f0.toNat := by omega
   subst this
   simp [updI, P_, h0]
   omega
  ·have : v ≠ e.f0.toNat := by omega
   simp [updI, P_, q, this]
 | i v =>
  by_cases q : e.f1 = (v : Int)
  ·have : v = e.f1.toNat := by omega
   subst this
   simp [updI, P_, h1]
   omega
  ·have : v ≠ e.f1.toNat := by omega
   simp [updI, P_, q, this]
 | b k =>
  by_cases q : e = k
  ·subst q; simp [updI, P_]
  ·have q' : ¬ k = e := fun h => q h.symm
   simp [updI, P_, q, q']

/-- A graph as it is being made. -/
structure Mk (w : World) (base g gO gI b n : Nat) (A : Option Addr) (c m : Nat) (val : Ix → Value) (row : Ix → List Int) (K : List S53) : Prop where
 st : w.heap[g]? = some (.cells #[.slice A m c, .slice (some ⟨gO, 0, none⟩) n n, .slice (some ⟨gI, 0, none⟩) n n, .map (some b)] 60 (0, 0))
 oo : w.ownsRow base 27 1 (.slice (some ⟨gO, 0, none⟩) n n) n ((List.range n).map (fun v => val (.o v)))
 ii : w.ownsRow base 27 1 (.slice (some ⟨gI, 0, none⟩) n n) n ((List.range n).map (fun v => val (.i v)))
 mp : MapIs Try.prog 53 w b (K.map (fun e => (ke e, val (.b e))))
 sep : Sep w base val row
 out : ∀ e, e ∉ K → val (.b e) = .slice none 0 0
 ne : gO ≠ gI

theorem own_block {w : World} {b e s n g cap : Nat} {xs : List Value} (h : w.ownsRow b e s (.slice (some ⟨g, 0, none⟩) n cap) n xs) : g < w.heap.size ∧ ∃ c, w.heap[g]? = some (.cells c e (0, 0)) := own_lt h rfl
theorem cells_ne {w : World} {k g : Nat} {c c' : Array Value} {t t' : TypeId} (h : w.heap[k]? = some (.cells c t (0, 0))) (h' : w.heap[g]? = some (.cells c' t' (0, 0))) (ht : t ≠ t') : k ≠ g := by
 rintro rfl
 rw [h] at h'
 injection h' with h'
 injection h' with _ h' _
 exact ht h'
/-- A row has grown. -/
theorem Mk.grow {w w1 : World} {base g gO gI b n c m : Nat} {A : Option Addr} {val : Ix → Value} {row : Ix → List Int} {K : List S53} (h : Mk w base g gO gI b n A c m val row K) (x : Ix) (hg : w.grownBy w1 (val x).ownBlock) :
  w1.heap[g]? = w.heap[g]? ∧ w1.ownsRow base 27 1 (.slice (some ⟨gO, 0, none⟩) n n) n ((List.range n).map (fun v => val (.o v))) ∧ w1.ownsRow base 27 1 (.slice (some ⟨gI, 0, none⟩) n n) n ((List.range n).map (fun v => val (.i v))) ∧ MapIs Try.prog 53 w1 b (K.map (fun e => (ke e, val (.b e)))) := by
 have far : ∀ (k : Nat) (cs : Array Value) (t : TypeId), w.heap[k]? = some (.cells cs t (0, 0)) → t ≠ 3 → some k ≠ (val x).ownBlock := fun k cs t hk ht e => by
  obtain ⟨_, c', hc'⟩ := own_lt (h.sep.own x) e.symm
  exact cells_ne hk hc' ht rfl
 have hl : g < w.heap.size := by
  rcases Nat.lt_or_ge g w.heap.size with q | q
  ·exact q
  ·have := h.st; rw [Array.getElem?_eq_none q] at this; cases this
 obtain ⟨_, co, hco⟩ := own_block h.oo
 obtain ⟨_, ci, hci⟩ := own_block h.ii
 refine ⟨hg.block g hl (far g _ _ h.st (by decide)), h.oo.kept hg (Or.inr (far gO _ _ hco (by decide))), h.ii.kept hg (Or.inr (far gI _ _ hci (by decide))), h.mp.kept hg (fun e => ?_)⟩
 obtain ⟨_, c', hc'⟩ := own_lt (h.sep.own x) e.symm
 exact h.mp.ne hc' rfl
theorem setCell_grown (w : World) (g j : Nat) (u : Value) : w.grownBy (w.setCell ⟨g, j, none⟩ u) (some g) := ⟨rfl, rfl, rfl, by simp [World.setCell], fun q _ hne => Below.heap_setCell _ _ _ _ (fun e => hne (by rw [e]))⟩
theorem range_set {α : Type} (f : Nat → α) (n v : Nat) (a : α) (f' : Nat → α) (hf : ∀ t, t < n → f' t = if t = v then a else f t) : ((List.range n).map f).set v a = (List.range n).map f' := by
 apply List.ext_getElem?
 intro t
 by_cases ht : t < n
 ·have h2 : ((List.range n).map f')[t]? = some (f' t) := by simp [ht]
  rw [h2, hf t ht]
  by_cases e : t = v
  ·subst e
   rw [List.getElem?_set_self (by simpa using ht), if_pos rfl]
  ·rw [List.getElem?_set_ne (fun q => e q.symm), if_neg e]
   simp [ht]
 ·rw [List.getElem?_eq_none (by simp; omega), List.getElem?_eq_none (by simp; omega)]
theorem Mk.step_o {w w1 : World} {base g gO gI b n c m v : Nat} {A : Option Addr} {val : Ix → Value} {row : Ix → List Int} {K : List S53} {v' : Value} {j : Int} (h : Mk w base g gO gI b n A c m val row K) (_ : v < n)
  (ho : w1.ownsRow base 3 1 v' ((row (.o v)).length + 1) ((row (.o v)).map I ++ [I j])) (hg : w.grownBy w1 (val (.o v)).ownBlock) (hat : v'.ownBlock = (val (.o v)).ownBlock ∨ ∃ b, v'.ownBlock = some b ∧ w.heap.size ≤ b) :
  Mk (w1.setCell ⟨gO, v, none⟩ v') base g gO gI b n A c m (updI val (.o v) v') (updI row (.o v) (row (.o v) ++ [j])) K := by
 obtain ⟨s1, s2, s3, s4⟩ := h.grow (.o v) hg
 have hs := h.sep.step (.o v) ho hg hat
 obtain ⟨_, co, hco⟩ := own_block s2
 have gs := setCell_grown w1 gO v v'
 have hst : w1.heap[g]? = _ := s1.trans h.st
 refine ⟨?_, ?_, ?_, ?_, hs.other gs (fun c hc => ?_), fun e he => ?_, h.ne⟩
 ·rw [Below.heap_setCell _ _ _ _ (cells_ne hst hco (by decide)), hst]
 ·have := (s2.stored v v').1
  rw [range_set (fun v => val (.o v)) n v v' (fun t => updI val (.o v) v' (.o t)) (fun t _ => by simp [updI])] at this
  exact this
 ·have e : ((List.range n).map fun t => updI val (.o v) v' (.i t)) = (List.range n).map fun t => val (.i t) := by simp [updI]
  rw [e]
  exact s3.kept gs (Or.inr (by intro q; injection q with q; exact h.ne q.symm))
 ·have e : (K.map fun e => (ke e, updI val (.o v) v' (.b e))) = K.map fun e => (ke e, val (.b e)) := by simp [updI]
  rw [e]
  exact s4.setCell (s4.ne hco) _
 ·rw [hco] at hc
  injection hc with hc
  injection hc with _ hc _
  exact absurd hc (by decide)
 ·simpa [updI] using h.out e he
theorem Mk.step_i {w w1 : World} {base g gO gI b n c m v : Nat} {A : Option Addr} {val : Ix → Value} {row : Ix → List Int} {K : List S53} {v' : Value} {j : Int} (h : Mk w base g gO gI b n A c m val row K) (_ : v < n)
  (ho : w1.ownsRow base 3 1 v' ((row (.i v)).length + 1) ((row (.i v)).map I ++ [I j])) (hg : w.grownBy w1 (val (.i v)).ownBlock) (hat : v'.ownBlock = (val (.i v)).ownBlock ∨ ∃ b, v'.ownBlock = some b ∧ w.heap.size ≤ b) :
  Mk (w1.setCell ⟨gI, v, none⟩ v') base g gO gI b n A c m (updI val (.i v) v') (updI row (.i v) (row (.i v) ++ [j])) K := by
 obtain ⟨s1, s2, s3, s4⟩ := h.grow (.i v) hg
 have hs := h.sep.step (.i v) ho hg hat
 obtain ⟨_, co, hco⟩ := own_block s3
 have gs := setCell_grown w1 gI v v'
 have hst : w1.heap[g]? = _ := s1.trans h.st
 refine ⟨?_, ?_, ?_, ?_, hs.other gs (fun c hc => ?_), fun e he => ?_, h.ne⟩
 ·rw [Below.heap_setCell _ _ _ _ (cells_ne hst hco (by decide)), hst]
 ·have e : ((List.range n).map fun t => updI val (.i v) v' (.o t)) = (List.range n).map fun t => val (.o t) := by simp [updI]
  rw [e]
  exact s2.kept gs (Or.inr (by intro q; injection q with q; exact h.ne q))
 ·have := (s3.stored v v').1
  rw [range_set (fun v => val (.i v)) n v v' (fun t => updI val (.i v) v' (.i t)) (fun t _ => by simp [updI])] at this
  exact this
 ·have e : (K.map fun e => (ke e, updI val (.i v) v' (.b e))) = K.map fun e => (ke e, val (.b e)) := by simp [updI]
  rw [e]
  exact s4.setCell (s4.ne hco) _
 ·rw [hco] at hc
  injection hc with hc
  injection hc with _ hc _
  exact absurd hc (by decide)
 ·simpa [updI] using h.out e he
/-- The map's block has been written. -/
theorem Mk.mapped {w w1 : World} {base g gO gI b n c m : Nat} {A : Option Addr} {val : Ix → Value} {row : Ix → List Int} {K K' : List S53} (h : Mk w base g gO gI b n A c m val row K) (hg : w.grownBy w1 (some b)) (hm : MapIs Try.prog 53 w1 b (K'.map (fun e => (ke e, val (.b e))))) (hK : ∀ e, e ∉ K' → e ∉ K) : Mk w1 base g gO gI b n A c m val row K' := by
 have hl : g < w.heap.size := by
  rcases Nat.lt_or_ge g w.heap.size with q | q
  ·exact q
  ·have := h.st; rw [Array.getElem?_eq_none q] at this; cases this
 obtain ⟨_, co, hco⟩ := own_block h.oo
 obtain ⟨_, ci, hci⟩ := own_block h.ii
 refine ⟨by rw [hg.block g hl (fun e => h.mp.ne h.st (by injection e with e; exact e.symm)), h.st], h.oo.kept hg (Or.inr (fun e => h.mp.ne hco (by injection e with e; exact e.symm))), h.ii.kept hg (Or.inr (fun e => h.mp.ne hci (by injection e with e; exact e.symm))), hm, h.sep.other hg (fun c hc => h.mp.ne hc rfl), fun e he => h.out e (hK e he), h.ne⟩
theorem Mk.entry {w : World} {base g gO gI b n c m : Nat} {A : Option Addr} {val : Ix → Value} {row : Ix → List Int} {K : List S53} (h : Mk w base g gO gI b n A c m val row K) (e : S53) {l : Lit} (hk : keyOf Try.prog 53 (ke e) = some l) :
  ∃ (w1 : World) (K' : List S53) (j : Nat), (Instr.mapEntry 58 (.map (some b)) (ke e)).run Try.prog w = .ok (.tuple #[val (.b e), .int .i64 j]) w1 ∧ Mk w1 base g gO gI b n A c m val row K' ∧ K'[j]? = some e ∧ w.grownBy w1 (some b) := by
 by_cases he : e ∈ K
 ·obtain ⟨j, hj⟩ := List.getElem?_of_mem he
  obtain ⟨w1, r1, r2, r3⟩ := entry_old keyed Try.underlying58 h.mp (key := ke e) (v := val (.b e)) (j := j) (by rw [List.getElem?_map, hj]; rfl)
  exact ⟨w1, K, j, r1, h.mapped r3 r2 (fun _ q => q), hj, r3⟩
 ·obtain ⟨w1, r1, r2, r3⟩ := entry_new keyed Try.underlying58 h.mp (zero27 w) hk (fun p hp q => by
   obtain ⟨f, hf, rfl⟩ := List.mem_map.1 hp
   exact he (ke_inj q ▸ hf))
  have hv := h.out e he
  refine ⟨w1, K ++ [e], K.length, by rw [r1, hv, List.length_map], h.mapped r3 (by rw [List.map_append, List.map_singleton, hv]; exact r2) (fun f hf q => hf (List.mem_append_left _ q)), by simp, r3⟩
theorem Mk.step_b {w w1 : World} {base g gO gI b n c m j : Nat} {A : Option Addr} {val : Ix → Value} {row : Ix → List Int} {K : List S53} {v' : Value} {e : S53} {x : Int} (h : Mk w base g gO gI b n A c m val row K) (hj : K[j]? = some e)
  (ho : w1.ownsRow base 3 1 v' ((row (.b e)).length + 1) ((row (.b e)).map I ++ [I x])) (hg : w.grownBy w1 (val (.b e)).ownBlock) (hat : v'.ownBlock = (val (.b e)).ownBlock ∨ ∃ b, v'.ownBlock = some b ∧ w.heap.size ≤ b) :
  ∃ w2, (Instr.entryStore 58 (.map (some b)) (.int .i64 j) v').run Try.prog w1 = .ok () w2 ∧ Mk w2 base g gO gI b n A c m (updI val (.b e) v') (updI row (.b e) (row (.b e) ++ [x])) K ∧ w1.grownBy w2 (some b) := by
 obtain ⟨s1, s2, s3, s4⟩ := h.grow (.b e) hg
 have hs := h.sep.step (.b e) ho hg hat
 obtain ⟨w2, r1, r2, r3⟩ := entry_store (t := 58) s4 (key := ke e) (v := val (.b e)) (val := v') (j := j) (by rw [List.getElem?_map, hj]; rfl)
 have hjm : j < K.length := (List.getElem?_eq_some_iff.1 hj).1
 have hset : (K.map fun e => (ke e, val (.b e))).set j (ke e, v') = K.map fun f => (ke f, updI val (.b e) v' (.b f)) := by
  apply List.ext_getElem?
  intro t
  by_cases q : t = j
  ·subst q
   rw [List.getElem?_set_self (by simpa using hjm), List.getElem?_map, hj]
   simp [updI]
  ·rw [List.getElem?_set_ne (fun p => q p.symm), List.getElem?_map, List.getElem?_map]
   cases ht : K[t]? with
   | none => rfl
   | some f =>
    have hne : f ≠ e := by
     rintro rfl
     have ha := h.mp.apart
     have htm : t < K.length := (List.getElem?_eq_some_iff.1 ht).1
     have et := (List.getElem?_eq_some_iff.1 ht).2
     have ej := (List.getElem?_eq_some_iff.1 hj).2
     rcases Nat.lt_or_gt_of_ne q with q | q
     ·have := List.pairwise_iff_getElem.1 ha t j (by simpa using htm) (by simpa using hjm) q
      simp [et, ej] at this
     ·have := List.pairwise_iff_getElem.1 ha j t (by simpa using hjm) (by simpa using htm) q
      simp [et, ej] at this
    simp [updI, hne]
 rw [hset] at r2
 have hst : w1.heap[g]? = _ := s1.trans h.st
 have hl : g < w1.heap.size := by
  rcases Nat.lt_or_ge g w1.heap.size with q | q
  ·exact q
  ·rw [Array.getElem?_eq_none q] at hst; cases hst
 obtain ⟨_, co, hco⟩ := own_block s2
 obtain ⟨_, ci, hci⟩ := own_block s3
 have eo : ((List.range n).map fun t => updI val (.b e) v' (.o t)) = (List.range n).map fun t => val (.o t) := by simp [updI]
 have ei : ((List.range n).map fun t => updI val (.b e) v' (.i t)) = (List.range n).map fun t => val (.i t) := by simp [updI]
 refine ⟨w2, r1, ⟨by rw [r3.block g hl (fun e => s4.ne hst (by injection e with e; exact e.symm)), hst], by rw [eo]; exact s2.kept r3 (Or.inr (fun e => s4.ne hco (by injection e with e; exact e.symm))), by rw [ei]; exact s3.kept r3 (Or.inr (fun e => s4.ne hci (by injection e with e; exact e.symm))), r2, hs.other r3 (fun c hc => s4.ne hc rfl), fun f hf => ?_, h.ne⟩, r3⟩
 have hne : f ≠ e := fun q => hf (q ▸ List.mem_of_getElem? hj)
 simpa [updI, hne] using h.out f hf
theorem Mk.below {w w1 : World} {base g gO gI b n c m : Nat} {A : Option Addr} {val : Ix → Value} {row : Ix → List Int} {K : List S53} (h : Mk w base g gO gI b n A c m val row K) (hb : Below w.heap.size w w1) : Mk w1 base g gO gI b n A c m val row K := by
 have hl : g < w.heap.size := by
  rcases Nat.lt_or_ge g w.heap.size with q | q
  ·exact q
  ·have := h.st; rw [Array.getElem?_eq_none q] at this; cases this
 have hn : ∀ v : Value, v.ownBlock = .none ∨ v.ownBlock ≠ (.none : Option Nat) := fun v => by cases v.ownBlock <;> simp
 exact ⟨by rw [hb.block g hl, h.st], h.oo.kept (grown_none hb) (hn _), h.ii.kept (grown_none hb) (hn _), h.mp.below hb, h.sep.below hb, h.out, h.ne⟩
end Go.Proofs.Ytkpaefeaplgnmaa.G
