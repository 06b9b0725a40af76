/- A region that draws its order, in a round of a range over a function: walked as anywhere. -/
import Derived.Test.YtldjbgonlbmeaaaDoorWz
import Derived.Test.YtldjbgonlbmeaaaDoorWWords
import Derived.OrdersIn
import Derived.RangeFuncCalls
set_option linter.unusedSimpArgs false
set_option linter.unusedVariables false
namespace Go.Proofs.YtldjbgonlbmeaaaDoor.InRound
open Go.RowKit Go.Proofs.YtldjbgonlbmeaaaDoorW.PrintWords Go.Proofs.YtldjbgonlbmeaaaDoorW.PrintLast
variable {P : Program} {ops : Array Oper} {Q : Exit → Act → World → Prop} {md : Region.Mode} {S : World → Prop} {ds : List Nat} {L n : Nat}

theorem wpIn_of_wp {o : Oper} {a : Act} {w : World} {K : Act → World → Prop} (hd : ∀ c, o.op ≠ .defer c) (h : o.wp P a w K Q) : o.wpIn (Fence.wide.inRound L) n P a w K Q := by
 refine ⟨fun _ _ => trivial, ?_⟩
 rw [Oper.semAt_eq _ _ _ hd]
 unfold Oper.wp at h
 revert h
 generalize (execOp a.eval o).run P w = r
 intro h
 cases r with
 | ok v w' =>
  cases v with
  | value v => exact h
  | skip => exact h
  | defer d => exact h
  | enter f args => exact ⟨fun h => (by cases h), CallsIn.inRound L (callsIn_wide.2 h)⟩
  | row r args =>
   exact ⟨fun h => (by cases h), fun c cs _ => by
    obtain ⟨v, w', r, s⟩ := h c cs
    exact ⟨v, w', r, stepsIn_wide.2 s⟩⟩
  | _ => exact h.elim
 | halt k w' => cases k <;> exact h

def plain (ops : Array Oper) : Bool := ops.all fun o => match o.op with | .defer _ => false | _ => true
theorem plain_at (h : plain ops = true) {i : Nat} {o : Oper} (ho : ops[i]? = some o) : ∀ c, o.op ≠ .defer c := by
 intro c hc
 obtain ⟨hi, rfl⟩ := Array.getElem?_eq_some_iff.1 ho
 have := (Array.all_eq_true.1 h) i hi
 rw [hc] at this
 cases this
theorem wpOpIn_of_wpOp (hp : plain ops = true) (hQ : ∀ a w, ¬ Q .outgrown a w) {i : Nat} {K K' : Act → World → Prop} (hK : ∀ a w, K a w → K' a w) {a : Act} {w : World} (h : wpOp P ops Q i K a w) : wpOpIn (Fence.wide.inRound L) n P ops Q i K' a w := by
 unfold wpOp at h
 unfold wpOpIn
 split at h
 ·rename_i hn; rw [hn]; exact hK _ _ h
 ·rename_i o ho
  rw [ho]
  simp only
  split at h
  ·rename_i hw
   rw [if_pos hw]
   rcases h with h | ⟨_, a', w', h⟩
   ·exact wpIn_of_wp (plain_at hp ho) (Oper.wp_mono hK h)
   ·exact absurd h (hQ _ _)
  ·rename_i hw
   rw [if_neg hw]
   exact ⟨fun _ _ => trivial, hK _ _ h⟩
theorem wpAnyIn_of_wpAny (hp : plain ops = true) (hQ : ∀ a w, ¬ Q .outgrown a w) : ∀ (fuel : Nat) (listed : Array Bool) (a : Act) (w : World), wpAny P md ops Q fuel listed a w → wpAnyIn (Fence.wide.inRound L) n P md ops Q fuel listed a w
 | 0, _, _, _, h => h
 | fuel + 1, listed, a, w, h => ⟨h.1, fun i hi => wpOpIn_of_wpOp hp hQ (fun a' w' h' => wpAnyIn_of_wpAny hp hQ fuel _ a' w' h') (h.2 i hi)⟩
theorem startR_ {id m : Nat} {a : Act} {w : World} (hp : plain ops = true) (hQ : ∀ a w, ¬ Q .outgrown a w) (l : Array Bool) (hm : P.follows .mixedOrders = true) (hn : ops.size = m) (hl : Array.replicate m false = l) (hS : S w.drew)
  (h : S w.drew → wpAnyLast P .any ops Q S ds m l a w.drew) : (Code.region id ops true).wpIn (Fence.wide.inRound L) n P Q a w := by
 subst hn
 subst hl
 exact wpIn_region_any hm (wpAnyIn_of_wpAny hp hQ _ _ _ _ (wpAny_of_last _ _ _ _ (h hS)))
theorem wpIn_of_wpW {o : Oper} {a : Act} {w : World} {K : Act → World → Prop} (hd : ∀ c, o.op ≠ .defer c) (h : o.wp P a w K Q) : o.wpIn Fence.wide n P a w K Q := by
 refine ⟨fun _ _ => trivial, ?_⟩
 rw [Oper.semAt_eq _ _ _ hd]
 unfold Oper.wp at h
 revert h
 generalize (execOp a.eval o).run P w = r
 intro h
 cases r with
 | ok v w' =>
  cases v with
  | value v => exact h
  | skip => exact h
  | defer d => exact h
  | enter f args => exact ⟨fun h => (by cases h), callsIn_wide.2 h⟩
  | row r args =>
   exact ⟨fun h => (by cases h), fun c cs _ => by
    obtain ⟨v, w', r, s⟩ := h c cs
    exact ⟨v, w', r, stepsIn_wide.2 s⟩⟩
  | _ => exact h.elim
 | halt k w' => cases k <;> exact h
theorem wpOpIn_of_wpOpW (hp : plain ops = true) (hQ : ∀ a w, ¬ Q .outgrown a w) {i : Nat} {K K' : Act → World → Prop} (hK : ∀ a w, K a w → K' a w) {a : Act} {w : World} (h : wpOp P ops Q i K a w) : wpOpIn Fence.wide n P ops Q i K' a w := by
 unfold wpOp at h
 unfold wpOpIn
 split at h
 ·rename_i hn; rw [hn]; exact hK _ _ h
 ·rename_i o ho
  rw [ho]
  simp only
  split at h
  ·rename_i hw
   rw [if_pos hw]
   rcases h with h | ⟨_, a', w', h⟩
   ·exact wpIn_of_wpW (plain_at hp ho) (Oper.wp_mono hK h)
   ·exact absurd h (hQ _ _)
  ·rename_i hw
   rw [if_neg hw]
   exact ⟨fun _ _ => trivial, hK _ _ h⟩
theorem wpAnyIn_of_wpAnyW (hp : plain ops = true) (hQ : ∀ a w, ¬ Q .outgrown a w) : ∀ (fuel : Nat) (listed : Array Bool) (a : Act) (w : World), wpAny P md ops Q fuel listed a w → wpAnyIn Fence.wide n P md ops Q fuel listed a w
 | 0, _, _, _, h => h
 | fuel + 1, listed, a, w, h => ⟨h.1, fun i hi => wpOpIn_of_wpOpW hp hQ (fun a' w' h' => wpAnyIn_of_wpAnyW hp hQ fuel _ a' w' h') (h.2 i hi)⟩
theorem startW_ {id m : Nat} {a : Act} {w : World} (hp : plain ops = true) (hQ : ∀ a w, ¬ Q .outgrown a w) (l : Array Bool) (hm : P.follows .mixedOrders = true) (hn : ops.size = m) (hl : Array.replicate m false = l) (hS : S w.drew)
  (h : S w.drew → wpAnyLast P .any ops Q S ds m l a w.drew) : (Code.region id ops true).wpIn Fence.wide n P Q a w := by
 subst hn
 subst hl
 exact wpIn_region_any hm (wpAnyIn_of_wpAnyW hp hQ _ _ _ _ (wpAny_of_last _ _ _ _ (h hS)))
end Go.Proofs.YtldjbgonlbmeaaaDoor.InRound
