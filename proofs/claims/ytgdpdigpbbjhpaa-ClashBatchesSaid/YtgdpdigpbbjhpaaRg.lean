/- The walk of clash.Region: the map holds each name's way. -/
import Derived.Test.YtgdpdigpbbjhpaaPAx1
import Derived.Test.YtgdpdigpbbjhpaaMp
import Derived.Lib.Hide
set_option linter.unusedSimpArgs false
set_option linter.unusedVariables false
namespace Go.Proofs.Ytgdpdigpbbjhpaa.C
open Go.RowKit Go.ChangeMaps Go.Maps Go.Proofs.Ytgdpdigpbbjhpaa.PA Go.Proofs.Ytgdpdigpbbjhpaa.Mp Go.Proofs.YtgdpdigpbbjhpaaW.PrintWords
def wy (a : S39) : Value := .agg #[.bool (a.f0 == 1), .int .u8 a.f2]
def nk (a : S39) : Value := .string a.f1
/-- An act that clashes with one ahead of it. -/
def Hit (pre : List S39) (a : S39) : Prop := ∃ b ∈ pre, b.f1 = a.f1 ∧ (b.f0 = 1 ∨ a.f0 = 1 ∨ b.f2 ≠ a.f2)
instance (pre : List S39) (a : S39) : Decidable (Hit pre a) := inferInstanceAs (Decidable (∃ b ∈ pre, b.f1 = a.f1 ∧ (b.f0 = 1 ∨ a.f0 = 1 ∨ b.f2 ≠ a.f2)))
def rgn : List S39 → List S39 → Int × Int
  | _, [] => (0, 0)
  | pre, a :: l => if Hit pre a then (pre.length, 10) else rgn (pre ++ [a]) l
def clash_Region.f (l : List S39) : Option (Int × Int) := if ∀ a ∈ l, a.f1.size ≤ maxLen then some (rgn [] l) else none
theorem keyed9 : Keyed Try.prog 9 := string_keyed Try.underlying9
theorem key9 {s : ByteArray} (h : s.size ≤ maxLen) : keyOf Try.prog 9 (.string s) = some (.string s.data.toList) := by
  unfold keyOf mapKey
  simp only [Try.underlying9]
  rw [if_pos h]
theorem zero45 (w : World) : (zeroValue 45).run Try.prog w = .ok (.agg #[.bool false, .int .u8 0]) w := by kernel_rfl
theorem mkmap (t : TypeId) (W : World) : (Instr.makeMap t none).run Try.prog W = .ok (.map (some W.heap.size)) (W.alloc (.map #[] 0)) := by
  simp [Instr.makeMap, newObj, Result.andThen, Sem.run]
theorem nk_inj {a b : S39} (h : nk a = nk b) : a.f1 = b.f1 := by unfold nk at h; injection h
theorem wy_inj {a b : S39} (h : wy a = wy b) : (a.f0 == 1) = (b.f0 == 1) ∧ a.f2 = b.f2 := by
  unfold wy at h
  simpa using h
theorem apart_eq : ∀ {m : List (Value × Value)}, m.Pairwise (fun p q => p.1 ≠ q.1) → ∀ {p q : Value × Value}, p ∈ m → q ∈ m → p.1 = q.1 → p = q
  | [], _, p, _, hp, _, _ => by cases hp
  | x :: m, h, p, q, hp, hq, e => by
    rw [List.pairwise_cons] at h
    rcases List.mem_cons.1 hp with rfl | hp1
    · rcases List.mem_cons.1 hq with rfl | hq1
      · rfl
      · exact absurd e (h.1 q hq1)
    · rcases List.mem_cons.1 hq with rfl | hq1
      · exact absurd e.symm (h.1 p hp1)
      · exact apart_eq h.2 hp1 hq1 e
/-- The map is what the acts so far say. -/
structure Inv (pre : List S39) (m : List (Value × Value)) : Prop where
  fwd : ∀ b ∈ pre, (nk b, wy b) ∈ m
  bwd : ∀ p ∈ m, ∃ b ∈ pre, p = (nk b, wy b)
theorem Inv.none {pre : List S39} {m : List (Value × Value)} (h : Inv pre m) {a : S39} (hn : ∀ p ∈ m, p.1 ≠ nk a) : ¬ Hit pre a := by
  rintro ⟨b, hb, e, _⟩
  exact hn _ (h.fwd b hb) (by unfold nk; rw [e])
theorem Inv.add {pre : List S39} {m : List (Value × Value)} (h : Inv pre m) (a : S39) : Inv (pre ++ [a]) (m ++ [(nk a, wy a)]) := by
  constructor
  · intro b hb
    rcases List.mem_append.1 hb with hb | hb
    · exact List.mem_append_left _ (h.fwd b hb)
    · rw [List.mem_singleton.1 hb]; exact List.mem_append_right _ List.mem_cons_self
  · intro p hp
    rcases List.mem_append.1 hp with hp | hp
    · obtain ⟨b, hb, e⟩ := h.bwd p hp
      exact ⟨b, List.mem_append_left _ hb, e⟩
    · exact ⟨a, List.mem_append_right _ List.mem_cons_self, List.mem_singleton.1 hp⟩
/-- The name is there: it clashes just if the way is another one, or puts. -/
theorem Inv.hit {pre : List S39} {m : List (Value × Value)} (h : Inv pre m) (ha : m.Pairwise (fun p q => p.1 ≠ q.1)) {a b : S39} (hb : b ∈ pre) (hn : b.f1 = a.f1) : Hit pre a ↔ (¬ ((b.f0 == 1) = (a.f0 == 1) ∧ b.f2 = a.f2) ∨ a.f0 = 1) := by
  constructor
  · rintro ⟨c, hc, e, q⟩
    have := apart_eq ha (h.fwd c hc) (h.fwd b hb) (by unfold nk; rw [e, hn])
    obtain ⟨w1, w2⟩ := wy_inj (Prod.ext_iff.1 this).2
    rw [← w1, ← w2]
    by_cases q1 : a.f0 = 1
    · exact .inr q1
    · refine .inl fun ⟨e1, e2⟩ => ?_
      rcases q with q | q | q
      · rw [q] at e1
        exact q1 (by simpa using e1.symm)
      · exact q1 q
      · exact q e2
  · rintro (q | q)
    · refine ⟨b, hb, hn, ?_⟩
      by_cases q1 : b.f0 = 1
      · exact .inl q1
      · by_cases q2 : a.f0 = 1
        · exact .inr (.inl q2)
        · refine .inr (.inr fun e => q ⟨?_, e⟩)
          rw [show (b.f0 == 1) = false by simpa using q1, show (a.f0 == 1) = false by simpa using q2]
    · exact ⟨b, hb, hn, .inr (.inl q)⟩
theorem Inv.same {pre : List S39} {m : List (Value × Value)} (h : Inv pre m) {a b : S39} (hb : b ∈ pre) (hn : b.f1 = a.f1) (hw : (b.f0 == 1) = (a.f0 == 1) ∧ b.f2 = a.f2) : Inv (pre ++ [a]) m := by
  constructor
  · intro c hc
    rcases List.mem_append.1 hc with hc | hc
    · exact h.fwd c hc
    · rw [List.mem_singleton.1 hc]
      have := h.fwd b hb
      unfold nk wy at this ⊢
      rwa [hn, hw.1, hw.2] at this
  · intro p hp
    obtain ⟨c, hc, e⟩ := h.bwd p hp
    exact ⟨c, List.mem_append_left _ hc, e⟩
theorem act_at {w : World} {A : Option Addr} {l : List S39} (h : Kd.C k39 w A l.length l) {i : Nat} (hi : i < l.length) : ∃ ad, A = some ad ∧ w.cell? (ad.add (i * 6)) = some (.int .u8 l[i].f0) ∧ w.cell? ⟨(ad.add (i * 6)).block, (ad.add (i * 6)).off + 1, none⟩ = some (.string l[i].f1) ∧ w.cell? ⟨(ad.add (i * 6)).block, (ad.add (i * 6)).off + 2, none⟩ = some (.int .u8 l[i].f2) ∧ w.cell? ⟨(ad.add (i * 6)).block, (ad.add (i * 6)).off + 3, none⟩ = some (.bool l[i].f3) ∧ w.cell? ⟨(ad.add (i * 6)).block, (ad.add (i * 6)).off + 4, none⟩ = some (.int .i64 l[i].f4) ∧ w.cell? ⟨(ad.add (i * 6)).block, (ad.add (i * 6)).off + 5, none⟩ = some (.int .i64 l[i].f5) := by
  have := at_T39 h (i : Int) (by omega) (by omega)
  have e : rd_T39 l (i : Int) = l[i] := by unfold rd_T39; simp [List.getD_eq_getElem?_getD, hi]
  rw [e] at this
  simpa using this
end Go.Proofs.Ytgdpdigpbbjhpaa.C
