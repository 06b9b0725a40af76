/- What plain data that come in say: of each type a Lean value, read out of the cells, and what is known of it. -/
import Derived.Test.YthmenclkgngkkaaWWords
import Derived.Test.YthmenclkgngkkaaWSized
import Derived.Deep.Slices
import Derived.OpenShut
import Derived.ShutString
import Derived.ChangeOld
import Derived.ChangeArms
import Derived.WideShapes
import Derived.WalkArith
namespace Go.Proofs.Ythmenclkgngkkaa.Open
open Go.RowKit Go.WideShapes Go.Proofs.YthmenclkgngkkaaW.PrintWords

def Opn {α : Type} (P : Program) (d : Kd α) (g : α → Prop) (t : TypeId) : Prop :=
  P.cellsOf t = d.sz ∧ ∀ (H : Type) (enc : TypeId × Value → H) (w : World) (spare : Nat → Bool) (held : Bool) (fuel : Nat) (cs : List Value) (x : DataW H × List MemPlace),
    DataW.trod enc P w 0 spare held fuel t cs = some x → ∃ a, d.K w a cs ∧ g a

theorem opn_int {P : Program} {t : TypeId} {k : IntKind} (ht : P.underlying t = some (.int k)) (hc : P.cellsOf t = 1) : Opn P (Kd.int k) (fun n => (Lit.int k n).wf = true) t :=
  ⟨hc, fun _ _ _ _ _ _ _ _ h => by
    obtain ⟨n, rfl, _, hw⟩ := DataW.trod_int ht h
    exact ⟨n, rfl, hw⟩⟩
theorem cells_get {w : World} {a : Addr} {n : Nat} {cs : List Value} (h : w.cells? 0 a n = some cs) : cs.length = n ∧ ∀ j u, cs[j]? = some u → w.cell? (a.add j) = some u := by
  unfold World.cells? at h
  obtain ⟨_, h⟩ : 0 ≤ a.block ∧ (List.range n).mapM (fun i => w.cell? (a.add i)) = some cs := by
    simpa using h
  have hl := mapM_some_length h
  refine ⟨by simpa using hl, fun j u hu => ?_⟩
  obtain ⟨hj, _⟩ := List.getElem?_eq_some_iff.1 hu
  have hj' : j < n := by simpa [hl] using hj
  have := mapM_some_get h j j (by simp [hj'])
  rw [this, hu]

theorem list_of {α : Type} {R : Nat → α → Prop} {n : Nat} (h : ∀ i, i < n → ∃ a, R i a) : ∃ l : List α, l.length = n ∧ ∀ i a, l[i]? = some a → R i a := by
  induction n with
  | zero => exact ⟨[], rfl, fun i a h => by simp at h⟩
  | succ n ih =>
    obtain ⟨l, hl, hr⟩ := ih (fun i hi => h i (by omega))
    obtain ⟨a, ha⟩ := h n (by omega)
    refine ⟨l ++ [a], by simp [hl], fun i b hb => ?_⟩
    rcases Nat.lt_or_ge i n with hi | hi
    · rw [List.getElem?_append_left (by omega)] at hb; exact hr i b hb
    · rw [List.getElem?_append_right (by omega)] at hb
      have : i - l.length = 0 := by
        obtain ⟨q, _⟩ := List.getElem?_eq_some_iff.1 hb
        simp at q; omega
      rw [this] at hb
      cases hb
      obtain rfl : i = n := by omega
      exact ha

theorem opn_slice {α : Type} {P : Program} {d : Kd α} {g : α → Prop} {t e : TypeId} (ht : P.underlying t = some (.slice e)) (hc : P.cellsOf t = 1) (he : Opn P d g e) : Opn P (Kd.slice e d) (fun l => l.length ≤ maxLen ∧ ∀ x ∈ l, g x) t :=
  ⟨hc, fun H enc w spare held fuel cs x h => by
    rcases Go.Deep.open_slice ht h with ⟨rfl, _⟩ | ⟨a, len, cap, m, n, D, Pl, rfl, _, hlc, hcm, hm, _, hi⟩
    · exact ⟨[], ⟨none, 0, rfl, Nat.le_refl _, rfl, by simp, fun h => absurd h (by simp)⟩, by simp [maxLen], fun x hx => by simp at hx⟩
    · have hle : len ≤ m := by rw [hm]; split <;> omega
      obtain ⟨l, hl, hr⟩ := list_of (R := fun i a_ => ∃ c, c.length = d.sz ∧ d.K w a_ c ∧ g a_ ∧ ∀ j u, c[j]? = some u → w.cell? (a.add (i * d.sz + j)) = some u) (n := len) (fun i hin => by
        obtain ⟨cs', h1, h2⟩ := hi i (by omega)
        obtain ⟨y, hy, hg⟩ := he.2 H enc w spare held n cs' _ h2
        obtain ⟨q1, q2⟩ := cells_get h1
        exact ⟨y, cs', by rw [q1, he.1], hy, hg, fun j u hu => by rw [← he.1, ← Go.Deep.add_add]; exact q2 j u hu⟩)
      refine ⟨l, ⟨some a, cap, by rw [hl], by omega, rfl, by unfold maxLen at hcm; omega, fun _ => ⟨a, rfl, fun j p hp => ?_⟩⟩, by omega, fun x hx => ?_⟩
      · obtain ⟨c, h1, h2, _, h4⟩ := hr j p hp
        exact ⟨c, h1, h2, h4⟩
      · obtain ⟨i, hi2⟩ := List.getElem?_of_mem hx
        obtain ⟨_, _, _, hg, _⟩ := hr i x hi2
        exact hg⟩

def OpnF {α : Type} (P : Program) (d : Kd α) (g : α → Prop) (ts : List TypeId) : Prop :=
  (ts.map P.cellsOf).sum = d.sz ∧ ∀ (H : Type) (enc : TypeId × Value → H) (w : World) (spare : Nat → Bool) (held : Bool) (fuel : Nat) (cs : List Value),
    cs.length = d.sz → (∀ j t, ts[j]? = some t → ∃ x, DataW.trod enc P w 0 spare held fuel t ((cs.drop ((ts.take j).map P.cellsOf).sum).take (P.cellsOf t)) = some x) → ∃ a, d.K w a cs ∧ g a

theorem opnF_one {α : Type} {P : Program} {d : Kd α} {g : α → Prop} {t : TypeId} (h : Opn P d g t) : OpnF P d g [t] :=
  ⟨by simp [h.1], fun H enc w spare held fuel cs hl hx => by
    obtain ⟨x, hx⟩ := hx 0 t rfl
    simp only [List.take_zero, List.map_nil, List.sum_nil, List.drop_zero] at hx
    rw [List.take_of_length_le (by rw [hl, h.1]; exact Nat.le_refl _)] at hx
    exact h.2 H enc w spare held fuel cs x hx⟩

theorem opnF_cons {α β : Type} {P : Program} {d : Kd α} {g : α → Prop} {t : TypeId} {d' : Kd β} {g' : β → Prop} {ts : List TypeId} (h : Opn P d g t) (h' : OpnF P d' g' ts) : OpnF P (Kd.pair d d') (fun x => g x.1 ∧ g' x.2) (t :: ts) :=
  ⟨by simp [h.1, h'.1, Kd.pair], fun H enc w spare held fuel cs hl hx => by
    obtain ⟨x0, hx0⟩ := hx 0 t rfl
    simp only [List.take_zero, List.map_nil, List.sum_nil, List.drop_zero] at hx0
    obtain ⟨a, ha, hga⟩ := h.2 H enc w spare held fuel _ x0 hx0
    have hl' : cs.length = d.sz + d'.sz := hl
    obtain ⟨b, hb, hgb⟩ := h'.2 H enc w spare held fuel (cs.drop (P.cellsOf t)) (by rw [List.length_drop, hl', h.1]; omega) (fun j t' ht => by
      obtain ⟨x, hx⟩ := hx (j + 1) t' (by simpa using ht)
      refine ⟨x, ?_⟩
      rw [List.drop_drop]
      simpa [List.take_succ_cons] using hx)
    exact ⟨(a, b), ⟨_, _, (List.take_append_drop (P.cellsOf t) cs).symm, ha, hb⟩, hga, hgb⟩⟩

def inLine (P : Program) : List Field → Nat → Bool
  | [], _ => true
  | f :: fs, n => f.offset == n && inLine P fs (n + P.cellsOf f.type)
theorem inLine_get {P : Program} : ∀ (fs : List Field) (n : Nat), inLine P fs n = true → ∀ j f, fs[j]? = some f → f.offset = n + (((fs.map (·.type)).take j).map P.cellsOf).sum
  | [], _, _, j, f, h => by simp at h
  | f0 :: fs, n, h, 0, f, hf => by
    cases hf
    simp [inLine] at h
    simp [h.1]
  | f0 :: fs, n, h, j + 1, f, hf => by
    simp [inLine] at h
    have := inLine_get fs _ h.2 j f (by simpa using hf)
    rw [this]
    simp [Nat.add_assoc]

theorem opn_struct {α : Type} {P : Program} {d : Kd α} {g : α → Prop} {t : TypeId} {fs : Array Field} (ht : P.underlying t = some (.struct fs)) (hc : P.cellsOf t = d.sz) (hl : inLine P fs.toList 0 = true) (h : OpnF P d g (fs.toList.map (·.type))) : Opn P d g t :=
  ⟨hc, fun H enc w spare held fuel cs x hx => by
    obtain ⟨xs, n, _, _, hcl, hxl, hxf⟩ := DataW.trod_struct ht hx
    refine h.2 H enc w spare held n cs (by rw [hcl, hc]) fun j t' hj => ?_
    rw [List.getElem?_map] at hj
    obtain ⟨f, hf, rfl⟩ := Option.map_eq_some_iff.1 hj
    have ho := inLine_get fs.toList 0 hl j f hf
    have hf' : fs[j]? = some f := by simpa using hf
    have h1 := hxf j f hf'
    have hlt : j < xs.length := by
      rw [hxl]
      obtain ⟨q, _⟩ := Array.getElem?_eq_some_iff.1 hf'
      exact q
    rw [List.getElem?_eq_getElem hlt, ho, Nat.zero_add] at h1
    exact ⟨_, h1⟩⟩

theorem open_slc {α : Type} {P : Program} {d : Kd α} {g : List α → Prop} {t e : TypeId} (h : Opn P (Kd.slice e d) g t) {H : Type} {enc : TypeId × Value → H} {W : World} {spare : Nat → Bool} {held : Bool} {A : Option Addr} {n c : Nat} {x : DataW H} {ps : List MemPlace}
    (hd : DataW.Trod enc P W 0 spare held t (.slice A n c) x ps) : ∃ l : List α, n = l.length ∧ l.length ≤ c ∧ Kd.C d W A l.length l ∧ g l := by
  obtain ⟨fuel, hf⟩ := hd
  obtain ⟨a, ⟨A', c', e1, hc, hr⟩, hg⟩ := h.2 H enc W spare held fuel _ _ hf
  simp [Value.cells] at e1
  obtain ⟨rfl, rfl, rfl⟩ := e1
  exact ⟨a, rfl, hc, hr, hg⟩

theorem sized_any {H : Type} {enc : TypeId × Value → H} {P : Program} {W : World} {base : Nat} {held : Bool} {t e : TypeId} {a : Option Addr} {len cap : Nat} {d : DataW H} {ps : List MemPlace} {ts : List TypeId} {ds : List (DataW H)} {j : Nat}
    (hsz : (DataW.weightsEach P ts ds).all (· ≤ reachBytes) = true) (ht : ts[j]? = some t) (hd : ds[j]? = some d) (hu : P.underlying t = some (.slice e)) {B : Nat} (hB : P.bytesOf e = B)
    (h : DataW.Trod enc P W base (fun _ => true) held t (.slice a len cap) d ps) : len * B ≤ 140737488351232 := by
  obtain ⟨fuel, hf⟩ := h
  rcases DataW.trod_slice hu hf with ⟨hcs, _⟩ | ⟨x, l, c, elems, rest, n, _, hcs, hx, _, _, _, hlen, _, _, _⟩
  · simp [Value.cells] at hcs
    obtain ⟨rfl, rfl, rfl⟩ := hcs
    simp
  · simp [Value.cells] at hcs
    obtain ⟨rfl, rfl, rfl⟩ := hcs
    obtain ⟨hx, _⟩ := Prod.mk.inj hx
    subst hx
    have z := sized_slice hsz ht hd hu
    rw [hB] at z
    simp only [List.length_map, hlen] at z
    refine Nat.le_trans (Nat.mul_le_mul_right _ (Nat.le_add_right _ _)) z

end Go.Proofs.Ythmenclkgngkkaa.Open
