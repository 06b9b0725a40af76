/- Open, Opf -/
import Derived.Test.YtldjbgonlbmeaaaDoorWWords
import Derived.Test.YtldjbgonlbmeaaaDoorWz
import Derived.Deep.Slices
import Derived.OpenShut
import Derived.ShutString
import Derived.ChangeOld
import Derived.ChangeArms
import Derived.WideShapes
import Derived.WalkArith
import Derived.Test.YtldjbgonlbmeaaaDoorRows
import Derived.Test.YtldjbgonlbmeaaaDoorPAx0
set_option linter.unusedSimpArgs false
set_option linter.unusedVariables false
section
/- What plain data that come in say: of each type a Lean value, read out of the cells, and what is known of it. -/
namespace Go.Proofs.YtldjbgonlbmeaaaDoor.Open
open Go.RowKit Go.WideShapes Go.Proofs.YtldjbgonlbmeaaaDoorW.PrintWords

def Opn {α : Type} (P : Program) (d : Kd α) (g : α → Prop) (t : TypeId) : Prop :=
  P.cellsOf t = d.sz ∧ ∀ (H : Type) (enc : TypeId × Value → H) (w : World) (spare : Nat → Bool) (held : Bool) (fuel : Nat) (cs : List Value) (x : DataW H × List MemPlace),
    DataW.trod enc P w 0 spare held fuel t cs = some x → ∃ a, d.K w a cs ∧ g a

theorem opn_int {P : Program} {t : TypeId} {k : IntKind} (ht : P.underlying t = some (.int k)) (hc : P.cellsOf t = 1) : Opn P (Kd.int k) (fun n => (Lit.int k n).wf = true) t :=
  ⟨hc, fun _ _ _ _ _ _ _ _ h => by
    obtain ⟨n, rfl, _, hw⟩ := DataW.trod_int ht h
    exact ⟨n, rfl, hw⟩⟩
theorem opn_string {P : Program} {t : TypeId} (ht : P.underlying t = some .string) (hc : P.cellsOf t = 1) : Opn P Kd.string (fun s => s.size ≤ maxLen) t :=
  ⟨hc, fun _ _ _ _ _ _ _ _ h => by
    obtain ⟨s, rfl, _, hs⟩ := DataW.trod_string ht h
    exact ⟨s, rfl, hs⟩⟩

theorem cells_get {w : World} {a : Addr} {n : Nat} {cs : List Value} (h : w.cells? 0 a n = some cs) : cs.length = n ∧ ∀ j u, cs[j]? = some u → w.cell? (a.add j) = some u := by
  unfold World.cells? at h
  obtain ⟨_, h⟩ : 0 ≤ a.block ∧ (List.range n).mapM (fun i => w.cell? (a.add i)) = some cs := by
    simpa using h
  have hl := mapM_some_length h
  refine ⟨by simpa using hl, fun j u hu => ?_⟩
  obtain ⟨hj, _⟩ := List.getElem?_eq_some_iff.1 hu
  have hj' : j < n := by simpa [hl] using hj
  have := mapM_some_get h j j (by simp [hj'])
  rw [this, hu]

theorem list_of {α : Type} {R : Nat → α → Prop} {n : Nat} (h : ∀ i, i < n → ∃ a, R i a) : ∃ l : List α, l.length = n ∧ ∀ i a, l[i]? = some a → R i a := by
  induction n with
  | zero => exact ⟨[], rfl, fun i a h => by simp at h⟩
  | succ n ih =>
    obtain ⟨l, hl, hr⟩ := ih (fun i hi => h i (by omega))
    obtain ⟨a, ha⟩ := h n (by omega)
    refine ⟨l ++ [a], by simp [hl], fun i b hb => ?_⟩
    rcases Nat.lt_or_ge i n with hi | hi
    · rw [List.getElem?_append_left (by omega)] at hb; exact hr i b hb
    · rw [List.getElem?_append_right (by omega)] at hb
      have : i - l.length = 0 := by
        obtain ⟨q, _⟩ := List.getElem?_eq_some_iff.1 hb
        simp at q; omega
      rw [this] at hb
      cases hb
      obtain rfl : i = n := by omega
      exact ha

theorem opn_slice {α : Type} {P : Program} {d : Kd α} {g : α → Prop} {t e : TypeId} (ht : P.underlying t = some (.slice e)) (hc : P.cellsOf t = 1) (he : Opn P d g e) : Opn P (Kd.slice e d) (fun l => l.length ≤ maxLen ∧ ∀ x ∈ l, g x) t :=
  ⟨hc, fun H enc w spare held fuel cs x h => by
    rcases Go.Deep.open_slice ht h with ⟨rfl, _⟩ | ⟨a, len, cap, m, n, D, Pl, rfl, _, hlc, hcm, hm, _, hi⟩
    · exact ⟨[], ⟨none, 0, rfl, Nat.le_refl _, rfl, by simp, fun h => absurd h (by simp)⟩, by simp [maxLen], fun x hx => by simp at hx⟩
    · have hle : len ≤ m := by rw [hm]; split <;> omega
      obtain ⟨l, hl, hr⟩ := list_of (R := fun i a_ => ∃ c, c.length = d.sz ∧ d.K w a_ c ∧ g a_ ∧ ∀ j u, c[j]? = some u → w.cell? (a.add (i * d.sz + j)) = some u) (n := len) (fun i hin => by
        obtain ⟨cs', h1, h2⟩ := hi i (by omega)
        obtain ⟨y, hy, hg⟩ := he.2 H enc w spare held n cs' _ h2
        obtain ⟨q1, q2⟩ := cells_get h1
        exact ⟨y, cs', by rw [q1, he.1], hy, hg, fun j u hu => by rw [← he.1, ← Go.Deep.add_add]; exact q2 j u hu⟩)
      refine ⟨l, ⟨some a, cap, by rw [hl], by omega, rfl, by unfold maxLen at hcm; omega, fun _ => ⟨a, rfl, fun j p hp => ?_⟩⟩, by omega, fun x hx => ?_⟩
      · obtain ⟨c, h1, h2, _, h4⟩ := hr j p hp
        exact ⟨c, h1, h2, h4⟩
      · obtain ⟨i, hi2⟩ := List.getElem?_of_mem hx
        obtain ⟨_, _, _, hg, _⟩ := hr i x hi2
        exact hg⟩

def OpnF {α : Type} (P : Program) (d : Kd α) (g : α → Prop) (ts : List TypeId) : Prop :=
  (ts.map P.cellsOf).sum = d.sz ∧ ∀ (H : Type) (enc : TypeId × Value → H) (w : World) (spare : Nat → Bool) (held : Bool) (fuel : Nat) (cs : List Value),
    cs.length = d.sz → (∀ j t, ts[j]? = some t → ∃ x, DataW.trod enc P w 0 spare held fuel t ((cs.drop ((ts.take j).map P.cellsOf).sum).take (P.cellsOf t)) = some x) → ∃ a, d.K w a cs ∧ g a

theorem opnF_one {α : Type} {P : Program} {d : Kd α} {g : α → Prop} {t : TypeId} (h : Opn P d g t) : OpnF P d g [t] :=
  ⟨by simp [h.1], fun H enc w spare held fuel cs hl hx => by
    obtain ⟨x, hx⟩ := hx 0 t rfl
    simp only [List.take_zero, List.map_nil, List.sum_nil, List.drop_zero] at hx
    rw [List.take_of_length_le (by rw [hl, h.1]; exact Nat.le_refl _)] at hx
    exact h.2 H enc w spare held fuel cs x hx⟩

theorem opnF_cons {α β : Type} {P : Program} {d : Kd α} {g : α → Prop} {t : TypeId} {d' : Kd β} {g' : β → Prop} {ts : List TypeId} (h : Opn P d g t) (h' : OpnF P d' g' ts) : OpnF P (Kd.pair d d') (fun x => g x.1 ∧ g' x.2) (t :: ts) :=
  ⟨by simp [h.1, h'.1, Kd.pair], fun H enc w spare held fuel cs hl hx => by
    obtain ⟨x0, hx0⟩ := hx 0 t rfl
    simp only [List.take_zero, List.map_nil, List.sum_nil, List.drop_zero] at hx0
    obtain ⟨a, ha, hga⟩ := h.2 H enc w spare held fuel _ x0 hx0
    have hl' : cs.length = d.sz + d'.sz := hl
    obtain ⟨b, hb, hgb⟩ := h'.2 H enc w spare held fuel (cs.drop (P.cellsOf t)) (by rw [List.length_drop, hl', h.1]; omega) (fun j t' ht => by
      obtain ⟨x, hx⟩ := hx (j + 1) t' (by simpa using ht)
      refine ⟨x, ?_⟩
      rw [List.drop_drop]
      simpa [List.take_succ_cons] using hx)
    exact ⟨(a, b), ⟨_, _, (List.take_append_drop (P.cellsOf t) cs).symm, ha, hb⟩, hga, hgb⟩⟩

def inLine (P : Program) : List Field → Nat → Bool
  | [], _ => true
  | f :: fs, n => f.offset == n && inLine P fs (n + P.cellsOf f.type)
theorem inLine_get {P : Program} : ∀ (fs : List Field) (n : Nat), inLine P fs n = true → ∀ j f, fs[j]? = some f → f.offset = n + (((fs.map (·.type)).take j).map P.cellsOf).sum
  | [], _, _, j, f, h => by simp at h
  | f0 :: fs, n, h, 0, f, hf => by
    cases hf
    simp [inLine] at h
    simp [h.1]
  | f0 :: fs, n, h, j + 1, f, hf => by
    simp [inLine] at h
    have := inLine_get fs _ h.2 j f (by simpa using hf)
    rw [this]
    simp [Nat.add_assoc]

theorem opn_struct {α : Type} {P : Program} {d : Kd α} {g : α → Prop} {t : TypeId} {fs : Array Field} (ht : P.underlying t = some (.struct fs)) (hc : P.cellsOf t = d.sz) (hl : inLine P fs.toList 0 = true) (h : OpnF P d g (fs.toList.map (·.type))) : Opn P d g t :=
  ⟨hc, fun H enc w spare held fuel cs x hx => by
    obtain ⟨xs, n, _, _, hcl, hxl, hxf⟩ := DataW.trod_struct ht hx
    refine h.2 H enc w spare held n cs (by rw [hcl, hc]) fun j t' hj => ?_
    rw [List.getElem?_map] at hj
    obtain ⟨f, hf, rfl⟩ := Option.map_eq_some_iff.1 hj
    have ho := inLine_get fs.toList 0 hl j f hf
    have hf' : fs[j]? = some f := by simpa using hf
    have h1 := hxf j f hf'
    have hlt : j < xs.length := by
      rw [hxl]
      obtain ⟨q, _⟩ := Array.getElem?_eq_some_iff.1 hf'
      exact q
    rw [List.getElem?_eq_getElem hlt, ho, Nat.zero_add] at h1
    exact ⟨_, h1⟩⟩

end Go.Proofs.YtldjbgonlbmeaaaDoor.Open
end
section
/- What the laws of show are given: forms out of their cells, and how long their texts may be. -/
set_option linter.unusedSimpArgs false
set_option linter.unusedVariables false
namespace Go.Proofs.YtldjbgonlbmeaaaDoor.Opf
open Go.RowKit Go.WideShapes Go.Proofs.YtldjbgonlbmeaaaDoor.PA Go.Proofs.YtldjbgonlbmeaaaDoor.Open Go.Proofs.YtldjbgonlbmeaaaDoorW.PrintWords
def OpnB {α : Type} (P : Program) (d : Kd α) (g : Nat → α → Prop) (t : TypeId) : Prop :=
  P.cellsOf t = d.sz ∧ ∀ (H : Type) (enc : TypeId × Value → H) (w : World) (spare : Nat → Bool) (held : Bool) (fuel : Nat) (cs : List Value) (x : DataW H × List MemPlace),
    DataW.trod enc P w 0 spare held fuel t cs = some x → ∃ a, d.K w a cs ∧ g (Rows.uptoBulk x.1) a
theorem OpnB.of {α : Type} {P : Program} {d : Kd α} {g : α → Prop} {t : TypeId} (h : Opn P d g t) : OpnB P d (fun _ a => g a) t := ⟨h.1, fun H enc w spare held fuel cs x hx => h.2 H enc w spare held fuel cs x hx⟩
theorem part_le {H : Type} {d : DataW H} {l : List (DataW H)} (h : d ∈ l) : Rows.uptoBulk d ≤ Rows.uptoBulkAll l := by
  induction l with
  | nil => cases h
  | cons x r ih =>
    simp only [Rows.uptoBulkAll]
    cases List.mem_cons.1 h with
    | inl e => subst e; omega
    | inr e => have := ih e; omega
theorem opn_iso {α β : Type} {P : Program} {d : Kd β} {g : β → Prop} {t : TypeId} (f : α → β) (inv : β → α) (hi : ∀ y, f (inv y) = y) (h : Opn P d g t) : Opn P (Kd.iso d f) (fun x => g (f x)) t := by
  refine ⟨h.1, fun H enc w spare held fuel cs x hx => ?_⟩
  obtain ⟨y, h1, h2⟩ := h.2 H enc w spare held fuel cs x hx
  exact ⟨inv y, by show d.K _ (f (inv y)) _; rw [hi]; exact h1, by show g (f (inv y)); rw [hi]; exact h2⟩
abbrev gi (n : Int) : Prop := (Lit.int .i64 n).wf = true
theorem opn_ints : Opn Tryd.prog (Kd.slice 3 (Kd.int .i64)) (fun l => l.length ≤ maxLen ∧ ∀ x ∈ l, gi x) 23 := opn_slice Tryd.underlying23 (by kernel_rfl) (opn_int Tryd.underlying3 (by kernel_rfl))
theorem opn_form : Opn Tryd.prog k61 (fun x => (Lit.int .u8 x.f0).wf = true ∧ x.f1.size ≤ maxLen ∧ gi x.f2 ∧ (x.f3.length ≤ maxLen ∧ ∀ y ∈ x.f3, gi y) ∧ gi x.f4) 61 :=
  opn_iso (fun x : S61 => (x.f0, x.f1, x.f2, x.f3, x.f4)) (fun y => ⟨y.1, y.2.1, y.2.2.1, y.2.2.2.1, y.2.2.2.2⟩) (fun _ => rfl) (opn_struct Tryd.underlying61 (by kernel_rfl) (by kernel_rfl) (opnF_cons (opn_int Tryd.underlying58 (by kernel_rfl)) (opnF_cons (opn_string Tryd.underlying9 (by kernel_rfl)) (opnF_cons (opn_int Tryd.underlying59 (by kernel_rfl)) (opnF_cons opn_ints (opnF_one (opn_int Tryd.underlying3 (by kernel_rfl))))))))
def gF (N : Nat) (x : S61) : Prop := (x.f1.size ≤ maxLen ∧ gi x.f2) ∧ x.f1.size ≤ N
set_option maxRecDepth 100000 in
theorem opn_formB : OpnB Tryd.prog k61 gF 61 := ⟨opn_form.1, fun H enc w spare held fuel cs x hx => by
  obtain ⟨a, hk, hg⟩ := opn_form.2 H enc w spare held fuel cs x hx
  refine ⟨a, hk, ⟨hg.2.1, hg.2.2.1⟩, ?_⟩
  obtain ⟨A3, c3, rfl, _, _⟩ := k61_open hk
  obtain ⟨xs, n, _, rfl, _, hxl, hxf⟩ := DataW.trod_struct Tryd.underlying61 hx
  have h1 := hxf 1 _ rfl
  have hlt : 1 < xs.length := by rw [hxl]; decide
  rw [List.getElem?_eq_getElem hlt] at h1
  have h9 : Tryd.prog.cellsOf 9 = 1 := by kernel_rfl
  obtain ⟨s, e1, e2, _⟩ := DataW.trod_string Tryd.underlying9 h1
  have es : [Value.string a.f1] = [Value.string s] := by rw [← e1]; show _ = List.take (Tryd.prog.cellsOf 9) _; rw [h9]; rfl
  have es2 : a.f1 = s := by injection es with q _; injection q
  have hm : xs[1].1 ∈ xs.map (·.1) := List.mem_map.2 ⟨xs[1], List.getElem_mem hlt, rfl⟩
  have hb := part_le hm
  rw [e2] at hb
  simp only [Rows.uptoBulk] at hb ⊢
  have hz : s.data.toList.length = s.size := by rw [Array.length_toList]; rfl
  rw [es2]
  omega⟩
theorem open_slcB {α : Type} {P : Program} {d : Kd α} {g : Nat → α → Prop} (mono : ∀ N M y, g N y → N ≤ M → g M y) {t e : TypeId} (ht : P.underlying t = some (.slice e)) (he : OpnB P d g e) {H : Type} {enc : TypeId × Value → H} {W : World} {spare : Nat → Bool} {held : Bool} {A : Option Addr} {n c : Nat} {x : DataW H} {ps : List MemPlace}
    (hd : DataW.Trod enc P W 0 spare held t (.slice A n c) x ps) : ∃ l : List α, n = l.length ∧ l.length ≤ c ∧ Kd.C d W A l.length l ∧ ∀ y ∈ l, g (Rows.uptoBulk x) y := by
  obtain ⟨fuel, hf⟩ := hd
  rcases Go.Deep.open_slice ht hf with ⟨hcs, _⟩ | ⟨a, len, cap, m, k, D, Pl, hcs, _, hlc, hcm, hm, hx, hi⟩
  · simp [Value.cells] at hcs
    obtain ⟨rfl, rfl, rfl⟩ := hcs
    exact ⟨[], rfl, Nat.le_refl _, ⟨rfl, by simp, fun h => absurd h (by simp)⟩, fun y hy => by cases hy⟩
  · simp [Value.cells] at hcs
    obtain ⟨rfl, rfl, rfl⟩ := hcs
    have hle : n ≤ m := by rw [hm]; split <;> omega
    obtain ⟨hx1, _⟩ := Prod.mk.inj hx
    obtain ⟨l, hl, hr⟩ := list_of (R := fun i a_ => ∃ c, c.length = d.sz ∧ d.K W a_ c ∧ g (Rows.uptoBulk x) a_ ∧ ∀ j u, c[j]? = some u → W.cell? (a.add (i * d.sz + j)) = some u) (n := n) (fun i hin => by
      obtain ⟨cs', h1, h2⟩ := hi i (by omega)
      obtain ⟨y, hy, hg⟩ := he.2 H enc W spare held k cs' _ h2
      obtain ⟨q1, q2⟩ := cells_get h1
      refine ⟨y, cs', by rw [q1, he.1], hy, mono _ _ _ hg ?_, fun j u hu => by rw [← he.1, ← Go.Deep.add_add]; exact q2 j u hu⟩
      rw [hx1]
      have hmem : D i ∈ (List.range n).map D := List.mem_map.2 ⟨i, List.mem_range.2 hin, rfl⟩
      have := part_le hmem
      simp only [Rows.uptoBulk]
      show Rows.uptoBulk (D i) ≤ _
      omega)
    refine ⟨l, hl.symm, by omega, ⟨rfl, by unfold maxLen at hcm; omega, fun _ => ⟨a, rfl, fun j p hp => ?_⟩⟩, fun y hy => ?_⟩
    · obtain ⟨c, h1, h2, _, h4⟩ := hr j p hp
      exact ⟨c, h1, h2, h4⟩
    · obtain ⟨i, hi2⟩ := List.getElem?_of_mem hy
      obtain ⟨_, _, _, hg, _⟩ := hr i y hi2
      exact hg
theorem gF_mono (N M : Nat) (y : S61) (h : gF N y) (hle : N ≤ M) : gF M y := ⟨h.1, Nat.le_trans h.2 hle⟩
theorem gi_mono (N M : Nat) (y : Int) (h : gi y) (hle : N ≤ M) : gi y := h
end Go.Proofs.YtldjbgonlbmeaaaDoor.Opf
end
