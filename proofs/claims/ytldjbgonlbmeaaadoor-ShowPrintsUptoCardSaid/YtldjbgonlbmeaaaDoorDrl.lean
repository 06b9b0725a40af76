/- ShowSame and ShowPrints: the plain laws. -/
import Derived.Test.YtldjbgonlbmeaaaDoorFbs
import Derived.Test.YtldjbgonlbmeaaaDoorLiv
import Derived.Test.YtldjbgonlbmeaaaDoorPCx4
import Derived.Test.YtldjbgonlbmeaaaDoorPCx5
set_option linter.unusedSimpArgs false
set_option linter.unusedVariables false
namespace Go.Proofs.YtldjbgonlbmeaaaDoor.F
open Go.RowKit Go.Proofs.YtldjbgonlbmeaaaDoor.PA Go.Proofs.YtldjbgonlbmeaaaDoor.PB Go.Proofs.YtldjbgonlbmeaaaDoor.PC Go.Proofs.YtldjbgonlbmeaaaDoor.PR Go.Proofs.YtldjbgonlbmeaaaDoor.T Go.Proofs.YtldjbgonlbmeaaaDoor.Dig Go.Proofs.YtldjbgonlbmeaaaDoorW.PrintWords Go.Proofs.YtldjbgonlbmeaaaDoorW.PrintLast
def Was (l : List Fm) : Prop := ∀ f ∈ l, f.f1.size ≤ 9223372036854775807 ∧ I64 f.f2
theorem rprint_no {l : List Fm} {top : List Int} (h : Ev (fun k => reticuleref07_Right.f k l top) false) : Ev (fun k => reticuleref08_Print.f k l top) (⟨#[]⟩, 3) := by
 refine Ev.bind (f := fun k t127 => (if t127 = true then (reticuleref08_Print.l0 k l top (⟨#[]⟩ : ByteArray) 0) else (some ((⟨#[]⟩ : ByteArray), 3)))) h ?_
 exact Ev.congr (f := fun _ => some _) (fun k => by rw [if_neg (by decide)]) (Ev.now _)
theorem rpretty_no {l : List Fm} {top : List Int} (h : Ev (fun k => reticuleref07_Right.f k l top) false) : Ev (fun k => reticuleref08_Pretty.f k l top) (⟨#[]⟩, 3) := by
 refine Ev.bind (f := fun k t143 => (if t143 = true then (reticuleref08_Pretty.l0 k l top (⟨#[]⟩ : ByteArray) 0) else (some ((⟨#[]⟩ : ByteArray), 3)))) h ?_
 exact Ev.congr (f := fun _ => some _) (fun k => by rw [if_neg (by decide)]) (Ev.now _)
theorem forms_f (l : List Fm) : ∃ l', reticulelaw08_forms.f l = some l' ∧ ∀ f ∈ l', f ∈ l := by
 unfold reticulelaw08_forms.f
 split
 ·rw [if_pos (by omega)]
  exact ⟨_, rfl, fun f hf => List.mem_of_mem_take hf⟩
 ·exact ⟨_, rfl, fun f hf => hf⟩
theorem places_f (l : List Int) : ∃ l', reticulelaw08_places.f l = some l' := by
 unfold reticulelaw08_places.f
 split
 ·rw [if_pos (by omega)]
  exact ⟨_, rfl⟩
 ·exact ⟨_, rfl⟩
theorem bt_bs (L : List UInt8) (i : Nat) (hi : i < L.length) : bt (bs L) (i : Int) = ((L[i]).toNat : Int) := by
 have tl : (bs L).toList = L := by rw [Go.ByteArray.toList_eq]
 rw [Dig.bt_at (bs L) i (by rw [tl]; exact hi), List.getElem_of_eq tl]
theorem lines_l (L : List UInt8) (hL : L.length ≤ 1000000) : ∀ (d i n : Nat), i + d = L.length → n ≤ 1000001 + i → Ev (fun k => reticuleref08_Lines.l0 k (bs L) (n : Int) (i : Int)) ((n + (L.drop i).count 10 : Nat) : Int) := by
 intro d
 induction d with
 | zero =>
  intro i n hi hn
  rw [List.drop_of_length_le (by omega), List.count_nil]
  refine Ev.step (f := fun _ => some (n : Int)) (fun k => ?_) (Ev.now _)
  rw [reticuleref08_Lines.l0, if_neg (by rw [bs_size]; omega)]
 | succ d ih =>
  intro i n hi hn
  have hil : i < L.length := by omega
  have hbt := bt_bs L i hil
  have hw1 : wrap64 ((i : Int) + 1) = ((i + 1 : Nat) : Int) := by unfold wrap64; omega
  have hw2 : wrap64 ((n : Int) + 1) = ((n + 1 : Nat) : Int) := by unfold wrap64; omega
  rw [List.drop_eq_getElem_cons hil, List.count_cons]
  have c1 : (i : Int) < ((bs L).size : Int) := by rw [bs_size]; exact Int.ofNat_lt.2 hil
  have c2 : (0 : Int) ≤ (i : Int) := Int.natCast_nonneg i
  by_cases h10 : L[i] = 10
  ·have e : bt (bs L) (i : Int) = 10 := by rw [hbt, h10]; rfl
   rw [if_pos (by rw [h10]; rfl), show n + (List.count 10 (L.drop (i + 1)) + 1) = n + 1 + List.count 10 (L.drop (i + 1)) from by clear hw1 hw2 hbt e; omega]
   refine Ev.step (fun k => ?_) (ih (i + 1) (n + 1) (by clear hw1 hw2 hbt e; omega) (by clear hw1 hw2 hbt e; omega))
   rw [reticuleref08_Lines.l0, if_pos c1, if_pos c2, if_pos e, hw1, hw2]
  ·have e : ¬ bt (bs L) (i : Int) = 10 := fun q => h10 (by
    rw [hbt] at q
    exact UInt8.toNat_inj.1 (Int.ofNat.inj q))
   rw [if_neg (by simpa using h10), Nat.add_zero]
   refine Ev.step (fun k => ?_) (ih (i + 1) n (by clear hw1 hw2 hbt e; omega) (by clear hw1 hw2 hbt e; omega))
   rw [reticuleref08_Lines.l0, if_pos c1, if_pos c2, if_neg e, hw1]
theorem rlines_f (L : List UInt8) (hL : L.length ≤ 1000000) : Ev (fun k => reticuleref08_Lines.f k (bs L)) ((L.count 10 : Int) + 1) := by
 have := lines_l L hL L.length 0 1 (by omega) (by omega)
 rw [List.drop_zero] at this
 rw [show (L.count 10 : Int) + 1 = ((1 + L.count 10 : Nat) : Int) by omega]
 exact this
theorem prints_any {l : List Fm} {top : List Int} (hS : Was l) : ∃ L M : List UInt8, ∃ c : Int, L.length ≤ 1000000 ∧ Ev (fun k => show_Print.f k l top) (bs L, c) ∧ Ev (fun k => reticuleref08_Print.f k l top) (bs L, c) ∧ Ev (fun k => show_Pretty.f k l top) (bs M, c) ∧ Ev (fun k => reticuleref08_Pretty.f k l top) (bs M, c) := by
 rcases right_any (top := top) hS with ⟨F, hF, eF, hP, hR⟩ | ⟨hP, hR⟩
 ·have h4 := hF.small
  have hc := (pl_cnt F hF.ok).2
  refine ⟨F.pl, F.yl, 0, by omega, ?_⟩
  rw [eF] at hP hR ⊢
  exact ⟨hF.print, hF.rprint hR, hF.pretty, hF.rpretty hR⟩
 ·refine ⟨[], [], 3, by simp, ?_, rprint_no hR, ?_, rpretty_no hR⟩
  ·refine Ev.bind (f := fun k b => if b = true then (if Okl l = true ∧ (PL l top).length ≤ 70368744177664 then some ((⟨(PL l top).toArray⟩ : ByteArray), (0 : Int)) else none) else some (⟨#[]⟩, 3)) hP ?_
   exact Ev.congr (f := fun _ => some _) (fun k => by rw [if_neg (by decide)]) (Ev.now _)
  ·refine Ev.bind (f := fun k b => if b = true then (if PrettyOk l top then some ((⟨(YL l top).toArray⟩ : ByteArray), (0 : Int)) else none) else some (⟨#[]⟩, 3)) hP ?_
   exact Ev.congr (f := fun _ => some _) (fun k => by rw [if_neg (by decide)]) (Ev.now _)
theorem showPrints_w {l : List Fm} (top : List Int) (at_ : Int) (hS : ∀ f ∈ l, f.f1.size ≤ 16777216 ∧ I64 f.f2) : ∃ k, reticulelaw08_ShowPrints.f k l top at_ = some true := by
 obtain ⟨l', e1, i1⟩ := forms_f l
 obtain ⟨t', e3⟩ := places_f top
 have wl : Was l' := fun f hf => ⟨by have := (hS f (i1 f hf)).1; omega, (hS f (i1 f hf)).2⟩
 have hM : Mx 16777216 l' := fun f hf => ⟨(hS f (i1 f hf)).1, (hS f (i1 f hf)).2.1, (hS f (i1 f hf)).2.2⟩
 have hO : Okl l' = true := by
  unfold Okl
  rw [List.all_eq_true]
  intro f hf
  have := hM f hf
  simp only [Bool.and_eq_true, decide_eq_true_eq]
  exact ⟨⟨this.1, this.2.1⟩, this.2.2⟩
 obtain ⟨L, M, c, hL, ⟨K1, h1⟩, ⟨K2, h2⟩, ⟨K3, h3⟩, ⟨K4, h4⟩⟩ := prints_any (top := t') wl
 obtain ⟨K5, h5⟩ := live_f
 obtain ⟨K6, h6⟩ := one_any hM at_
 obtain ⟨K7, h7⟩ := rlines_f L hL
 have h8 : show_One.f l' at_ = some (oneS l' at_) := by unfold show_One.f; rw [if_pos hO]
 have h9 : show_Lines.f (bs L) = some ((L.count 10 : Int) + 1) := lines_f L hL
 refine ⟨K1 + K2 + K3 + K4 + K5 + K6 + K7, ?_⟩
 have q1 : show_Print.f (K1 + K2 + K3 + K4 + K5 + K6 + K7) l' t' = _ := h1 _ (by omega)
 have q2 : reticuleref08_Print.f (K1 + K2 + K3 + K4 + K5 + K6 + K7) l' t' = _ := h2 _ (by omega)
 have q3 : show_Pretty.f (K1 + K2 + K3 + K4 + K5 + K6 + K7) l' t' = _ := h3 _ (by omega)
 have q4 : reticuleref08_Pretty.f (K1 + K2 + K3 + K4 + K5 + K6 + K7) l' t' = _ := h4 _ (by omega)
 have q5 : reticulelaw08_live.f (K1 + K2 + K3 + K4 + K5 + K6 + K7) = _ := h5 _ (by omega)
 have q6 : reticuleref08_One.f (K1 + K2 + K3 + K4 + K5 + K6 + K7) l' at_ = _ := h6 _ (by omega)
 have q7 : reticuleref08_Lines.f (K1 + K2 + K3 + K4 + K5 + K6 + K7) (bs L) = _ := h7 _ (by omega)
 unfold reticulelaw08_ShowPrints.f
 rw [e1, Option.bind_some, e3, Option.bind_some, q1, Option.bind_some, q2, Option.bind_some, h8, Option.bind_some, q6, Option.bind_some, q3, Option.bind_some, q4, Option.bind_some, q5, Option.bind_some]
 rw [if_pos rfl, if_pos rfl, if_pos rfl, if_pos rfl, if_pos rfl, if_pos rfl, if_pos rfl, h9, Option.bind_some, q7, Option.bind_some]
 simp
end Go.Proofs.YtldjbgonlbmeaaaDoor.F
