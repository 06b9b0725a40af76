/- ShowSame and ShowPrints: the plain laws. -/
import Derived.Test.YtldjbgonlbmeaaaDoorFbs
import Derived.Test.YtldjbgonlbmeaaaDoorLiv
import Derived.Test.YtldjbgonlbmeaaaDoorPCx4
import Derived.Test.YtldjbgonlbmeaaaDoorPCx5
set_option linter.unusedSimpArgs false
set_option linter.unusedVariables false
namespace Go.Proofs.YtldjbgonlbmeaaaDoor.F
open Go.RowKit Go.Proofs.YtldjbgonlbmeaaaDoor.PA Go.Proofs.YtldjbgonlbmeaaaDoor.PB Go.Proofs.YtldjbgonlbmeaaaDoor.PC Go.Proofs.YtldjbgonlbmeaaaDoor.PR Go.Proofs.YtldjbgonlbmeaaaDoor.T Go.Proofs.YtldjbgonlbmeaaaDoor.Dig Go.Proofs.YtldjbgonlbmeaaaDoorW.PrintWords Go.Proofs.YtldjbgonlbmeaaaDoorW.PrintLast
def Was (l : List Fm) : Prop := ∀ f ∈ l, f.f1.size ≤ 9223372036854775807 ∧ I64 f.f2
def Eqf (f g : Fm) : Prop := f.f0 = g.f0 ∧ f.f1.toList = g.f1.toList ∧ f.f2 = g.f2 ∧ f.f3.length = g.f3.length
theorem same_step {l m : List Fm} (hl : l.length ≤ 400) (hm : m.length = l.length) {i : Nat} (hi : i < l.length) {r : Bool} (yes : Eqf (l.getD i zFm) (m.getD i zFm) → Ev (fun k => show_Same.l0 k l m (l.length : Int) ((i + 1 : Nat) : Int)) r) (no : ¬ Eqf (l.getD i zFm) (m.getD i zFm) → r = false) :
  Ev (fun k => show_Same.l0 k l m (l.length : Int) (i : Int)) r := by
 have hw := wp1 (i := i) (by omega)
 by_cases h : Eqf (l.getD i zFm) (m.getD i zFm)
 ·refine Ev.step (fun k => ?_) (yes h)
  obtain ⟨a, b, c, d⟩ := h
  rw [show_Same.l0, if_pos (by omega), if_pos (by omega), if_pos (by omega), if_pos (by omega), rdF_at, rdF_at, if_pos a, if_pos b, if_pos c, if_pos (by rw [d]), hw]
 ·rw [no h]
  refine Ev.step (f := fun _ => some false) (fun k => ?_) (Ev.now _)
  rw [show_Same.l0, if_pos (by omega), if_pos (by omega), if_pos (by omega), if_pos (by omega), rdF_at, rdF_at]
  by_cases a : (l.getD i zFm).f0 = (m.getD i zFm).f0
  ·rw [if_pos a]
   by_cases b : (l.getD i zFm).f1.toList = (m.getD i zFm).f1.toList
   ·rw [if_pos b]
    by_cases c : (l.getD i zFm).f2 = (m.getD i zFm).f2
    ·rw [if_pos c, if_neg (fun d => h ⟨a, b, c, by omega⟩)]
    ·rw [if_neg c]
   ·rw [if_neg b]
  ·rw [if_neg a]
theorem same_all {l m : List Fm} (hl : l.length ≤ 400) (hm : m.length = l.length) (h : ∀ i, i < l.length → Eqf (l.getD i zFm) (m.getD i zFm)) : ∀ d i, i + d = l.length → Ev (fun k => show_Same.l0 k l m (l.length : Int) (i : Int)) true := by
 intro d
 induction d with
 | zero => intro i hi; exact Ev.step (f := fun _ => some true) (fun k => by rw [show_Same.l0, if_neg (by omega)]) (Ev.now _)
 | succ d ih => intro i hi; exact same_step hl hm (by omega) (fun _ => ih (i + 1) (by omega)) (fun q => absurd (h i (by omega)) q)
theorem same_not {l m : List Fm} (hl : l.length ≤ 400) (hm : m.length = l.length) (h : ¬ ∀ i, i < l.length → Eqf (l.getD i zFm) (m.getD i zFm)) : ∀ d i, i + d = l.length → (∀ j, j < i → Eqf (l.getD j zFm) (m.getD j zFm)) → Ev (fun k => show_Same.l0 k l m (l.length : Int) (i : Int)) false := by
 intro d
 induction d with
 | zero => intro i hi hj; exact absurd (fun j q => hj j (by omega)) h
 | succ d ih =>
  intro i hi hj
  refine same_step hl hm (by omega) (fun q => ih (i + 1) (by omega) (fun j hj' => ?_)) (fun _ => rfl)
  by_cases e : j = i
  ·rw [e]; exact q
  ·exact hj j (by omega)
theorem eqf_hd {f g : Fm} (h : Eqf f g) : Hd f g ∧ f.f3.length = g.f3.length := by
 obtain ⟨a, b, c, d⟩ := h
 rw [Go.ByteArray.toList_eq, Go.ByteArray.toList_eq] at b
 exact ⟨⟨a, ByteArray.ext (Array.toList_inj.1 b), c⟩, d⟩
abbrev Sm (k : Nat) (l : List Fm) (top : List Int) (m : List Fm) : Option Bool := if (l.length : Int) = (m.length : Int) then (show_Same.j0 k l m ((top.length : Int) != (top.length : Int))) else (show_Same.j0 k l m true)
theorem same_no {l m : List Fm} {top : List Int} (h : Ev (fun k => tree_Right.f k l top) false) : Ev (fun k => show_Same.f k l top m top) false := by
 refine Ev.bind (f := fun k t179 => (if t179 = true then ((tree_Right.f k m top).bind fun t180 => (if t180 = true then (if (l.length : Int) = (m.length : Int) then (show_Same.j0 k l m ((top.length : Int) != (top.length : Int))) else (show_Same.j0 k l m true)) else (show_Same.j0 k l m true))) else (show_Same.j0 k l m true))) h ?_
 refine Ev.congr (f := fun k => show_Same.j0 k l m true) (fun k => by rw [if_neg (by decide)]) (Ev.step (f := fun _ => some false) (fun k => by rw [show_Same.j0, if_pos rfl]) (Ev.now _))
theorem same_go {l m : List Fm} {top : List Int} {b r : Bool} (h : Ev (fun k => tree_Right.f k l top) true) (hm : Ev (fun k => tree_Right.f k m top) b) (next : Ev (fun k => if b = true then Sm k l top m else show_Same.j0 k l m true) r) : Ev (fun k => show_Same.f k l top m top) r := by
 refine Ev.bind (f := fun k t179 => (if t179 = true then ((tree_Right.f k m top).bind fun t180 => (if t180 = true then (if (l.length : Int) = (m.length : Int) then (show_Same.j0 k l m ((top.length : Int) != (top.length : Int))) else (show_Same.j0 k l m true)) else (show_Same.j0 k l m true))) else (show_Same.j0 k l m true))) h ?_
 refine Ev.congr (f := fun k => (tree_Right.f k m top).bind fun t180 => (if t180 = true then (if (l.length : Int) = (m.length : Int) then (show_Same.j0 k l m ((top.length : Int) != (top.length : Int))) else (show_Same.j0 k l m true)) else (show_Same.j0 k l m true))) (fun k => by rw [if_pos rfl]) ?_
 exact Ev.bind (f := fun k t180 => (if t180 = true then (if (l.length : Int) = (m.length : Int) then (show_Same.j0 k l m ((top.length : Int) != (top.length : Int))) else (show_Same.j0 k l m true)) else (show_Same.j0 k l m true))) hm next
theorem sm_to {l m : List Fm} {top : List Int} (hm : m.length = l.length) {r : Bool} (h : Ev (fun k => show_Same.l0 k l m (l.length : Int) ((0 : Nat) : Int)) r) : Ev (fun k => Sm k l top m) r := by
 refine Ev.congr (f := fun k => show_Same.j0 k l m false) (fun k => ?_) (Ev.step (fun k => by rw [show_Same.j0, if_neg (by decide)]; rfl) h)
 unfold Sm
 rw [if_pos (by omega)]; simp
theorem j0_no {l m : List Fm} : Ev (fun k => show_Same.j0 k l m true) false := Ev.step (f := fun _ => some false) (fun k => by rw [show_Same.j0, if_pos rfl]) (Ev.now _)
theorem rprint_no {l : List Fm} {top : List Int} (h : Ev (fun k => reticuleref07_Right.f k l top) false) : Ev (fun k => reticuleref08_Print.f k l top) (⟨#[]⟩, 3) := by
 refine Ev.bind (f := fun k t127 => (if t127 = true then (reticuleref08_Print.l0 k l top (⟨#[]⟩ : ByteArray) 0) else (some ((⟨#[]⟩ : ByteArray), 3)))) h ?_
 exact Ev.congr (f := fun _ => some _) (fun k => by rw [if_neg (by decide)]) (Ev.now _)
theorem rsame_go {l m : List Fm} {top : List Int} {a b : ByteArray × Int} (ha : Ev (fun k => reticuleref08_Print.f k l top) a) (hb : Ev (fun k => reticuleref08_Print.f k m top) b) : Ev (fun k => reticuleref08_Same.f k l top m top) (if a.2 = 0 then (if b.2 = 0 then (a.1.toList == b.1.toList) else false) else false) := by
 refine Ev.bind (f := fun k bt146 => ((reticuleref08_Print.f k m top).bind fun bt148 => (if bt146.2 = 0 then (if bt148.2 = 0 then (some (bt146.1.toList == bt148.1.toList)) else (some false)) else (some false)))) ha ?_
 refine Ev.bind (f := fun _ bt148 => (if a.2 = 0 then (if bt148.2 = 0 then (some (a.1.toList == bt148.1.toList)) else (some false)) else (some false))) hb ?_
 refine Ev.congr (f := fun _ => some _) (fun k => ?_) (Ev.now _)
 split
 ·split <;> rfl
 ·rfl
theorem print_some {l : List Fm} {top : List Int} (hS : Was l) : ∃ a, Ev (fun k => reticuleref08_Print.f k l top) a := by
 rcases right_any (top := top) hS with ⟨F, hF, rfl, hP, hR⟩ | ⟨hP, hR⟩
 ·exact ⟨_, hF.rprint hR⟩
 ·exact ⟨_, rprint_no hR⟩
theorem same_any {l m : List Fm} {top : List Int} (hS : Was l) (hT : Was m) : ∃ b, Ev (fun k => show_Same.f k l top m top) b ∧ Ev (fun k => reticuleref08_Same.f k l top m top) b := by
 rcases right_any (top := top) hS with ⟨F, hF, eF, hP, hR⟩ | ⟨hP, hR⟩
 ·rcases right_any (top := top) hT with ⟨G, hG, eG, hQ, hU⟩ | ⟨hQ, hU⟩
  ·have pF : Ev (fun k => reticuleref08_Print.f k l top) (bs F.pl, 0) := by rw [eF] at hR ⊢; exact hF.rprint hR
   have pG : Ev (fun k => reticuleref08_Print.f k m top) (bs G.pl, 0) := by rw [eG] at hU ⊢; exact hG.rprint hU
   have hr := rsame_go pF pG
   rw [if_pos rfl, if_pos rfl] at hr
   have tl : ∀ L : List UInt8, (bs L).toList = L := fun L => by rw [Go.ByteArray.toList_eq]
   rw [tl, tl] at hr
   have h4 := hF.small
   have hl := hF.len
   have hm := hG.len
   have hnum : F.num = G.num := by rw [← F.pls_len 0, ← G.pls_len 0, ← eF, ← eG]
   by_cases hlen : m.length = l.length
   ·by_cases hA : ∀ i, i < l.length → Eqf (l.getD i zFm) (m.getD i zFm)
    ·have hs := sim_of (fun i hi => eqf_hd (hA i hi)) F G 0 hF.fl hG.fl hF.ok hG.ok hnum (Nat.zero_le _)
     rw [show (F.pl == G.pl) = true by rw [hs.pl]; simp] at hr
     exact ⟨true, same_go hP hQ (Ev.congr (fun k => by rw [if_pos rfl]) (sm_to hlen (same_all (by omega) hlen hA l.length 0 (by omega)))), hr⟩
    ·have hne : F.pl ≠ G.pl := fun e => hA (fun i hi => by
      obtain ⟨⟨a, b, c⟩, d⟩ := (pl_inj F G hF.ok hG.ok e).at hF.fl hG.fl i (Nat.zero_le _) (by omega)
      exact ⟨a, by rw [b], c, by rw [d]⟩)
     rw [show (F.pl == G.pl) = false by simpa using hne] at hr
     exact ⟨false, same_go hP hQ (Ev.congr (fun k => by rw [if_pos rfl]) (sm_to hlen (same_not (by omega) hlen hA l.length 0 (by omega) (fun j q => absurd q (by omega))))), hr⟩
   ·have hne : F.pl ≠ G.pl := fun e => hlen (by have := (pl_inj F G hF.ok hG.ok e).dims.1; omega)
    rw [show (F.pl == G.pl) = false by simpa using hne] at hr
    refine ⟨false, same_go hP hQ (Ev.congr (fun k => ?_) (j0_no (l := l) (m := m))), hr⟩
    rw [if_pos rfl]
    unfold Sm
    rw [if_neg (by omega)]
  ·have pF : Ev (fun k => reticuleref08_Print.f k l top) (bs F.pl, 0) := by rw [eF] at hR ⊢; exact hF.rprint hR
   exact ⟨false, same_go hP hQ (Ev.congr (fun k => by rw [if_neg (by decide)]) j0_no), rsame_go pF (rprint_no hU)⟩
 ·obtain ⟨a, ha⟩ := print_some (top := top) hT
  exact ⟨false, same_no hP, rsame_go (rprint_no hR) ha⟩
theorem same_self {l : List Fm} {top : List Int} (hS : Was l) : ∃ b, Ev (fun k => show_Same.f k l top l top) b ∧ Ev (fun k => tree_Right.f k l top) b := by
 rcases right_any (top := top) hS with ⟨F, hF, eF, hP, hR⟩ | ⟨hP, hR⟩
 ·have h4 := hF.small
  have hl := hF.len
  exact ⟨true, same_go hP hP (Ev.congr (fun k => by rw [if_pos rfl]) (sm_to rfl (same_all (by omega) rfl (fun i hi => ⟨rfl, rfl, rfl, rfl⟩) l.length 0 (by omega)))), hP⟩
 ·exact ⟨false, same_no hP, hP⟩
theorem forms_f (l : List Fm) : ∃ l', reticulelaw08_forms.f l = some l' ∧ ∀ f ∈ l', f ∈ l := by
 unfold reticulelaw08_forms.f
 split
 ·rw [if_pos (by omega)]
  exact ⟨_, rfl, fun f hf => List.mem_of_mem_take hf⟩
 ·exact ⟨_, rfl, fun f hf => hf⟩
theorem places_f (l : List Int) : ∃ l', reticulelaw08_places.f l = some l' := by
 unfold reticulelaw08_places.f
 split
 ·rw [if_pos (by omega)]
  exact ⟨_, rfl⟩
 ·exact ⟨_, rfl⟩
theorem showSame_w {l m : List Fm} (top : List Int) (hS : Was l) (hT : Was m) : ∃ k, reticulelaw08_ShowSame.f k l m top = some true := by
 obtain ⟨l', e1, i1⟩ := forms_f l
 obtain ⟨m', e2, i2⟩ := forms_f m
 obtain ⟨t', e3⟩ := places_f top
 have wl : Was l' := fun f hf => hS f (i1 f hf)
 have wm : Was m' := fun f hf => hT f (i2 f hf)
 obtain ⟨b, ⟨K1, h1⟩, ⟨K2, h2⟩⟩ := same_any (top := t') wl wm
 obtain ⟨c, ⟨K3, h3⟩, ⟨K4, h4⟩⟩ := same_self (top := t') wl
 obtain ⟨K5, h5⟩ := live_f
 refine ⟨K1 + K2 + K3 + K4 + K5, ?_⟩
 have q1 : show_Same.f (K1 + K2 + K3 + K4 + K5) l' t' m' t' = _ := h1 _ (by omega)
 have q2 : reticuleref08_Same.f (K1 + K2 + K3 + K4 + K5) l' t' m' t' = _ := h2 _ (by omega)
 have q3 : show_Same.f (K1 + K2 + K3 + K4 + K5) l' t' l' t' = _ := h3 _ (by omega)
 have q4 : tree_Right.f (K1 + K2 + K3 + K4 + K5) l' t' = _ := h4 _ (by omega)
 have q5 : reticulelaw08_live.f (K1 + K2 + K3 + K4 + K5) = _ := h5 _ (by omega)
 unfold reticulelaw08_ShowSame.f
 rw [e1, Option.bind_some, e2, Option.bind_some, e3, Option.bind_some, q5, Option.bind_some, if_pos rfl, q1, Option.bind_some, q2, Option.bind_some, if_pos (by simp), q3, Option.bind_some, q4, Option.bind_some]
 simp
end Go.Proofs.YtldjbgonlbmeaaaDoor.F
