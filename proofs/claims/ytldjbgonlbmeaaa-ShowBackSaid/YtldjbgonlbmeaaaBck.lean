/- ShowBack: the plain law. -/
import Derived.Test.YtldjbgonlbmeaaaFbs
import Derived.Test.YtldjbgonlbmeaaaPDx3
set_option linter.unusedSimpArgs false
set_option linter.unusedVariables false
namespace Go.Proofs.Ytldjbgonlbmeaaa.F
open Go.RowKit Go.Proofs.Ytldjbgonlbmeaaa.PA Go.Proofs.Ytldjbgonlbmeaaa.PB Go.Proofs.Ytldjbgonlbmeaaa.PC Go.Proofs.Ytldjbgonlbmeaaa.PD Go.Proofs.Ytldjbgonlbmeaaa.T Go.Proofs.Ytldjbgonlbmeaaa.Dig Go.Proofs.YtldjbgonlbmeaaaW.PrintWords Go.Proofs.YtldjbgonlbmeaaaW.PrintLast
theorem Std.right {l : List Fm} {F : Fo} (h : Std l F) : Ev (fun k => tree_Right.f k l (F.pls 0)) true := right_fo h.fl h.len h.ok h.small h.deep
theorem rdF_at (l : List Fm) (i : Nat) : rd_T33 l (i : Int) = l.getD i zFm := by unfold rd_T33; rw [Int.toNat_natCast]
theorem same_l0 {l m : List Fm} (hl : l.length ≤ 400) (hm : m.length = l.length) (h : ∀ i, i < l.length → Hd (l.getD i zFm) (m.getD i zFm) ∧ (l.getD i zFm).f3 = (m.getD i zFm).f3) :
  ∀ d i, i + d = l.length → Ev (fun k => show_Same.l0 k l m (l.length : Int) (i : Int)) true := by
 intro d
 induction d with
 | zero =>
  intro i hi
  refine Ev.step (f := fun _ => some true) (fun k => ?_) (Ev.now _)
  rw [show_Same.l0, if_neg (by omega)]
 | succ d ih =>
  intro i hi
  obtain ⟨⟨a, b, c⟩, e⟩ := h i (by omega)
  refine Ev.step (fun k => ?_) (ih (i + 1) (by omega))
  rw [show_Same.l0, if_pos (by omega), if_pos (by omega), if_pos (by omega), if_pos (by omega), rdF_at, rdF_at, if_pos a, if_pos (by rw [b]), if_pos c, if_pos (by rw [e]), show wrap64 ((i : Int) + 1) = ((i + 1 : Nat) : Int) by unfold wrap64; omega]
theorem same_fo {l m : List Fm} {F G : Fo} (hl : Std l F) (hm : Std m G) (h : Sim F G) : Ev (fun k => show_Same.f k l (F.pls 0) m (G.pls 0)) true := by
 have hd := h.dims
 have h1 := hl.len
 have h2 := hm.len
 have h3 := hl.small
 have hall := same_l0 (l := l) (m := m) (by omega) (by omega) (fun i hi => h.at hl.fl hm.fl i (Nat.zero_le _) (by omega)) l.length 0 (by omega)
 have hj : Ev (fun k => show_Same.j0 k l m false) true := Ev.step (fun k => by rw [show_Same.j0, if_neg (by decide)]; rfl) hall
 refine Ev.bind (f := fun k t106 => (if t106 = true then ((tree_Right.f k m (G.pls 0)).bind fun t107 => (if t107 = true then (if (l.length : Int) = (m.length : Int) then (show_Same.j0 k l m (((F.pls 0).length : Int) != ((G.pls 0).length : Int))) else (show_Same.j0 k l m true)) else (show_Same.j0 k l m true))) else (show_Same.j0 k l m true))) hl.right ?_
 refine Ev.congr (f := fun k => (tree_Right.f k m (G.pls 0)).bind fun t107 => (if t107 = true then (if (l.length : Int) = (m.length : Int) then (show_Same.j0 k l m (((F.pls 0).length : Int) != ((G.pls 0).length : Int))) else (show_Same.j0 k l m true)) else (show_Same.j0 k l m true))) (fun k => by rw [if_pos rfl]) ?_
 refine Ev.bind (f := fun k t107 => (if t107 = true then (if (l.length : Int) = (m.length : Int) then (show_Same.j0 k l m (((F.pls 0).length : Int) != ((G.pls 0).length : Int))) else (show_Same.j0 k l m true)) else (show_Same.j0 k l m true))) hm.right ?_
 refine Ev.congr (fun k => ?_) hj
 rw [if_pos rfl, if_pos (by omega), h.pls 0]
 simp
theorem read_some (x : ByteArray) : ∃ r, Ev (fun k => reticulelaw08_read.f k x) r := by
 rcases read_any x with ⟨l, top, h⟩ | ⟨l, F, h, _, _⟩
 ·exact ⟨_, h⟩
 ·exact ⟨_, h⟩
theorem arr_size (L : List UInt8) : (⟨L.toArray⟩ : ByteArray).size = L.length := by show L.toArray.size = _; simp
theorem back_j0 (x : ByteArray) : Ev (fun k => reticulelaw08_ShowBack.j0 k x) true := by
 have hlive : Ev (fun k => (reticulelaw08_live.f k).bind fun t => (some t)) true := Ev.bind (f := fun _ t => some t) live_f (Ev.now _)
 rcases read_any x with ⟨l, top, h⟩ | ⟨l, F, h, hs, ht⟩
 ·obtain ⟨K1, h1⟩ := h
  obtain ⟨K2, h2⟩ := hlive
  refine ⟨max K1 K2 + 1, fun k hk => ?_⟩
  obtain ⟨k, rfl⟩ : ∃ m, k = m + 1 := ⟨k - 1, by omega⟩
  have q1 : reticulelaw08_read.f k x = _ := h1 k (by omega)
  show reticulelaw08_ShowBack.j0 (k + 1) x = _
  rw [reticulelaw08_ShowBack.j0, q1, Option.bind_some, if_neg (by simp)]
  exact h2 k (by omega)
 ·obtain ⟨K1, h1⟩ := h
  obtain ⟨K2, h2⟩ := hs.print
  obtain ⟨K3, h3⟩ := hs.pretty
  obtain ⟨K4, h4⟩ := hlive
  obtain ⟨K5, h5⟩ := live_f
  have ha : (⟨F.pl.toArray⟩ : ByteArray).toList = F.pl := arr_tl _
  have hb : (⟨F.yl.toArray⟩ : ByteArray).toList = F.yl := arr_tl _
  by_cases hbig : 3000 < F.yl.length ∨ 3000 < F.pl.length
  ·obtain ⟨ra, K6, h6⟩ := read_some (⟨F.pl.toArray⟩ : ByteArray)
   obtain ⟨rb, K7, h7⟩ := read_some (⟨F.yl.toArray⟩ : ByteArray)
   refine ⟨K1 + K2 + K3 + K4 + K6 + K7 + 3, fun k hk => ?_⟩
   obtain ⟨k, rfl⟩ : ∃ m, k = m + 3 := ⟨k - 3, by omega⟩
   have q1 : reticulelaw08_read.f (k + 2) x = _ := h1 _ (by omega)
   have q2 : show_Print.f (k + 2) l (F.pls 0) = _ := h2 _ (by omega)
   have q3 : show_Pretty.f (k + 2) l (F.pls 0) = _ := h3 _ (by omega)
   have q6 : reticulelaw08_read.f (k + 2) (⟨F.pl.toArray⟩ : ByteArray) = _ := h6 _ (by omega)
   have q7 : reticulelaw08_read.f (k + 2) (⟨F.yl.toArray⟩ : ByteArray) = _ := h7 _ (by omega)
   show reticulelaw08_ShowBack.j0 (k + 3) x = _
   rw [reticulelaw08_ShowBack.j0, q1, Option.bind_some, if_pos rfl, q2, Option.bind_some, q3, Option.bind_some, q6, Option.bind_some, q7, Option.bind_some, if_pos rfl]
   rw [reticulelaw08_ShowBack.j1, if_neg (by simp)]
   have hl := h4 k (by omega)
   by_cases hy : 3000 < F.yl.length
   ·rw [if_pos (by rw [arr_size]; omega), reticulelaw08_ShowBack.j2, if_pos rfl]
    exact hl
   ·rw [if_neg (by rw [arr_size]; omega), reticulelaw08_ShowBack.j2, if_pos (decide_eq_true (by rw [arr_size]; omega))]
    exact hl
  ·obtain ⟨m, G, ⟨K6, h6⟩, hG, sG⟩ := read_lays (x := (⟨F.pl.toArray⟩ : ByteArray)) (F := F) (by rw [arr_size]; omega) (by rw [ha]; exact lays_pl F hs.ok) hs.ok hs.small hs.deep ht
   obtain ⟨n, H, ⟨K7, h7⟩, hH, sH⟩ := read_lays (x := (⟨F.yl.toArray⟩ : ByteArray)) (F := F) (by rw [arr_size]; omega) (by rw [hb]; exact lays_yl F hs.ok) hs.ok hs.small hs.deep ht
   obtain ⟨K8, h8⟩ := hG.print
   obtain ⟨K9, h9⟩ := same_fo hs hG sG
   obtain ⟨K0, h0⟩ := same_fo hs hH sH
   refine ⟨K1 + K2 + K3 + K5 + K6 + K7 + K8 + K9 + K0 + 3, fun k hk => ?_⟩
   obtain ⟨k, rfl⟩ : ∃ m, k = m + 3 := ⟨k - 3, by omega⟩
   have q1 : reticulelaw08_read.f (k + 2) x = _ := h1 _ (by omega)
   have q2 : show_Print.f (k + 2) l (F.pls 0) = _ := h2 _ (by omega)
   have q3 : show_Pretty.f (k + 2) l (F.pls 0) = _ := h3 _ (by omega)
   have q6 : reticulelaw08_read.f (k + 2) (⟨F.pl.toArray⟩ : ByteArray) = _ := h6 _ (by omega)
   have q7 : reticulelaw08_read.f (k + 2) (⟨F.yl.toArray⟩ : ByteArray) = _ := h7 _ (by omega)
   have q5 : reticulelaw08_live.f k = _ := h5 _ (by omega)
   have q8 : show_Print.f k m (G.pls 0) = _ := h8 _ (by omega)
   have q9 : show_Same.f k l (F.pls 0) m (G.pls 0) = _ := h9 _ (by omega)
   have q0 : show_Same.f k l (F.pls 0) n (H.pls 0) = _ := h0 _ (by omega)
   show reticulelaw08_ShowBack.j0 (k + 3) x = _
   rw [reticulelaw08_ShowBack.j0, q1, Option.bind_some, if_pos rfl, q2, Option.bind_some, q3, Option.bind_some, q6, Option.bind_some, q7, Option.bind_some, if_pos rfl]
   rw [reticulelaw08_ShowBack.j1, if_neg (by simp), if_neg (by rw [arr_size]; omega), reticulelaw08_ShowBack.j2, if_neg (by rw [arr_size, decide_eq_false (by omega)]; decide)]
   rw [q8, Option.bind_some, q5, Option.bind_some, if_pos rfl, if_pos rfl, if_pos rfl, q9, Option.bind_some, if_pos rfl, q0, Option.bind_some, if_pos rfl, if_pos rfl, sG.pl]
   simp
theorem back_w : reticulelaw08_ShowBack.Pure := fun a0 ha => by
 by_cases h : (a0.size : Int) > 700
 ·obtain ⟨k, hk⟩ := (back_j0 (a0.extract 0 700)).rounds
  refine ⟨k, ?_⟩
  unfold reticulelaw08_ShowBack.f
  rw [if_pos h, if_pos (by omega), if_pos (by omega)]
  exact hk
 ·obtain ⟨k, hk⟩ := (back_j0 a0).rounds
  refine ⟨k, ?_⟩
  unfold reticulelaw08_ShowBack.f
  rw [if_neg h]
  exact hk
end Go.Proofs.Ytldjbgonlbmeaaa.F
