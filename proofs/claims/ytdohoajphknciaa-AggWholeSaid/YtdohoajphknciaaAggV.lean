/- The walks of the reference of agg: all together. -/
import Derived.Test.YtdohoajphknciaaAggU
set_option linter.unusedSimpArgs false
set_option linter.unusedVariables false
namespace Go.Proofs.Ytdohoajphknciaa.Agg
open Go.RowKit Go.Proofs.Ytdohoajphknciaa.PT Go.Proofs.Ytdohoajphknciaa.Pure Go.Proofs.Ytdohoajphknciaa.Perm Go.Proofs.YtdohoajphknciaaW.PrintWords Go.Proofs.YtdohoajphknciaaW.PrintLast Go.Proofs.YtdohoajphknciaaW.PrintMore

theorem owns_of_R {w : World} {base : Nat} {ok : Nat → Prop} {v : Value} {l : List Int} (h : Kd.R (Kd.int .i64) 3 w base ok v l) : w.ownsRow base 3 1 v l.length (l.map I) := by
 obtain ⟨_, inner, ho, hr⟩ := h
 have : inner = l.map I := by
  clear ho
  have hs : (Kd.int IntKind.i64).sz = 1 := rfl
  have hlen : inner.length = l.length := by have := hr.1; rw [hs] at this; omega
  apply List.ext_getElem?
  intro j
  rw [List.getElem?_map]
  by_cases hj : j < l.length
  ·have h1 : (inner.drop (j * (Kd.int IntKind.i64).sz)).take (Kd.int IntKind.i64).sz = [Value.int .i64 l[j]] := hr.2 j l[j] (List.getElem?_eq_getElem hj)
   rw [hs, Nat.mul_one] at h1
   have h2 : ((inner.drop j).take 1)[0]? = inner[j]? := by
    rw [List.getElem?_take_of_lt (by decide), List.getElem?_drop, Nat.add_zero]
   rw [← h2, h1, List.getElem?_eq_getElem hj]
   rfl
  ·rw [List.getElem?_eq_none (by omega), List.getElem?_eq_none (by omega)]
   rfl
 rw [← this]; exact ho

set_option maxHeartbeats 4000000 in
theorem rwhole_ok (g k : Nat) (o f : Int) (ls : List (List Int)) (w : World) (h : IsR w g o ls) (hf : PA.reticuleref01_Reduces.f 3 o = some (f, true)) (h1 : 1 ≤ ls.length) (h4 : ls.length ≤ 4) (hl : ∀ l ∈ ls, l.length ≤ 100000) :
  Calls Try.prog 30 #[.pointer (some ⟨g, 0, none⟩), .int .u64 k] w fun e w' => e = .returned (.tuple #[.int .i64 (all o f (fun j => fold o f (ls.getD j [])) (ord ls.length k)), .int .i64 0]) ∧ Below w.heap.size w w' := by
 obtain ⟨gv, cap0, e0, e1, lgv, hrow⟩ := h.view (by omega)
 have lg := h.lt
 have ho : takes o := red_of 2 o f (by rw [← ref_reduces]; exact hf)
 have HI := Lib.hid h
 have HF := Lib.hid hf
 have HL := Lib.hid hl
 clear h hf hrow hl
 go_enter Try.func30, Try.ntmps30
 go_wp2_with fail
 refine (PA.reticuleref02_From.calls 10 ls.length k (ord ls.length k) 0 _ (ref_from h1 h4)).mono ?_
 rintro e w1 ⟨v, rfl, ho1, hb1⟩
 have ho1 := owns_of_R ho1
 have hlen : (ord ls.length k).length = ls.length := by rw [(ord_perm ls.length k).length_eq]; simp [upto]
 obtain ⟨gp, cap, rfl, hgp, hgl, _, _, _, hH⟩ := Lib.holds_of_ownsRow (enc := I) ho1 (by
  rintro rfl
  rcases ho1.2 with ⟨_, q⟩ | ⟨_, _, _, q, _⟩
  ·omega
  ·cases q)
 obtain ⟨p, hp⟩ : ∃ p, p = ord ls.length k := ⟨_, rfl⟩
 have hpr : ∀ x ∈ p, 0 ≤ x ∧ x < (ls.length : Int) := fun x hx => by
  rw [hp] at hx
  exact upto_mem.1 ((ord_perm ls.length k).mem_iff.1 hx)
 rw [← hp] at hlen hH
 have hlp : (ord ls.length k).length = p.length := by rw [hp]
 rw [hlp]
 have HP := Lib.hid hp
 have HR := Lib.hid hpr
 have HH := Lib.hid hH
 have HL0 := Lib.hid hlen
 have HB1 := Lib.hid hb1
 have e01 := (hb1.cell (p := ⟨g, 0, none⟩) lg).trans e0
 clear hp hpr hH ho1 hlp hlen hb1
 have hpl : p.length ≤ 4 := by have := HL0.out; omega
 go_wp2_with fail
 refine (PA.reticuleref01_Reduces.calls 3 o f true _ HF.out).mono ?_
 rintro e w2 ⟨rfl, ⟨m, rfl⟩⟩
 go_wp2_with fail
 clear e01
 go_loopw [8, 10] (fun v8 v10 wr => ∃ i : Nat, i ≤ p.length ∧ v8 = .int .i64 (all o f (fun j => fold o f (ls.getD j [])) (p.take i)) ∧ v10 = .int .i64 i ∧ Below w1.heap.size w1 wr) (fun _ v10 _ => p.length - (intOf v10).toNat)
 case atStart => exact ⟨0, Nat.zero_le _, rfl, rfl, pw_below_drewN (Below.refl _ _) _⟩
 case round =>
  obtain ⟨i, hi, rfl, rfl, hb⟩ := hrel
  by_cases hlt : i < p.length
  ·have hx := HR.out p[i] (List.getElem_mem hlt)
   obtain ⟨j, hj⟩ : ∃ j : Nat, p[i] = (j : Int) := ⟨p[i].toNat, by omega⟩
   have hc1 := (HH.out i (by simpa using hlt)).1
   have hjn : j < ls.length := by omega
   have ej : (p.toArray)[i]! = (j : Int) := by simp [getElem!_pos, hlt, hj]
   rw [ej, Nat.zero_add] at hc1
   have hc2 : wr.cell? ⟨gp, i, none⟩ = some (.int .i64 (j : Int)) := (hb.cell hgl).trans hc1
   have lg1 : g < w1.heap.size := Nat.lt_of_lt_of_le lg HB1.out.size
   have hI1 := (HI.out.below HB1.out).below hb
   have q0 : wr.cell? ⟨g, 0, none⟩ = some (.int .u8 o) := (hb.cell lg1).trans ((HB1.out.cell lg).trans e0)
   have lgr := hI1.lt
   obtain ⟨acc, hacc⟩ : ∃ a, a = all o f (fun j => fold o f (ls.getD j [])) (p.take i) := ⟨_, rfl⟩
   rw [← hacc]
   have HI1 := Lib.hid hI1
   have HA := Lib.hid hacc
   have HJ := Lib.hid hj
   have HB := Lib.hid hb
   clear hacc hj hb hc1 hI1 ej hx
   go_wp2_with fail
   refine (rpart_ok g j o f ls _ HI1.out HF.out hjn h4 HL.out).mono ?_
   rintro e w3 ⟨rfl, hb3⟩
   have q03 := (hb3.cell (p := ⟨g, 0, none⟩) lgr).trans q0
   have lg3 : g < w3.heap.size := Nat.lt_of_lt_of_le lgr hb3.size
   have HB3 := Lib.hid hb3
   clear hb3
   go_wp2_with fail
   refine (rdo2 o acc (fold o f ls[j]) ho _ _ (by go_simp) (by go_simp)).mono ?_
   rintro e w4 ⟨rfl, hb⟩
   have hB2 : Below w3.heap.size w3 w4 := below_step (by repeat (first | exact Below.refl _ _ | apply below_drew1 | apply below_alloc)) hb
   have HB2 := Lib.hid hB2
   clear hB2 hb
   go_wp2
   go_roundw
   case rel =>
    refine ⟨i + 1, by omega, ?_, by go_num, below_step (below_step HB.out HB3.out) HB2.out⟩
    rw [List.take_succ_eq_append_getElem hlt, all, List.foldl_append, List.foldl_cons, List.foldl_nil, HJ.out, Int.toNat_natCast]
    have := HA.out
    rw [all] at this
    rw [← this]
    simp [List.getD, hjn]
   case measure => simp [intOf]; omega
  ·have hie : i = p.length := by omega
   have HE := Lib.hid hie
   have HB := Lib.hid hb
   clear hb hie
   go_wp2
   go_ret2
   refine ⟨?_, below_step HB1.out HB.out⟩
   rw [HE.out, List.take_length, HP.out]
   rfl
end Go.Proofs.Ytdohoajphknciaa.Agg
