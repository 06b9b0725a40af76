/- The contracts as the laws' own walks want them; the walk of ClashRegions. -/
import Derived.Test.YtgdpdigpbbjhpaaPu3
import Derived.Test.YtgdpdigpbbjhpaaOpen
set_option linter.unusedSimpArgs false
set_option linter.unusedVariables false
namespace Go.Proofs.Ytgdpdigpbbjhpaa.C
open Go.RowKit Go.Sort Go.Proofs.Ytgdpdigpbbjhpaa.PA Go.Proofs.Ytgdpdigpbbjhpaa.PB Go.Proofs.YtgdpdigpbbjhpaaW.PrintWords Go.Proofs.YtgdpdigpbbjhpaaW.PrintMore
theorem few_ok (A : Option Addr) (c : Nat) (l : List S39) (w : World) (hc : l.length ≤ c) : Calls Try.prog 7 #[.slice A l.length c] w fun e w' => e = .returned (.slice A (l.take 14).length c) ∧ w' = w := by
  obtain ⟨i39, hi39, z39, s39, b39⟩ := info_parts info39
  by_cases h : 14 < l.length
  · have d0 : decide (14 < (l.length : Int)) = true := decide_eq_true (by omega)
    have d1 : decide (14 < l.length) = true := decide_eq_true h
    have e : (l.take 14).length = 14 := by rw [List.length_take]; omega
    have hct := cut_to (P := Try.prog) 22 39 .i64 Try.underlying22 hi39 A l.length c 14 (by decide) (by omega) hc
    rw [e]
    clear e
    go_enter Try.func7, Try.ntmps7
    go_wp2
    go_ret
    exact ⟨rfl, rfl⟩
  · have d0 : decide (14 < (l.length : Int)) = false := decide_eq_false (by omega)
    have d1 : decide (14 < l.length) = false := decide_eq_false h
    have e : (l.take 14).length = l.length := by rw [List.length_take]; omega
    rw [e]
    clear e
    go_enter Try.func7, Try.ntmps7
    go_wp2
    go_ret
    exact ⟨rfl, rfl⟩
theorem C_take {w : World} {A : Option Addr} {l : List S39} (n : Nat) (h : Kd.C k39 w A l.length l) : Kd.C k39 w A (l.take n).length (l.take n) := by
  refine ⟨rfl, Nat.le_trans (by simp; omega) h.2.1, fun hp => ?_⟩
  obtain ⟨ad, rfl, hc⟩ := h.2.2 (by simp at hp; omega)
  refine ⟨ad, rfl, fun j p hj => hc j p ?_⟩
  rw [List.getElem?_take] at hj
  split at hj
  · exact hj
  · cases hj
theorem C_of_R {α : Type} {d : Kd α} {e : Nat} {w : World} {base : Nat} {ok : Nat → Prop} {v : Value} {l : List α} (h : Kd.R d e w base ok v l) : ∃ A c, v = .slice A l.length c ∧ l.length ≤ c ∧ Kd.C d w A l.length l := Kd.R_reads h
theorem reg_ok (A : Option Addr) (c : Nat) (l : List S39) (r1 r2 : Int) (w : World) (hr : Kd.C k39 w A l.length l) (hc : l.length ≤ c) (hs : ∀ a ∈ l, a.f1.size ≤ maxLen) (h : rgn [] l = (r1, r2)) :
    Calls Try.prog 8 #[.slice A l.length c] w fun e w' => e = .returned (.tuple #[.int .i64 r1, .int .i64 r2]) ∧ Below w.heap.size w w' :=
  clash_Region.calls A c l r1 r2 w hr hc (by rw [reg_f hs, h])
theorem rreg_ok (A : Option Addr) (c : Nat) (l : List S39) (r1 r2 : Int) (w : World) (hr : Kd.C k39 w A l.length l) (hc : l.length ≤ c) (hl : l.length ≤ 30) (h : rgn [] l = (r1, r2)) :
    Calls Try.prog 9 #[.slice A l.length c] w fun e w' => e = .returned (.tuple #[.int .i64 r1, .int .i64 r2]) ∧ Below w.heap.size w w' := by
  refine (reticuleref12_Region.calls 1000 A c l r1 r2 w hr hc (by rw [rregion_f l hl 1000 (Nat.le_refl _), h])).mono ?_
  rintro e w' ⟨rfl, hd⟩
  exact ⟨rfl, hd.below⟩
theorem live_ok (w : World) : Calls Try.prog 10 #[] w fun e w' => e = .returned (.bool true) ∧ Below w.heap.size w w' :=
  reticulelaw12_live.calls 1000 true w (live_f 1000 (Nat.le_refl _))
theorem wr_ok (A : Option Addr) (c : Nat) (l : List S39) (nm : List ByteArray) (w : World) (hr : Kd.C k39 w A l.length l) (hc : l.length ≤ c) (hl : l.length ≤ 30) (hs : ∀ a ∈ l, a.f1.size ≤ maxLen)  (hnm : (inss [] l).map toB = nm) :
    Calls Try.prog 12 #[.slice A l.length c] w fun e w' => ∃ V cv, e = .returned (.slice V nm.length cv) ∧ nm.length ≤ cv ∧ Kd.C Kd.string w' V nm.length nm ∧ Below w.heap.size w w' := by
  subst hnm
  refine (clash_Writes.calls A c l _ w hr hc (wr_f l hl hs)).mono ?_
  rintro e w' ⟨v, rfl, hR, hb⟩
  obtain ⟨V, cv, rfl, h1, h2⟩ := Kd.R_reads hR
  exact ⟨V, cv, rfl, h1, h2, hb⟩
theorem rwr_ok (A : Option Addr) (c : Nat) (l : List S39) (nm : List ByteArray) (w : World) (hr : Kd.C k39 w A l.length l) (hc : l.length ≤ c) (hl : l.length ≤ 30)  (hnm : (inss [] l).map toB = nm) :
    Calls Try.prog 13 #[.slice A l.length c] w fun e w' => ∃ V cv, e = .returned (.slice V nm.length cv) ∧ nm.length ≤ cv ∧ Kd.C Kd.string w' V nm.length nm ∧ Below w.heap.size w w' := by
  subst hnm
  refine (reticuleref12_Writes.calls 1200 A c l _ w hr hc (rwr_f l hl 1200 (Nat.le_refl _))).mono ?_
  rintro e w' ⟨v, rfl, hR, hb⟩
  obtain ⟨V, cv, rfl⟩ := Kd.V_slice hR
  obtain ⟨_, h1, h2⟩ := Kd.V_reads' hR
  exact ⟨V, cv, rfl, h1, h2, hb⟩
theorem st_ok (A A' : Option Addr) (c c' : Nat) (l : List ByteArray) (w : World) (hr : Kd.C Kd.string w A l.length l) (hc : l.length ≤ c) (hr' : Kd.C Kd.string w A' l.length l) (hc' : l.length ≤ c') (hl : l.length ≤ 1000) :
    Calls Try.prog 11 #[.slice A l.length c, .slice A' l.length c'] w fun e w' => e = .returned (.bool true) ∧ Below w.heap.size w w' := by
  refine (reticuleref12_SameTexts.calls 1100 A c l A' c' l true w hr hc hr' hc' (stex_f l hl 1100 (Nat.le_refl _))).mono ?_
  rintro e w' ⟨rfl, hd⟩
  exact ⟨rfl, hd.below⟩
theorem bat_ok (A : Option Addr) (c : Nat) (l : List S39) (gg : List (List S39)) (w : World) (hr : Kd.C k39 w A l.length l) (hc : l.length ≤ c) (hl : l.length ≤ 30) (hs : ∀ a ∈ l, a.f1.size ≤ maxLen)  (hgg : gr [] l = gg) :
    Calls Try.prog 15 #[.slice A l.length c] w fun e w' => ∃ V cv, e = .returned (.slice V gg.length cv) ∧ gg.length ≤ cv ∧ Kd.C (Kd.slice 39 k39) w' V gg.length gg ∧ Below w.heap.size w w' := by
  subst hgg
  refine (clash_Batches.calls 1000 (fun k => k < w.heap.size) A c l _ w (Kd.V_mk hc (Kd.C_F k39_heap hr)) (bat_f l hl hs 1000 (Nat.le_refl _))).mono ?_
  rintro e w' ⟨v, rfl, hR, hb⟩
  obtain ⟨V, cv, rfl, h1, h2⟩ := Kd.S_reads hR
  exact ⟨V, cv, rfl, h1, h2, hb⟩
theorem rbat_ok (A : Option Addr) (c : Nat) (l : List S39) (gg : List (List S39)) (w : World) (hr : Kd.C k39 w A l.length l) (hc : l.length ≤ c) (hl : l.length ≤ 30)  (hgg : gr [] l = gg) :
    Calls Try.prog 16 #[.slice A l.length c] w fun e w' => ∃ V cv, e = .returned (.slice V gg.length cv) ∧ gg.length ≤ cv ∧ Kd.C (Kd.slice 39 k39) w' V gg.length gg ∧ Below w.heap.size w w' := by
  subst hgg
  refine (reticuleref12_Batches.calls 1100 A c l _ w hr hc (rbat_f l hl 1100 (Nat.le_refl _))).mono ?_
  rintro e w' ⟨v, rfl, hR, hb⟩
  obtain ⟨V, cv, rfl, h1, h2⟩ := Kd.N_reads hR
  exact ⟨V, cv, rfl, h1, h2, hb⟩
theorem sr_ok (A A' : Option Addr) (c c' : Nat) (l : List (List S39)) (w : World) (hr : Kd.C (Kd.slice 39 k39) w A l.length l) (hc : l.length ≤ c) (hr' : Kd.C (Kd.slice 39 k39) w A' l.length l) (hc' : l.length ≤ c') (hl : l.length ≤ 31) (h6 : ∀ r ∈ l, r.length ≤ 6) :
    Calls Try.prog 14 #[.slice A l.length c, .slice A' l.length c'] w fun e w' => e = .returned (.bool true) ∧ Below w.heap.size w w' := by
  refine (reticuleref12_SameRows.calls 1100 A c l A' c' l true w hr hc hr' hc' (srow_f l hl h6 1100 (Nat.le_refl _))).mono ?_
  rintro e w' ⟨rfl, hd⟩
  exact ⟨rfl, hd.below⟩
theorem inss_len : ∀ (l : List S39) (ss : List (List UInt8)), (inss ss l).length ≤ ss.length + l.length
  | [], ss => by simp [inss]
  | a :: l, ss => by
    have h1 := ins_len (nb a) ss
    have h2 := inss_len l (ins (nb a) ss)
    rw [inss]; simp; omega
set_option maxHeartbeats 4000000 in
theorem regions_w (w : World) (A : Option Addr) (c : Nat) (l : List S39) (hc : l.length ≤ c) (hr : Kd.C k39 w A l.length l) (hs : ∀ a ∈ l, a.f1.size ≤ maxLen) :
    Calls Try.prog 3 #[.slice A l.length c] w fun e w' => e = .returned (.bool true) ∧ Below w.heap.size w w' := by
  have hlt := List.length_take_le 14 l
  have hlc : (l.take 14).length ≤ c := by rw [List.length_take]; omega
  have hr' := C_take 14 hr
  have hs' : ∀ a ∈ l.take 14, a.f1.size ≤ maxLen := fun a ha => hs a (List.mem_of_mem_take ha)
  have hF := fun w => few_ok A c l w hc
  obtain ⟨x, hx⟩ : ∃ x, x = l.take 14 := ⟨_, rfl⟩
  rw [← hx] at hlt hlc hr' hs' hF
  obtain ⟨r1, r2, hrg⟩ : ∃ r1 r2, rgn [] x = (r1, r2) := ⟨_, _, rfl⟩
  have HR := Lib.hid hr'
  have HS := Lib.hid hs'
  have HG := Lib.hid hrg
  have hn := inss_len x []
  have hg := gr_len x []
  have h6 := Lib.hid (gr_row x [] (by simp))
  obtain ⟨gg, hgg⟩ : ∃ gg, gr [] x = gg := ⟨_, rfl⟩
  rw [hgg] at hg h6
  have HGG := Lib.hid hgg
  clear hgg
  simp only [List.length_nil, Nat.zero_add] at hn
  have hnm : ((inss [] x).map toB).length ≤ 30 := by rw [List.length_map]; omega
  obtain ⟨nm, hnm'⟩ : ∃ nm, (inss [] x).map toB = nm := ⟨_, rfl⟩
  rw [hnm'] at hnm
  have HN := Lib.hid hnm'
  clear hr hs hr' hs' hx hrg hnm'
  go_enter Try.func3, Try.ntmps3
  go_wp2_with fail
  with_reducible refine (hF _).mono ?_
  rintro e w1 ⟨rfl, rfl⟩
  go_wp2_with fail
  with_reducible refine (reg_ok A c x r1 r2 _ HR.out hlc HS.out HG.out).mono ?_
  rintro e w2 ⟨rfl, hb⟩
  have HB2 := Lib.hid hb
  have HR2 := Lib.hid (Kd.C_below HR.out hb)
  clear hb
  go_wp2_with fail
  with_reducible refine (rreg_ok A c x r1 r2 _ HR2.out hlc (by omega) HG.out).mono ?_
  rintro e w3 ⟨rfl, hb⟩
  have HB3 := Lib.hid (below_step HB2.out hb)
  have HR3 := Lib.hid (Kd.C_below HR2.out hb)
  clear hb
  go_wp2_with fail
  with_reducible refine (live_ok _).mono ?_
  rintro e w4 ⟨rfl, hb⟩
  have HB4 := Lib.hid (below_step HB3.out hb)
  have HR4 := Lib.hid (Kd.C_below HR3.out hb)
  clear hb
  go_wp2_with fail
  with_reducible refine (wr_ok A c x nm _ HR4.out hlc (by omega) HS.out HN.out).mono ?_
  rintro e w5 ⟨V5, c5, rfl, hv5, hr5, hb⟩
  have HB5 := Lib.hid (below_step HB4.out hb)
  have HR5 := Lib.hid (Kd.C_below HR4.out hb)
  have HV5 := Lib.hid hr5
  clear hb hr5
  go_wp2_with fail
  with_reducible refine (rwr_ok A c x nm _ HR5.out hlc (by omega) HN.out).mono ?_
  rintro e w6 ⟨V6, c6, rfl, hv6, hr6, hb⟩
  have HB6 := Lib.hid (below_step HB5.out hb)
  have HR6 := Lib.hid (Kd.C_below HR5.out hb)
  have HV5' := Lib.hid (Kd.C_below HV5.out hb)
  have HV6 := Lib.hid hr6
  clear hb hr6
  go_wp2_with fail
  with_reducible refine (st_ok V5 V6 c5 c6 _ _ HV5'.out hv5 HV6.out hv6 (by omega)).mono ?_
  rintro e w7 ⟨rfl, hb⟩
  have HB7 := Lib.hid (below_step HB6.out hb)
  have HR7 := Lib.hid (Kd.C_below HR6.out hb)
  clear hb
  go_wp2_with fail
  with_reducible refine (bat_ok A c x gg _ HR7.out hlc (by omega) HS.out HGG.out).mono ?_
  rintro e w8 ⟨V8, c8, rfl, hv8, hr8, hb⟩
  have HB8 := Lib.hid (below_step HB7.out hb)
  have HR8 := Lib.hid (Kd.C_below HR7.out hb)
  have HV8 := Lib.hid hr8
  clear hb hr8
  go_wp2_with fail
  with_reducible refine (rbat_ok A c x gg _ HR8.out hlc (by omega) HGG.out).mono ?_
  rintro e w9 ⟨V9, c9, rfl, hv9, hr9, hb⟩
  have HB9 := Lib.hid (below_step HB8.out hb)
  have HV8' := Lib.hid (Kd.C_below HV8.out hb)
  have HV9 := Lib.hid hr9
  clear hb hr9
  go_wp2_with fail
  with_reducible refine (sr_ok V8 V9 c8 c9 _ _ HV8'.out hv8 HV9.out hv9 (by omega) h6.out).mono ?_
  rintro e w10 ⟨rfl, hb⟩
  have HB10 := Lib.hid (below_step HB9.out hb)
  clear hb
  go_wp2
  go_ret
  exact ⟨rfl, HB10.out⟩
end Go.Proofs.Ytgdpdigpbbjhpaa.C
