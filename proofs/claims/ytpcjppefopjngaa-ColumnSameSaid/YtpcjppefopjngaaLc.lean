/- The walks of ColumnForks and ColumnSame. -/
import Derived.Test.YtpcjppefopjngaaSs
set_option linter.unusedSimpArgs false
set_option linter.unusedVariables false
namespace Go.Proofs.Ytpcjppefopjngaa.C
open Go.RowKit Go.Proofs.Ytpcjppefopjngaa.Sk Go.Proofs.Ytpcjppefopjngaa.PA Go.Proofs.Ytpcjppefopjngaa.Mp Go.Proofs.YtpcjppefopjngaaW.PrintWords Go.Proofs.YtpcjppefopjngaaW.PrintLast Go.Proofs.YtpcjppefopjngaaW.PrintMore
section
variable {bad : Nat → Prop} {w w1 : World} {g mb r c : Nat} {cs : List Cl} {cb vb : Nat → Nat} {ps : List Rw} {A : Option Addr}
theorem okc_sz {k : Cl} (h : Okc 3 2 k) : k.nm.size ≤ maxLen ∧ (0 ≤ k.sd ∧ k.sd ≤ 255) ∧ k.vs.length ≤ 1000 ∧ 0 < k.vs.length := by
 have h1 := h.nm
 unfold nmok at h1
 simp only [Bool.and_eq_true, decide_eq_true_eq] at h1
 have h2 := h.s1
 have h3 := h.s3
 have h4 := h.ln
 unfold len at h4
 have h8 := h1.1.2
 refine ⟨by unfold maxLen; omega, by omega, ?_, ?_⟩
 ·split at h4
  ·omega
  ·split at h4
   ·omega
   ·split at h4 <;> omega
 ·split at h4
  ·omega
  ·split at h4
   ·omega
   ·split at h4 <;> omega
theorem Pt.sz (h : Pt w bad 3 2 g mb cs cb vb r ps A c) : ∀ k ∈ cs, k.nm.size ≤ maxLen ∧ (0 ≤ k.sd ∧ k.sd ≤ 255) ∧ k.vs.length ≤ 1000 ∧ 0 < k.vs.length := fun k hk => okc_sz (h.wf.ok k (h.pm.mem_iff.1 hk))
theorem fork1 (h : Pt w bad 3 2 g mb cs cb vb r ps A c) : Calls Try.prog 20 #[.pointer (some ⟨g, 0, none⟩)] w fun e_ w' => ∃ g2 mb2 cs2 cb2 vb2, e_ = .returned (.pointer (some ⟨g2, 0, none⟩)) ∧ IsT w' g2 mb2 3 2 cs2 cb2 vb2 ∧ cs2.Perm cs ∧ w.heap.size ≤ mb2 ∧ (∀ i, i < cs2.length → w.heap.size ≤ vb2 i) ∧ Below w.heap.size w w' :=
 fork_ok g mb 3 2 cs cb vb w h.t in32 h.sz
theorem fork2 {g2 mb2 : Nat} {cs2 : List Cl} {cb2 vb2 : Nat → Nat} (h : Pt w bad 3 2 g mb cs cb vb r ps A c) (hb : Below w.heap.size w w1) (hT : IsT w1 g2 mb2 3 2 cs2 cb2 vb2) (hp : cs2.Perm cs) (hm : w.heap.size ≤ mb2) (hv : ∀ i, i < cs2.length → w.heap.size ≤ vb2 i) :
  Calls Try.prog 21 #[.pointer (some ⟨r, 0, none⟩)] w1 fun e_ w' => ∃ r2, e_ = .returned (.pointer (some ⟨r2, 0, none⟩)) ∧ (∃ own2 bad', Sys w' (Own mb r cs vb) bad' 3 2 g r (cls ps) ∧ Sys w' own2 bad' 3 2 g2 r2 (cls ps) ∧ (∀ b, own2 b → ¬ Own mb r cs vb b) ∧ OwnIn w own2) ∧ Below w1.heap.size w1 w' := by
 have hlt1 : ∀ b, (bad b ∨ (b = mb2 ∨ ∃ i, i < cs2.length ∧ b = vb2 i)) → b < w1.heap.size := fun b q => by
  rcases q with q | rfl | ⟨i, hi, rfl⟩
  ·exact Nat.lt_of_lt_of_le (h.d.lt b q) hb.size
  ·exact hT.mp.lt
  ·exact (Array.getElem?_eq_some_iff.1 (hT.vx i hi)).1
 have hold : ∀ b, b < w.heap.size → (bad b ∨ (b = mb2 ∨ ∃ i, i < cs2.length ∧ b = vb2 i)) → bad b := fun b hbl q => by
  rcases q with q | rfl | ⟨i, hi, rfl⟩
  ·exact q
  ·omega
  ·have := hv i hi; omega
 have hR1 : IsR w1 r 3 2 ps A c (fun b => bad b ∨ (b = mb2 ∨ ∃ i, i < cs2.length ∧ b = vb2 i)) :=
  h.d.mono hb.size (hb.block r h.d.rlt) (fun b hbl _ => hb.block b hbl) hold (.inl h.d.me) hlt1
 refine (rfork_ok r 3 2 ps A c _ w1 hR1 (by have := h.few.2; omega)).mono ?_
 rintro e_ w2 ⟨r2, A2, c2, rfl, hr2, hR2, hb2⟩
 have hb02 := below_then hb hb.size hb2
 have hlt2 : ∀ b, ((bad b ∨ (b = mb2 ∨ ∃ i, i < cs2.length ∧ b = vb2 i)) ∨ b = r2) → b < w2.heap.size := hR2.lt
 have hR0 : IsR w2 r 3 2 ps A c (fun b => (bad b ∨ (b = mb2 ∨ ∃ i, i < cs2.length ∧ b = vb2 i)) ∨ b = r2) :=
  h.d.mono hb02.size (hb02.block r h.d.rlt) (fun b hbl _ => hb02.block b hbl) (fun b hbl q => by
   rcases q with q | rfl
   ·exact hold b hbl q
   ·have := hb.size; omega) (.inl (.inl h.d.me)) hlt2
 refine ⟨r2, rfl, ⟨Own mb2 r2 cs2 vb2, _, ⟨mb, cs, cb, vb, ps, A, c, ⟨h.t.below hb02, hR0, h.pm, h.wf, h.nn, fun b q => .inl (.inl (h.ob b q))⟩, rfl, rfl⟩, ⟨mb2, cs2, cb2, vb2, ps, A2, c2, ⟨hT.below hb2, hR2, hp.trans h.pm, h.wf, h.nn, fun b q => ?_⟩, rfl, rfl⟩, fun b q q' => ?_, fun b q => ?_⟩, hb2⟩
 ·rcases q with q | q | q
  ·exact .inl (.inr (.inl q))
  ·exact .inl (.inr (.inr q))
  ·exact .inr q
 ·have h1 := h.lt q'
  rcases q with rfl | ⟨i, hi, rfl⟩ | rfl
  ·omega
  ·have := hv i hi; omega
  ·have := hb.size; omega
 ·rcases q with rfl | ⟨i, hi, rfl⟩ | rfl
  ·exact hm
  ·exact hv i hi
  ·exact Nat.le_trans hb.size hr2
end
theorem zk_len : (⟨#[]⟩ : ByteArray).size ≤ maxLen := by decide
set_option maxRecDepth 100000 in
set_option maxHeartbeats 8000000 in
theorem forks_w (w : World) (A : Option Addr) (c : Nat) (l : List Dd) (hc : l.length ≤ c) (hr : Kd.C kD w A l.length l) (hg : l.length ≤ maxLen ∧ ∀ x ∈ l, gd' x) (hs : l.length * 80 ≤ 140737488351232)
  (A2 : Option Addr) (c2 : Nat) (m : List Dd) (hc2 : m.length ≤ c2) (hr2 : Kd.C kD w A2 m.length m) (hg2 : m.length ≤ maxLen ∧ ∀ x ∈ m, gd' x) (hs2 : m.length * 80 ≤ 140737488351232) :
  Calls Try.prog 6 #[.slice A l.length c, .slice A2 m.length c2] w fun e w' => e = .returned (.bool true) ∧ Below w.heap.size w w' := by
 have HP := Lib.hid (play_ok A c l w hr hg.2 (by omega))
 have HC := Lib.hid hr2
 have HG := Lib.hid hg2.2
 have hml : m.length ≤ 9223372036854775807 := by omega
 clear hr hg hs hr2 hg2 hs2
 go_enter Try.func6, Try.ntmps6
 go_wp2_with fail
 refine HP.out.mono ?_
 rintro e w1 ⟨g, r, rfl, ⟨own, bad, hS, hO⟩, hb⟩
 have HB1 := Lib.hid hb
 have HS := Lib.hid hS
 have HO := Lib.hid hO
 clear hb hS hO
 generalize plays l = rs at HS
 go_wp2_with fail
 refine (live_ok w1).mono ?_
 rintro e w2 ⟨rfl, hb⟩
 have HB2 := Lib.hid (below_then HB1.out HB1.out.size hb)
 have HS2 := Lib.hid (HS.out.below hb)
 clear hb
 obtain ⟨mb, cl, cb, vb, ps, AR, cR, hP, h1, h2⟩ := HS2.out
 subst h1; subst h2
 have HPT := Lib.hid hP
 clear hP
 go_wp2_with fail
 refine (fork1 HPT.out).mono ?_
 rintro e w3 ⟨g2, mb2, cs2, cb2, vb2, rfl, hT, hp, hm2, hv2, hb3⟩
 have HF2 := Lib.hid (fork2 HPT.out hb3 hT hp hm2 hv2)
 have HB3 := Lib.hid (below_then HB2.out HB2.out.size hb3)
 clear hT hp hm2 hv2 hb3
 go_wp2_with fail
 refine HF2.out.mono ?_
 rintro e w4 ⟨r2, rfl, hx, hb4⟩
 have HX := Lib.hid hx
 have HB4 := Lib.hid (below_then HB3.out HB3.out.size hb4)
 clear hx hb4
 go_wp2_with fail
 go_loopw [10] (fun v10 wr => ∃ i : Nat, i ≤ m.length ∧ i ≤ 14 ∧ v10 = I i ∧ (∃ own2 bad' rs', Sys wr (Own mb r cl vb) bad' 3 2 g r (cls ps) ∧ Sys wr own2 bad' 3 2 g2 r2 rs' ∧ (∀ b, own2 b → ¬ Own mb r cl vb b) ∧ OwnIn w own2) ∧ Below w.heap.size w wr) (fun v10 _ => m.length - (intOf v10).toNat)
 case atStart =>
  obtain ⟨own2, bad', h1, h2, h3, h4⟩ := HX.out
  exact ⟨0, by omega, by omega, rfl, ⟨own2, bad', _, h1, h2, h3, fun b q => Nat.le_trans HB2.out.size (h4 b q)⟩, HB4.out⟩
 case round =>
  obtain ⟨i, hil, hi14, rfl, ⟨own2, bad', rs', h1, h2, h3, h4⟩, hB⟩ := hrel
  have HS1 := Lib.hid h1
  have HSF := Lib.hid h2
  have HD := Lib.hid h3
  have HO2 := Lib.hid h4
  have HB := Lib.hid hB
  clear h1 h2 h3 h4 hB
  by_cases hlt : i < m.length ∧ i < 14
  ·have d1 : decide ((i : Int) < (m.length : Int)) = true := decide_eq_true (by omega)
   have d2 : decide ((i : Int) < 14) = true := decide_eq_true (by omega)
   have hlt1 := hlt.1
   obtain ⟨ad, B, bc, e, q0, q1, q2, q3, q4, q5, q6, hb1, hb2⟩ := deed_at HC.out hlt1
   subst e
   replace q0 := (HB.out.cell (World.block_lt_of_cell? w _ q0)).trans q0
   replace q1 := (HB.out.cell (World.block_lt_of_cell? w _ q1)).trans q1
   replace q2 := (HB.out.cell (World.block_lt_of_cell? w _ q2)).trans q2
   replace q3 := (HB.out.cell (World.block_lt_of_cell? w _ q3)).trans q3
   replace q4 := (HB.out.cell (World.block_lt_of_cell? w _ q4)).trans q4
   replace q5 := (HB.out.cell (World.block_lt_of_cell? w _ q5)).trans q5
   replace q6 := (HB.out.cell (World.block_lt_of_cell? w _ q6)).trans q6
   have hgd := HG.out m[i] (List.getElem_mem hlt1)
   generalize m[i] = d at q0 q1 q2 q3 q4 q5 q6 hb1 hb2 hgd
   have HDO := Lib.hid (do_ok wr HSF.out d B bc hgd.2.1.1 (u8_wf hgd.2.1.2) (u8_wf hgd.2.2.1) hb1 hgd.2.2.2.2.2.1 (fun W' hk => Kd.C_below hb2 (hk.below HB.out HB.out.size HO2.out)))
   clear hb1 hb2 hgd
   go_wp2_with fail
   refine HDO.out.mono ?_
   rintro e w5 ⟨rfl, hbo⟩
   have HBO := Lib.hid hbo
   clear hbo
   go_wp2_with fail
   obtain ⟨own', bad'', hS', hSt, hbb⟩ := HBO.out
   obtain ⟨h1, h2⟩ := HS1.out.frame HSF.out hS' hSt hbb HD.out
   refine ⟨⟨i + 1, by omega, by omega, by go_num, ⟨own', bad'', _, h1, hS', h2, fun b hb => ?_⟩, hSt.keep.below HB.out HB.out.size HO2.out⟩, by simp [intOf]; omega⟩
   rcases hSt.new b hb with q | q
   ·exact HO2.out b q
   ·exact Nat.le_trans HB.out.size q
  ·by_cases hl1 : i < m.length
   ·have d1 : decide ((i : Int) < (m.length : Int)) = true := decide_eq_true (by omega)
    have d2 : decide ((i : Int) < 14) = false := decide_eq_false (by omega)
    go_wp2_with fail
    refine (same_ok wr HS1.out ⟨#[]⟩ 0 zk_len ⟨by omega, by omega⟩).mono ?_
    rintro e w6 ⟨rfl, hb⟩
    have HB6 := Lib.hid (below_then HB.out HB.out.size hb)
    have HSF6 := Lib.hid (HSF.out.below hb)
    clear hb
    go_wp2_with fail
    refine (same_ok w6 HSF6.out ⟨#[]⟩ 0 zk_len ⟨by omega, by omega⟩).mono ?_
    rintro e w7 ⟨rfl, hb⟩
    have HB7 := Lib.hid (below_then HB6.out HB6.out.size hb)
    clear hb
    go_wp2_with fail
    go_ret
    exact ⟨rfl, HB7.out⟩
   ·have d1 : decide ((i : Int) < (m.length : Int)) = false := decide_eq_false (by omega)
    go_wp2_with fail
    refine (same_ok wr HS1.out ⟨#[]⟩ 0 zk_len ⟨by omega, by omega⟩).mono ?_
    rintro e w6 ⟨rfl, hb⟩
    have HB6 := Lib.hid (below_then HB.out HB.out.size hb)
    have HSF6 := Lib.hid (HSF.out.below hb)
    clear hb
    go_wp2_with fail
    refine (same_ok w6 HSF6.out ⟨#[]⟩ 0 zk_len ⟨by omega, by omega⟩).mono ?_
    rintro e w7 ⟨rfl, hb⟩
    have HB7 := Lib.hid (below_then HB6.out HB6.out.size hb)
    clear hb
    go_wp2_with fail
    go_ret
    exact ⟨rfl, HB7.out⟩
theorem same_none (g : Nat) (w : World) : Calls Try.prog 23 #[.pointer (some ⟨g, 0, none⟩), .pointer none] w fun e w' => e = .returned (.bool false) ∧ Below w.heap.size w w' := by
 go_enter Try.func23, Try.ntmps23
 go_wp2_with fail
 go_quiet (fail)
 go_wp2_with fail
 go_ret
 exact ⟨rfl, pw_below_drewN (Below.refl _ _) _⟩
set_option maxRecDepth 100000 in
set_option maxHeartbeats 8000000 in
theorem same_w (w : World) (A : Option Addr) (c : Nat) (l : List Dd) (hc : l.length ≤ c) (hr : Kd.C kD w A l.length l) (hg : l.length ≤ maxLen ∧ ∀ x ∈ l, gd' x) (hs : l.length * 80 ≤ 140737488351232)
  (A2 : Option Addr) (c2 : Nat) (m : List Dd) (hc2 : m.length ≤ c2) (hr2 : Kd.C kD w A2 m.length m) (hg2 : m.length ≤ maxLen ∧ ∀ x ∈ m, gd' x) (hs2 : m.length * 80 ≤ 140737488351232) :
  Calls Try.prog 7 #[.slice A l.length c, .slice A2 m.length c2] w fun e w' => e = .returned (.bool true) ∧ Below w.heap.size w w' := by
 have HP := Lib.hid (play_ok A c l w hr hg.2 (by omega))
 have HP2 := Lib.hid (fun (W : World) (q : Below w.heap.size w W) => play_ok A2 c2 m W (Kd.C_below hr2 q) hg2.2 (by omega))
 clear hr hg hs hr2 hg2 hs2
 go_enter Try.func7, Try.ntmps7
 go_wp2_with fail
 refine HP.out.mono ?_
 rintro e w1 ⟨g, r, rfl, ⟨own, bad, hS, hO⟩, hb⟩
 have HB1 := Lib.hid hb
 have HS := Lib.hid hS
 clear hb hS hO
 generalize plays l = rs at HS
 go_wp2_with fail
 refine (HP2.out w1 HB1.out).mono ?_
 rintro e w2 ⟨g2, r2, rfl, ⟨own2, bad2, hS, hO⟩, hb⟩
 have HB2 := Lib.hid (below_then HB1.out HB1.out.size hb)
 have HSA := Lib.hid (HS.out.below hb)
 have HSB := Lib.hid hS
 clear hb hS hO
 generalize plays m = rs2 at HSB
 go_wp2_with fail
 refine (live_ok w2).mono ?_
 rintro e w3 ⟨rfl, hb⟩
 have HB3 := Lib.hid (below_then HB2.out HB2.out.size hb)
 have HSA3 := Lib.hid (HSA.out.below hb)
 have HSB3 := Lib.hid (HSB.out.below hb)
 clear hb
 obtain ⟨mb, cl, cb, vb, ps, AR, cR, hP, h1, h2⟩ := HSA3.out
 subst h1; subst h2
 have HPA := Lib.hid hP
 clear hP
 obtain ⟨mb2, cl2, cb2, vb2, ps2, AR2, cR2, hP, h1, h2⟩ := HSB3.out
 subst h1; subst h2
 have HPB := Lib.hid hP
 clear hP
 go_wp2_with fail
 refine (tsame_ok g mb g2 mb2 3 2 cl cl2 cb vb cb2 vb2 w3 HPA.out.t HPB.out.t (fun k hk => ⟨(HPA.out.sz k hk).1, (HPA.out.sz k hk).2.1, (HPA.out.sz k hk).2.2.1⟩) (fun k hk => (HPB.out.sz k hk).2.2.1)).mono ?_
 rw [show decide (Among cl cl2) = decide (cls ps = cls ps2) from decide_eq_decide.2 (among_iff HPA.out.wf HPA.out.pm HPB.out.wf HPB.out.pm)]
 rintro e w4 ⟨rfl, hb⟩
 have HB4 := Lib.hid (below_then HB3.out HB3.out.size hb)
 have HPA4 := Lib.hid (HPA.out.below hb)
 have HPB4 := Lib.hid (HPB.out.below hb)
 clear hb
 go_wp2_with fail
 refine (rsame_ok r r2 3 2 ps ps2 AR AR2 cR cR2 bad bad2 w4 HPA4.out.d HPB4.out.d (by have := HPA.out.few.2; omega) HPA.out.lens.2.1 HPB.out.lens.2.1).mono ?_
 rintro e w5 ⟨rfl, hb⟩
 have HB5 := Lib.hid (below_then HB4.out HB4.out.size hb)
 have HPA5 := Lib.hid (HPA4.out.below hb)
 clear hb
 generalize decide (cls ps = cls ps2) = bq
 go_wp2_with fail
 refine (fork1 HPA5.out).mono ?_
 rintro e w6 ⟨g3, mb3, cs3, cb3, vb3, rfl, hT, hp, hm3, hv3, hb⟩
 have HB6 := Lib.hid (below_then HB5.out HB5.out.size hb)
 have HPA6 := Lib.hid (HPA5.out.below hb)
 have HT3 := Lib.hid hT
 have HPM := Lib.hid hp
 clear hT hp hm3 hv3 hb
 go_wp2_with fail
 refine (tsame_ok g mb g3 mb3 3 2 cl cs3 cb vb cb3 vb3 w6 HPA6.out.t HT3.out (fun k hk => ⟨(HPA.out.sz k hk).1, (HPA.out.sz k hk).2.1, (HPA.out.sz k hk).2.2.1⟩) (fun k hk => (HPA.out.sz k (HPM.out.mem_iff.1 hk)).2.2.1)).mono ?_
 rw [show decide (Among cl cs3) = true from decide_eq_true ((among_iff HPA.out.wf HPA.out.pm HPA.out.wf (HPM.out.trans HPA.out.pm)).2 rfl)]
 rintro e w7 ⟨rfl, hb⟩
 have HB7 := Lib.hid (below_then HB6.out HB6.out.size hb)
 clear hb
 go_wp2_with fail
 refine (same_none g w7).mono ?_
 rintro e w8 ⟨rfl, hb⟩
 have HB8 := Lib.hid (below_then HB7.out HB7.out.size hb)
 clear hb
 go_wp2_with fail
 go_ret
 exact ⟨by simp, HB8.out⟩
end Go.Proofs.Ytpcjppefopjngaa.C
