/- Py, Li, Te -/
import Derived.Test.YtpcjppefopjngaaDo
import Derived.Test.YtpcjppefopjngaaPAx5
section
/- Deeds, one behind the other, on columns and the document's. -/
set_option linter.unusedSimpArgs false
set_option linter.unusedVariables false
namespace Go.Proofs.Ytpcjppefopjngaa.C
open Go.RowKit Go.Proofs.Ytpcjppefopjngaa.Sk Go.Proofs.Ytpcjppefopjngaa.PA Go.Proofs.Ytpcjppefopjngaa.Mp Go.Proofs.YtpcjppefopjngaaW.PrintWords Go.Proofs.YtpcjppefopjngaaW.PrintLast Go.Proofs.YtpcjppefopjngaaW.PrintMore
/-- A deed's cells. -/
def kDp : Kd (Int × (ByteArray × Int) × Int × Int × Int × List Int) := Kd.pair (Kd.int .i64) (Kd.pair (Kd.pair Kd.string (Kd.int .u8)) (Kd.pair (Kd.int .u8) (Kd.pair (Kd.int .i64) (Kd.pair (Kd.int .i64) (Kd.slice 33 (Kd.int .i64))))))
def kD : Kd Dd := Kd.iso kDp (fun d => (d.k, (d.nm, d.sd), d.of, d.i, d.x, d.l))
theorem kD_open {w : World} {d : Dd} {cs : List Value} (h : kD.K w d cs) : ∃ B cap, cs = [I d.k, .string d.nm, .int .u8 d.sd, .int .u8 d.of, I d.i, I d.x, .slice B d.l.length cap] ∧ d.l.length ≤ cap ∧ Kd.C (Kd.int .i64) w B d.l.length d.l := by
 obtain ⟨c0, c1, rfl, h0, c2, c3, rfl, ⟨c4, c5, rfl, h4, h5⟩, c6, c7, rfl, h6, c8, c9, rfl, h8, c10, c11, rfl, h10, B, cap, h11, h12, h13⟩ := h
 refine ⟨B, cap, ?_, h12, h13⟩
 rw [show c0 = [I d.k] from h0, show c4 = [.string d.nm] from h4, show c5 = [.int .u8 d.sd] from h5, show c6 = [.int .u8 d.of] from h6, show c8 = [I d.i] from h8, show c10 = [I d.x] from h10, h11]
 rfl
/-- What is known of a deed that comes in. -/
def gd' (d : Dd) : Prop := ((Lit.int .i64 d.k).wf = true ∧ (d.nm.size ≤ maxLen ∧ (Lit.int .u8 d.sd).wf = true) ∧ (Lit.int .u8 d.of).wf = true ∧ (Lit.int .i64 d.i).wf = true ∧ (Lit.int .i64 d.x).wf = true ∧ (d.l.length ≤ maxLen ∧ ∀ y ∈ d.l, (Lit.int .i64 y).wf = true))
theorem u8_wf {a : Int} (h : (Lit.int .u8 a).wf = true) : 0 ≤ a ∧ a ≤ 255 := by simpa [Lit.wf, IntKind.min, IntKind.max, IntKind.signed, IntKind.bits] using h
theorem deed_at {w : World} {A : Option Addr} {n : Nat} {xs : List Dd} (h : Kd.C kD w A n xs) {i : Nat} (hi : i < xs.length) : ∃ ad B cap, A = some ad ∧ w.cell? (ad.add (i * 7)) = some (I xs[i].k) ∧ w.cell? ⟨(ad.add (i * 7)).block, (ad.add (i * 7)).off + 1, none⟩ = some (.string xs[i].nm) ∧
  w.cell? ⟨(ad.add (i * 7)).block, (ad.add (i * 7)).off + 2, none⟩ = some (.int .u8 xs[i].sd) ∧ w.cell? ⟨(ad.add (i * 7)).block, (ad.add (i * 7)).off + 3, none⟩ = some (.int .u8 xs[i].of) ∧ w.cell? ⟨(ad.add (i * 7)).block, (ad.add (i * 7)).off + 4, none⟩ = some (I xs[i].i) ∧
  w.cell? ⟨(ad.add (i * 7)).block, (ad.add (i * 7)).off + 5, none⟩ = some (I xs[i].x) ∧ w.cell? ⟨(ad.add (i * 7)).block, (ad.add (i * 7)).off + 6, none⟩ = some (.slice B xs[i].l.length cap) ∧ xs[i].l.length ≤ cap ∧ Kd.C (Kd.int .i64) w B xs[i].l.length xs[i].l := by
 obtain ⟨ad, h1, h2⟩ := h.2.2 (by have := h.1; have := h.2.1; omega)
 obtain ⟨c, _, hK, hc0⟩ := h2 i xs[i] (List.getElem?_eq_getElem hi)
 have hc : ∀ j u, c[j]? = some u → w.cell? (ad.add (i * 7 + j)) = some u := hc0
 obtain ⟨B, cap, rfl, hb1, hb2⟩ := kD_open hK
 refine ⟨ad, B, cap, h1, hc 0 _ rfl, ?_, ?_, ?_, ?_, ?_, ?_, hb1, hb2⟩
 ·rw [← add_field _ _ 1 (by omega)]; exact hc 1 _ rfl
 ·rw [← add_field _ _ 2 (by omega)]; exact hc 2 _ rfl
 ·rw [← add_field _ _ 3 (by omega)]; exact hc 3 _ rfl
 ·rw [← add_field _ _ 4 (by omega)]; exact hc 4 _ rfl
 ·rw [← add_field _ _ 5 (by omega)]; exact hc 5 _ rfl
 ·rw [← add_field _ _ 6 (by omega)]; exact hc 6 _ rfl
/-- What deeds leave. -/
def plays (l : List Dd) : List Cl := (l.take 50).foldl (dov 3 2) []
theorem in32 : inN 3 2 := ⟨by omega, by omega, by omega, by omega⟩
theorem wf_nil (n e : Int) : Wf n e [] := ⟨fun c h => by simp at h, List.Pairwise.nil, by simp⟩
def OwnIn (w0 : World) (own : Nat → Prop) : Prop := ∀ b, own b → w0.heap.size ≤ b
set_option maxRecDepth 100000 in
set_option maxHeartbeats 4000000 in
theorem play_ok (A : Option Addr) (cap : Nat) (l : List Dd) (w : World) (hC : Kd.C kD w A l.length l) (hg : ∀ d ∈ l, gd' d) (hlm : l.length ≤ 9223372036854775807) :
  Calls Try.prog 10 #[.slice A l.length cap] w fun e w' => ∃ g r, e = .returned (.tuple #[.pointer (some ⟨g, 0, none⟩), .pointer (some ⟨r, 0, none⟩), .bool true]) ∧ (∃ own bad, Sys w' own bad 3 2 g r (plays l) ∧ OwnIn w own) ∧ Below w.heap.size w w' := by
 have HC := Lib.hid hC
 have HG := Lib.hid hg
 clear hC hg
 go_enter Try.func10, Try.ntmps10
 go_wp2_with fail
 refine (new_ok 3 2 w in32).mono ?_
 rintro e w1 ⟨g, mb, rfl, hT, hgl, hml, hb1⟩
 have HT := Lib.hid hT
 have HB1 := Lib.hid hb1
 clear hT hb1
 go_wp2_with fail
 refine (rnew_ok 3 2 w1 in32).mono ?_
 rintro e w2 ⟨r, rfl, hrl, hr, hb2⟩
 have HB2 := Lib.hid (below_then HB1.out HB1.out.size hb2)
 have HS : Hid (Sys w2 (Own mb r [] (fun _ => 0)) (Own mb r [] (fun _ => 0)) 3 2 g r [] ∧ OwnIn w (Own mb r [] (fun _ => 0))) := Lib.hid (by
  have hT2 := HT.out.below hb2
  have hrlt := (Array.getElem?_eq_some_iff.1 hr).1
  refine ⟨⟨mb, [], _, _, [], none, 0, ⟨hT2, IsR.init hr (.inr (.inr rfl)) (fun b hb => ?_), List.Perm.refl _, wf_nil _ _, in32, fun b hb => hb⟩, rfl, rfl⟩, fun b hb => ?_⟩
  ·rcases hb with rfl | ⟨i, hi, _⟩ | rfl
   ·exact hT2.mp.lt
   ·simp at hi
   ·exact hrlt
  ·rcases hb with rfl | ⟨i, hi, _⟩ | rfl
   ·exact hml
   ·simp at hi
   ·exact Nat.le_trans HB1.out.size hrl)
 clear hb2 hr hrl hgl hml
 go_wp2_with fail
 go_loopw [7] (fun v7 wr => ∃ i : Nat, i ≤ l.length ∧ i ≤ 50 ∧ v7 = I i ∧ (∃ own bad, Sys wr own bad 3 2 g r ((l.take i).foldl (dov 3 2) []) ∧ OwnIn w own) ∧ Below w.heap.size w wr) (fun v7 _ => l.length - (intOf v7).toNat)
 case atStart => exact ⟨0, by omega, by omega, rfl, ⟨_, _, HS.out⟩, HB2.out⟩
 case round =>
  obtain ⟨i, hil, hi50, rfl, ⟨own, bad, hS, hO⟩, hB⟩ := hrel
  have HSr := Lib.hid hS
  have HO := Lib.hid hO
  have HB := Lib.hid hB
  clear hS hO hB
  by_cases hlt : i < l.length ∧ i < 50
  ·have d1 : decide ((i : Int) < (l.length : Int)) = true := decide_eq_true (by omega)
   have d2 : decide ((i : Int) < 50) = true := decide_eq_true (by omega)
   have hlt1 := hlt.1
   obtain ⟨ad, B, bc, e, q0, q1, q2, q3, q4, q5, q6, hb1, hb2⟩ := deed_at HC.out hlt1
   subst e
   replace q0 := (HB.out.cell (World.block_lt_of_cell? w _ q0)).trans q0
   replace q1 := (HB.out.cell (World.block_lt_of_cell? w _ q1)).trans q1
   replace q2 := (HB.out.cell (World.block_lt_of_cell? w _ q2)).trans q2
   replace q3 := (HB.out.cell (World.block_lt_of_cell? w _ q3)).trans q3
   replace q4 := (HB.out.cell (World.block_lt_of_cell? w _ q4)).trans q4
   replace q5 := (HB.out.cell (World.block_lt_of_cell? w _ q5)).trans q5
   replace q6 := (HB.out.cell (World.block_lt_of_cell? w _ q6)).trans q6
   have hgd := HG.out l[i] (List.getElem_mem hlt1)
   have htk : (l.take (i + 1)).foldl (dov 3 2) [] = dov 3 2 ((l.take i).foldl (dov 3 2) []) l[i] := by rw [List.take_succ_eq_append_getElem hlt1, List.foldl_append]; rfl
   have HTK := Lib.hid htk
   clear htk
   generalize l[i] = d at q0 q1 q2 q3 q4 q5 q6 hb1 hb2 hgd HTK
   have HD := Lib.hid (do_ok wr HSr.out d B bc hgd.2.1.1 (u8_wf hgd.2.1.2) (u8_wf hgd.2.2.1) hb1 hgd.2.2.2.2.2.1 (fun W' hk => Kd.C_below hb2 (hk.below HB.out HB.out.size HO.out)))
   clear hb1 hb2 hgd
   go_wp2_with fail
   refine HD.out.mono ?_
   rintro e w3 ⟨rfl, hbo⟩
   have HBO := Lib.hid hbo
   clear hbo
   go_wp2_with fail
   obtain ⟨own', bad', hS', hSt, _⟩ := HBO.out
   refine ⟨⟨i + 1, by omega, by omega, by go_num, ⟨own', bad', by rw [HTK.out]; exact hS', fun b hb => ?_⟩, hSt.keep.below HB.out HB.out.size HO.out⟩, by simp [intOf]; omega⟩
   rcases hSt.new b hb with q | q
   ·exact HO.out b q
   ·exact Nat.le_trans HB.out.size q
  ·have hpl : l.take i = l.take 50 := by
    by_cases q : i < l.length
    ·obtain rfl : i = 50 := by omega
     rfl
    ·rw [List.take_of_length_le (by omega), List.take_of_length_le (by omega)]
   have HEND : Hid (∃ own bad, Sys wr own bad 3 2 g r (plays l) ∧ OwnIn w own) := Lib.hid ⟨own, bad, by unfold plays; rw [← hpl]; exact HSr.out, HO.out⟩
   clear hpl
   by_cases hl1 : i < l.length
   ·have d1 : decide ((i : Int) < (l.length : Int)) = true := decide_eq_true (by omega)
    have d2 : decide ((i : Int) < 50) = false := decide_eq_false (by omega)
    go_wp2_with fail
    go_ret3
    exact ⟨g, r, rfl, HEND.out, HB.out⟩
   ·have d1 : decide ((i : Int) < (l.length : Int)) = false := decide_eq_false (by omega)
    go_wp2_with fail
    go_ret3
    exact ⟨g, r, rfl, HEND.out, HB.out⟩
end Go.Proofs.Ytpcjppefopjngaa.C
end
section
/- What must be whatever is asked. -/
set_option linter.unusedSimpArgs false
set_option linter.unusedVariables false
namespace Go.Proofs.Ytpcjppefopjngaa.C
open Go.RowKit Go.Proofs.Ytpcjppefopjngaa.Sk Go.Proofs.Ytpcjppefopjngaa.PA Go.Proofs.Ytpcjppefopjngaa.Mp Go.Proofs.YtpcjppefopjngaaW.PrintWords Go.Proofs.YtpcjppefopjngaaW.PrintLast Go.Proofs.YtpcjppefopjngaaW.PrintMore
theorem in21 : inN 2 1 := ⟨by omega, by omega, by omega, by omega⟩
def nx : ByteArray := ⟨#[120]⟩
def l1 : List Cl := [⟨nx, 1, 1, [0]⟩]
def l2 : List Cl := [⟨nx, 1, 1, [0]⟩, ⟨nx, 2, 2, [0, 0]⟩]
def l3 : List Cl := [⟨nx, 1, 1, [7]⟩, ⟨nx, 2, 2, [0, 0]⟩]
theorem nx_ok : nmok nx = true := by decide +kernel
theorem d1_ : declv 2 1 [] nx 1 1 = (0, l1) := by
 unfold declv
 rw [nx_ok]
 rfl
theorem d2_ : declv 2 1 l1 nx 2 2 = (0, l2) := by
 unfold declv
 rw [nx_ok]
 rfl
theorem d3_ : setv l2 nx 1 0 7 = (0, l3) := rfl
theorem d4_ : setv l3 nx 2 1 2 = (3, l3) := rfl
theorem d5_ : getv l3 nx 1 0 = (7, 0) := rfl
theorem d6_ : list l3 nx 2 = [0, 0] := rfl
theorem d7_ : (skeys l3).length = 2 := by unfold skeys; rw [List.length_mergeSort]; rfl
theorem nx_len : nx.size ≤ maxLen := by decide
theorem Fr.box {W W' : World} {g mb : Nat} {n e : Int} {cs : List Cl} {cb vb : Nat → Nat} {b t : Nat} {c : Array Value} (hT : IsT W g mb n e cs cb vb) (hF : Fr W W' mb cs vb) (hb : W.heap[b]? = some (.cells c t (0, 0))) (ht : t ≠ 33) : W'.heap[b]? = some (.cells c t (0, 0)) := by
 obtain ⟨row, hg, hr⟩ := hF
 refine (hg.block b (Array.getElem?_eq_some_iff.1 hb).1 (fun e => ?_)).trans hb
 rcases hr b e.symm with rfl | ⟨j, hj, rfl⟩
 ·exact hT.mp.ne hb rfl
 ·exact blk_ne hb (hT.vx j hj) ht rfl
theorem fr_below {W0 W W' : World} {g mb : Nat} {n e : Int} {cs : List Cl} {cb vb : Nat → Nat} (hb : Below W0.heap.size W0 W) (hF : Fr W W' mb cs vb) (hm : W0.heap.size ≤ mb) (hv : ∀ i, i < cs.length → W0.heap.size ≤ vb i) : Below W0.heap.size W0 W' := by
 obtain ⟨row, hg, hr⟩ := hF
 refine hb.trans ⟨hg.os, hg.tape, hg.output, hg.size, fun k hk => hg.block k (Nat.lt_of_lt_of_le hk hb.size) (fun e => ?_)⟩
 rcases hr k e.symm with rfl | ⟨j, hj, rfl⟩
 ·omega
 ·have := hv j hj; omega
set_option maxRecDepth 100000 in
set_option maxHeartbeats 4000000 in
theorem live_ok (w : World) : Calls Try.prog 11 #[] w fun e w' => e = .returned (.bool true) ∧ Below w.heap.size w w' := by
 go_enter Try.func11, Try.ntmps11
 go_wp2_with fail
 refine (new_ok 2 1 w in21).mono ?_
 rintro e w1 ⟨g, mb, rfl, hT, hgl, hml, hb1⟩
 have HT := Lib.hid hT
 have HB1 := Lib.hid hb1
 clear hT hb1 hgl
 go_wp2_with fail
 have hA := below_alloc (below_alloc (Below.refl _ w1) (.cells #[.string ⟨#[120]⟩, .int .u8 1] 25)) (.cells #[.string ⟨#[120]⟩, .int .u8 2] 25)
 have hx1 : ((w1.alloc (.cells #[.string ⟨#[120]⟩, .int .u8 1] 25)).alloc (.cells #[.string ⟨#[120]⟩, .int .u8 2] 25)).heap[w1.heap.size]? = some (.cells #[.string ⟨#[120]⟩, .int .u8 1] 25 (0, 0)) := (below_alloc (Below.refl _ _) _).block _ (by simp) |>.trans (heap_alloc_new w1 _)
 have hx2 : ((w1.alloc (.cells #[.string ⟨#[120]⟩, .int .u8 1] 25)).alloc (.cells #[.string ⟨#[120]⟩, .int .u8 2] 25)).heap[w1.heap.size + 1]? = some (.cells #[.string ⟨#[120]⟩, .int .u8 2] 25 (0, 0)) := by
  have := heap_alloc_new (w1.alloc (.cells #[.string ⟨#[120]⟩, .int .u8 1] 25)) (.cells #[.string ⟨#[120]⟩, .int .u8 2] 25)
  simpa using this
 have hlt1 : w1.heap.size < (w1.alloc (.cells #[.string ⟨#[120]⟩, .int .u8 1] 25)).heap.size + 1 := by simp; omega
 have hnmb : mb ≠ w1.heap.size ∧ mb ≠ w1.heap.size + 1 := by have := HT.out.mp.lt; omega
 have HT2 := Lib.hid (HT.out.below hA)
 have HA := Lib.hid hA
 obtain ⟨y, hy⟩ : ∃ y, y = (w1.alloc (.cells #[.string ⟨#[120]⟩, .int .u8 1] 25)).alloc (.cells #[.string ⟨#[120]⟩, .int .u8 2] 25) := ⟨_, rfl⟩
 rw [← hy] at HT2 HA hx1 hx2 ⊢
 clear hy hA
 refine ((decl_ok g mb 2 1 [] _ _ nx 1 1 y HT2.out in21 nx_len ⟨by omega, by omega⟩ (by simp))).mono ?_
 rw [d1_]
 rintro e w2 ⟨rfl, ⟨cb2, vb2, hT, h1, h2⟩, hF⟩
 have hk1 := Fr.box HT2.out hF hx1 (by decide)
 have hk2 := Fr.box HT2.out hF hx2 (by decide)
 have hB2 := fr_below (g := g) (n := 2) (e := 1) (cb := cb2) (HB1.out.trans (HA.out.mono HB1.out.size)) hF hml (fun i hi => by simp at hi)
 have hV2 : ∀ i, i < l1.length → w.heap.size ≤ vb2 i := fun i hi => Nat.le_trans (Nat.le_trans HB1.out.size HA.out.size) (h2 i (by simp) hi)
 have c1 : w2.cell? ⟨w1.heap.size, 0, none⟩ = some (.string ⟨#[120]⟩) := by rw [cell_of hk1]; rfl
 have c2 : w2.cell? ⟨w1.heap.size, 1, none⟩ = some (.int .u8 1) := by rw [cell_of hk1]; rfl
 have c3 : w2.cell? ⟨w1.heap.size + 1, 0, none⟩ = some (.string ⟨#[120]⟩) := by rw [cell_of hk2]; rfl
 have c4 : w2.cell? ⟨w1.heap.size + 1, 1, none⟩ = some (.int .u8 2) := by rw [cell_of hk2]; rfl
 have HK1 := Lib.hid hk1
 have HK2 := Lib.hid hk2
 have HB2 := Lib.hid hB2
 have HV2 := Lib.hid hV2
 have HT3 := Lib.hid hT
 clear hk1 hk2 hB2 hV2 hT h1 h2 hF hx1 hx2 c1 c2
 go_wp2_with fail
 refine ((decl_ok g mb 2 1 l1 _ _ nx 2 2 w2 HT3.out in21 nx_len ⟨by omega, by omega⟩ (by decide))).mono ?_
 rw [d2_]
 rintro e w3 ⟨rfl, ⟨cb3, vb3, hT, h1, h2⟩, hF⟩
 have hk1 := Fr.box HT3.out hF HK1.out (by decide)
 have hk2 := Fr.box HT3.out hF HK2.out (by decide)
 have hB3 := fr_below (g := g) (n := 2) (e := 1) (cb := cb2) HB2.out hF hml HV2.out
 have hV3 : ∀ i, i < l2.length → w.heap.size ≤ vb3 i := fun i hi => by
  by_cases q : i < l1.length
  ·rw [(h1 i q).2]; exact HV2.out i q
  ·exact Nat.le_trans HB2.out.size (h2 i (by omega) hi)
 have c1 : w3.cell? ⟨w1.heap.size, 0, none⟩ = some (.string ⟨#[120]⟩) := by rw [cell_of hk1]; rfl
 have c2 : w3.cell? ⟨w1.heap.size, 1, none⟩ = some (.int .u8 1) := by rw [cell_of hk1]; rfl
 have HK3 := Lib.hid hk1
 have HK4 := Lib.hid hk2
 have HB3 := Lib.hid hB3
 have HV3 := Lib.hid hV3
 have HT4 := Lib.hid hT
 clear hk1 hk2 hB3 hV3 hT h1 h2 hF c3 c4
 go_wp2_with fail
 refine (set_ok g mb 2 1 l2 _ _ nx 1 0 7 w3 HT4.out nx_len ⟨by omega, by omega⟩ (by decide)).mono ?_
 rw [d3_]
 rintro e w4 ⟨rfl, hT, hF⟩
 have hk1 := Fr.box HT4.out hF HK3.out (by decide)
 have hk2 := Fr.box HT4.out hF HK4.out (by decide)
 have hB4 := fr_below (g := g) (n := 2) (e := 1) (cb := cb2) HB3.out hF hml HV3.out
 have hV4 : ∀ i, i < l3.length → w.heap.size ≤ vb3 i := HV3.out
 have c3 : w4.cell? ⟨w1.heap.size + 1, 0, none⟩ = some (.string ⟨#[120]⟩) := by rw [cell_of hk2]; rfl
 have c4 : w4.cell? ⟨w1.heap.size + 1, 1, none⟩ = some (.int .u8 2) := by rw [cell_of hk2]; rfl
 have HK5 := Lib.hid hk1
 have HK6 := Lib.hid hk2
 have HB4 := Lib.hid hB4
 have HV4 := Lib.hid hV4
 have HT5 := Lib.hid hT
 clear hk1 hk2 hB4 hV4 hT hF c1 c2
 go_wp2_with fail
 refine (set_ok g mb 2 1 l3 _ _ nx 2 1 2 w4 HT5.out nx_len ⟨by omega, by omega⟩ (by decide)).mono ?_
 rw [d4_]
 rintro e w5 ⟨rfl, hT, hF⟩
 have hk1 := Fr.box HT5.out hF HK5.out (by decide)
 have hk2 := Fr.box HT5.out hF HK6.out (by decide)
 have hB5 := fr_below (g := g) (n := 2) (e := 1) (cb := cb2) HB4.out hF hml HV4.out
 have c1 : w5.cell? ⟨w1.heap.size, 0, none⟩ = some (.string ⟨#[120]⟩) := by rw [cell_of hk1]; rfl
 have c2 : w5.cell? ⟨w1.heap.size, 1, none⟩ = some (.int .u8 1) := by rw [cell_of hk1]; rfl
 have HK7 := Lib.hid hk2
 have HB5 := Lib.hid hB5
 have HT6 := Lib.hid hT
 clear hk1 hk2 hB5 hT hF c3 c4
 go_wp2_with fail
 refine (get_val g mb 2 1 l3 _ _ nx 1 0 w5 HT6.out nx_len ⟨by omega, by omega⟩).mono ?_
 rw [d5_]
 rintro e w6 ⟨rfl, hb⟩
 have HB6 := Lib.hid (below_then HB5.out HB5.out.size hb)
 have HT7 := Lib.hid (HT6.out.below hb)
 have hk2 := (hb.block _ (Array.getElem?_eq_some_iff.1 HK7.out).1).trans HK7.out
 have HK8 := Lib.hid hk2
 clear hb hk2 c1 c2
 go_wp2_with fail
 refine (keys_ok g mb 2 1 l3 _ _ w6 HT7.out (by decide)).mono ?_
 rintro e w7 ⟨v, rfl, hv, hb⟩
 obtain ⟨A, c, rfl⟩ := Kd.R_slice hv
 rw [d7_]
 have HB7 := Lib.hid (below_then HB6.out HB6.out.size hb)
 have HT8 := Lib.hid (HT7.out.below hb)
 have hk2 := (hb.block _ (Array.getElem?_eq_some_iff.1 HK8.out).1).trans HK8.out
 have c3 : w7.cell? ⟨w1.heap.size + 1, 0, none⟩ = some (.string ⟨#[120]⟩) := by rw [cell_of hk2]; rfl
 have c4 : w7.cell? ⟨w1.heap.size + 1, 1, none⟩ = some (.int .u8 2) := by rw [cell_of hk2]; rfl
 clear hb hk2 hv
 go_wp2_with fail
 refine (list_ok g mb 2 1 l3 _ _ nx 2 w7 HT8.out nx_len ⟨by omega, by omega⟩ (by decide)).mono ?_
 rw [d6_]
 rintro e w8 ⟨v, rfl, hv, hb⟩
 obtain ⟨A2, c2, rfl⟩ := Kd.R_slice hv
 have HB8 := Lib.hid (below_then HB7.out HB7.out.size hb)
 clear hb hv
 go_wp2_with fail
 go_ret
 exact ⟨rfl, HB8.out⟩
end Go.Proofs.Ytpcjppefopjngaa.C
end
section
/- What columns and the document's tell. -/
set_option linter.unusedSimpArgs false
set_option linter.unusedVariables false
namespace Go.Proofs.Ytpcjppefopjngaa.C
open Go.RowKit Go.Proofs.Ytpcjppefopjngaa.Sk Go.Proofs.Ytpcjppefopjngaa.PA Go.Proofs.Ytpcjppefopjngaa.Mp Go.Proofs.YtpcjppefopjngaaW.PrintWords Go.Proofs.YtpcjppefopjngaaW.PrintLast Go.Proofs.YtpcjppefopjngaaW.PrintMore
theorem R_cc {α : Type} {d : Kd α} {ty : Nat} {w : World} {b : Nat} {ok : Nat → Prop} {v : Value} {r : List α} (h : Kd.R d ty w b ok v r) : ∃ V cv, v = .slice V r.length cv ∧ Kd.C d w V r.length r ∧ r.length ≤ cv := by
 obtain ⟨V, cv, rfl⟩ := Kd.R_slice h
 obtain ⟨h1, h2, h3⟩ := Kd.R_reads' h
 exact ⟨V, cv, rfl, h3, h2⟩
section
variable {own bad : Nat → Prop} {W : World} {g r : Nat} {n e : Int} {rs : List Cl} {nm : ByteArray} {sd : Int}
theorem Sys.tList (h : Sys W own bad n e g r rs) (hn : nm.size ≤ maxLen) (hs : 0 ≤ sd ∧ sd ≤ 255) : Calls Try.prog 17 #[.pointer (some ⟨g, 0, none⟩), .agg #[.string nm, .int .u8 sd]] W fun e_ w' => ∃ A c, e_ = .returned (.slice A (list rs nm sd).length c) ∧ Kd.C (Kd.int .i64) w' A (list rs nm sd).length (list rs nm sd) ∧ (list rs nm sd).length ≤ c ∧ Below W.heap.size W w' := by
 obtain ⟨mb, cs, cb, vb, ps, A, c, hp, rfl, rfl⟩ := h
 refine (list_ok g mb n e cs cb vb nm sd W hp.t hn hs hp.lens.1).mono ?_
 rintro e_ w' ⟨v, rfl, hv, hb⟩
 rw [list_get, get_perm hp.wf hp.pm, ← list_get] at hv
 obtain ⟨V, cv, rfl, h1, h2⟩ := R_cc hv
 exact ⟨V, cv, rfl, h1, h2, hb⟩
theorem Sys.rList (h : Sys W own bad n e g r rs) : Calls Try.prog 38 #[.pointer (some ⟨r, 0, none⟩), .agg #[.string nm, .int .u8 sd]] W fun e_ w' => ∃ A c, e_ = .returned (.slice A (list rs nm sd).length c) ∧ Kd.C (Kd.int .i64) w' A (list rs nm sd).length (list rs nm sd) ∧ (list rs nm sd).length ≤ c ∧ Below W.heap.size W w' := by
 obtain ⟨mb, cs, cb, vb, ps, A, c, hp, rfl, rfl⟩ := h
 refine (rlist_ok r n e ps A c bad nm sd W hp.d (by have := hp.few.2; omega) hp.lens.2.1).mono ?_
 rintro e_ w' ⟨⟨v, rfl, hv⟩, hb⟩
 obtain ⟨V, cv, rfl, h1, h2⟩ := R_cc hv
 exact ⟨V, cv, rfl, h1, h2, hb⟩
theorem Sys.tKind (h : Sys W own bad n e g r rs) (hn : nm.size ≤ maxLen) (hs : 0 ≤ sd ∧ sd ≤ 255) : Calls Try.prog 19 #[.pointer (some ⟨g, 0, none⟩), .agg #[.string nm, .int .u8 sd]] W fun e_ w' => e_ = .returned (.int .u8 (kind rs nm sd)) ∧ Below W.heap.size W w' := by
 obtain ⟨mb, cs, cb, vb, ps, A, c, hp, rfl, rfl⟩ := h
 have := kind_ok g mb n e cs cb vb nm sd W hp.t hn hs
 rw [kind_get, get_perm hp.wf hp.pm, ← kind_get] at this
 exact this
theorem Sys.rKind (h : Sys W own bad n e g r rs) : Calls Try.prog 39 #[.pointer (some ⟨r, 0, none⟩), .agg #[.string nm, .int .u8 sd]] W fun e_ w' => e_ = .returned (.int .u8 (kind rs nm sd)) ∧ Below W.heap.size W w' := by
 obtain ⟨mb, cs, cb, vb, ps, A, c, hp, rfl, rfl⟩ := h
 exact rkind_ok r n e ps A c bad nm sd W hp.d (by have := hp.few.2; omega) hp.lens.2.1
theorem Sys.tGet (h : Sys W own bad n e g r rs) (hn : nm.size ≤ maxLen) (hs : 0 ≤ sd ∧ sd ≤ 255) (i : Int) : Calls Try.prog 14 #[.pointer (some ⟨g, 0, none⟩), .agg #[.string nm, .int .u8 sd], I i] W fun e_ w' => e_ = .returned (.tuple #[I (getv rs nm sd i).1, I (getv rs nm sd i).2]) ∧ Below W.heap.size W w' := by
 obtain ⟨mb, cs, cb, vb, ps, A, c, hp, rfl, rfl⟩ := h
 have := get_val g mb n e cs cb vb nm sd i W hp.t hn hs
 rw [getv_get, get_perm hp.wf hp.pm, ← getv_get] at this
 exact this
theorem Sys.rGet (h : Sys W own bad n e g r rs) (i : Int) : Calls Try.prog 15 #[.pointer (some ⟨r, 0, none⟩), .agg #[.string nm, .int .u8 sd], I i] W fun e_ w' => e_ = .returned (.tuple #[I (getv rs nm sd i).1, I (getv rs nm sd i).2]) ∧ Below W.heap.size W w' := by
 obtain ⟨mb, cs, cb, vb, ps, A, c, hp, rfl, rfl⟩ := h
 exact rget_ok r n e ps A c bad nm sd i W hp.d (by have := hp.few.2; omega) hp.lens.2.1
theorem Sys.tLen (h : Sys W own bad n e g r rs) (sd : Int) : Calls Try.prog 18 #[.pointer (some ⟨g, 0, none⟩), .int .u8 sd] W fun e_ w' => e_ = .returned (I (len n e sd)) ∧ w' = W := by
 obtain ⟨mb, cs, cb, vb, ps, A, c, hp, rfl, rfl⟩ := h
 exact len_ok g mb n e cs cb vb sd W hp.t
theorem Sys.rLen (h : Sys W own bad n e g r rs) (sd : Int) : Calls Try.prog 40 #[.pointer (some ⟨r, 0, none⟩), .int .u8 sd] W fun e_ w' => e_ = .returned (I (len n e sd)) ∧ w' = W := by
 obtain ⟨mb, cs, cb, vb, ps, A, c, hp, rfl, rfl⟩ := h
 exact rlen_ok r n e ps A c bad sd W hp.d
theorem Sys.tKeys (h : Sys W own bad n e g r rs) : Calls Try.prog 16 #[.pointer (some ⟨g, 0, none⟩)] W fun e_ w' => ∃ A c, e_ = .returned (.slice A rs.length c) ∧ Kd.C k25 w' A rs.length (rs.map Cl.k25) ∧ rs.length ≤ c ∧ Below W.heap.size W w' := by
 obtain ⟨mb, cs, cb, vb, ps, A, c, hp, rfl, rfl⟩ := h
 refine (keys_ok g mb n e cs cb vb W hp.t (by have := hp.few.1; omega)).mono ?_
 rintro e_ w' ⟨v, rfl, hv, hb⟩
 rw [keys_rel hp.wf hp.pm] at hv
 obtain ⟨V, cv, rfl, h1, h2⟩ := R_cc hv
 rw [List.length_map] at h1 h2 ⊢
 exact ⟨V, cv, rfl, h1, h2, hb⟩
theorem Sys.rKeys (h : Sys W own bad n e g r rs) : Calls Try.prog 35 #[.pointer (some ⟨r, 0, none⟩)] W fun e_ w' => ∃ A c, e_ = .returned (.slice A rs.length c) ∧ Kd.C k25 w' A rs.length (rs.map Cl.k25) ∧ rs.length ≤ c ∧ Below W.heap.size W w' := by
 obtain ⟨mb, cs, cb, vb, ps, A, c, hp, rfl, rfl⟩ := h
 refine (rkeys_ok r n e ps A c bad W hp.d (by have := hp.few.2; omega)).mono ?_
 rintro e_ w' ⟨⟨v, rfl, hv⟩, hb⟩
 obtain ⟨V, cv, rfl, h1, h2⟩ := R_cc hv
 rw [List.length_map] at h1 h2 ⊢
 exact ⟨V, cv, rfl, h1, h2, hb⟩
end
theorem sw_l0 (l : List Int) (hl : l.length ≤ 1000000) : ∀ (k i : Nat), l.length - i < k → reticuleref01_SameWords.l0 k l l (i : Int) = some true
 | 0, i, h => by omega
 | k + 1, i, h => by
  have hw : i < l.length → wrap64 ((i : Int) + 1) = ((i + 1 : Nat) : Int) := fun q => by unfold wrap64; omega
  rw [reticuleref01_SameWords.l0]
  by_cases q : i < l.length
  ·rw [if_pos (by omega), if_pos (by omega), if_pos (by omega), if_pos rfl, hw q]
   exact sw_l0 l hl k (i + 1) (by omega)
  ·rw [if_neg (by omega)]
theorem sw_f (l : List Int) (hl : l.length ≤ 1000000) : reticuleref01_SameWords.f (l.length + 1) l l = some true := by
 unfold reticuleref01_SameWords.f
 rw [if_pos rfl]
 exact sw_l0 l hl _ 0 (by omega)
theorem sk_l0 (l : List S25) (hl : l.length ≤ 1000000) : ∀ (k i : Nat), l.length - i < k → reticuleref04_SameKeys.l0 k l l (i : Int) = some true
 | 0, i, h => by omega
 | k + 1, i, h => by
  have hw : i < l.length → wrap64 ((i : Int) + 1) = ((i + 1 : Nat) : Int) := fun q => by unfold wrap64; omega
  rw [reticuleref04_SameKeys.l0]
  by_cases q : i < l.length
  ·rw [if_pos (by omega), if_pos (by omega), if_pos (by omega), if_neg (by simp), hw q]
   exact sk_l0 l hl k (i + 1) (by omega)
  ·rw [if_neg (by omega)]
theorem sk_f (l : List S25) (hl : l.length ≤ 1000000) : reticuleref04_SameKeys.f (l.length + 1) l l = some true := by
 unfold reticuleref04_SameKeys.f
 rw [if_pos rfl]
 exact sk_l0 l hl _ 0 (by omega)
theorem list_len {n e : Int} {rs : List Cl} (h : Wf n e rs) (hN : inN n e) (nm : ByteArray) (sd : Int) : (list rs nm sd).length ≤ 1000 := by
 rw [list_get]
 cases hg : get? rs nm sd with
 | none => simp
 | some c => exact okc_len hN (h.ok c (get_some hg).1)
/-! Rows of keys, made. -/
def E2 (x : S25) (cs : List Value) : Prop := cs = e2 x
theorem krow0_step {ops : Array Oper} {Q : Exit → Act → World → Prop} {o : Oper} {N : Option Tmp} {a : Act} {w : World} {K : Act → World → Prop} (hw : Region.wanted o (yielded ops a.tmps) = true) (hN : o.dst = N) (hop : o.op = .buildSlice 40 0 #[])
  (h : ∀ B w', w.heap.size ≤ B → B < w'.heap.size → Kd.R k25 25 w' w.heap.size (fun _ => True) (.slice (some ⟨B, 0, none⟩) 0 0) [] → Below w.heap.size w w' → K (a.put N (.slice (some ⟨B, 0, none⟩) 0 0)) w') :
  if Region.wanted o (yielded ops a.tmps) = true then Oper.wp Try.prog o a w K Q else K (a.put N undef) w := by
 refine value_ (w1 := w.alloc (.cells #[] 25)) (v := .slice (some ⟨w.heap.size, 0, none⟩) 0 0) hw hN ?_ (h _ _ (Nat.le_refl _) (by simp) (R_empty k25 25 w w.heap.size (Nat.le_refl _)) (below_alloc (Below.refl _ _) _))
 cases o
 simp only at hop
 subst hop
 go_simp
theorem krow1_step {ops : Array Oper} {Q : Exit → Act → World → Prop} {o : Oper} {N : Option Tmp} {a : Act} {w : World} {K : Act → World → Prop} {q : Nat} (x : S25) (hw : Region.wanted o (yielded ops a.tmps) = true) (hN : o.dst = N) (hop : o.op = .buildSlice 40 1 #[(0, .tmp q)]) (hx : a.tmps[q]? = some (.agg #[.string x.f0, .int .u8 x.f1]))
  (h : ∀ B w', w.heap.size ≤ B → B < w'.heap.size → w'.heap[B]? = some (.cells (e2 x).toArray 25 (0, 0)) → Below w.heap.size w w' → K (a.put N (.slice (some ⟨B, 0, none⟩) 1 1)) w') :
  if Region.wanted o (yielded ops a.tmps) = true then Oper.wp Try.prog o a w K Q else K (a.put N undef) w := by
 refine value_ (w1 := w.alloc (.cells (e2 x).toArray 25)) (v := .slice (some ⟨w.heap.size, 0, none⟩) 1 1) hw hN ?_ (h _ _ (Nat.le_refl _) (by simp) (by show (w.heap.push _)[w.heap.size]? = _; simp) (below_alloc (Below.refl _ _) _))
 cases o
 simp only at hop
 subst hop
 unfold e2
 go_simp
theorem kone_reads {w : World} {b : Nat} {x : S25} (h : w.heap[b]? = some (.cells (e2 x).toArray 25 (0, 0))) : ReadsRow E2 2 w (some ⟨b, 0, none⟩) 1 [x] := by
 refine ⟨rfl, by omega, fun _ => ⟨_, rfl, fun j q hj => ?_⟩⟩
 have hj0 : j = 0 := by
  have := (List.getElem?_eq_some_iff.1 hj).1
  simp at this; omega
 subst hj0
 simp at hj
 subst hj
 refine ⟨e2 x, rfl, rfl, fun i u hu => ?_⟩
 rw [add_plain, cell_of h]
 simpa using hu
theorem kC_reads {w : World} {A : Option Addr} {m : Nat} {l : List S25} (h : Kd.C k25 w A m l) : ReadsRow E2 2 w A m l := ReadsRow.imp_ h (Below.refl _ _) (fun x cs hp => k25_open hp)
structure FF (wy w' : World) (L : List S25) (x : S25) (v : Value) (b : Nat) : Prop where
 bl : Below wy.heap.size wy w'
 own : Kd.R k25 25 w' wy.heap.size (fun _ => True) v L
 box : w'.heap[b]? = some (.cells (e2 x).toArray 25 (0, 0))
theorem key_at {w : World} {A : Option Addr} {n : Nat} {xs : List S25} (h : Kd.C k25 w A n xs) {i : Nat} (hi : i < xs.length) : ∃ ad, A = some ad ∧ w.cell? (ad.add (i * 2)) = some (.string xs[i].f0) ∧ w.cell? ⟨(ad.add (i * 2)).block, (ad.add (i * 2)).off + 1, none⟩ = some (.int .u8 xs[i].f1) := by
 obtain ⟨ad, e, q0, q1⟩ := at_T25 h i (by omega) (by have := h.1; omega)
 rw [show rd_T25 xs i = xs[i] by simp [rd_T25, List.getD, List.getElem?_eq_getElem hi]] at q0 q1
 rw [show ((i : Int)).toNat = i by simp] at q0 q1
 exact ⟨ad, e, q0, q1⟩
end Go.Proofs.Ytpcjppefopjngaa.C
end
