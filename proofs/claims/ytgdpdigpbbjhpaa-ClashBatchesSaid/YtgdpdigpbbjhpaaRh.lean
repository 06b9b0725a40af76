/- The walk of clash.Region. -/
import Derived.Test.YtgdpdigpbbjhpaaRg
set_option linter.unusedSimpArgs false
set_option linter.unusedVariables false
namespace Go.Proofs.Ytgdpdigpbbjhpaa.C
open Go.RowKit Go.ChangeMaps Go.Maps Go.Proofs.Ytgdpdigpbbjhpaa.PA Go.Proofs.Ytgdpdigpbbjhpaa.Mp Go.Proofs.YtgdpdigpbbjhpaaW.PrintWords
set_option maxRecDepth 100000 in
set_option maxHeartbeats 4000000 in
theorem region_ok (A : Option Addr) (c : Nat) (l : List S39) (w : World) (hr : Kd.C k39 w A l.length l) (hc : l.length ≤ c) (hwf : ∀ a ∈ l, a.f1.size ≤ maxLen) :
    Calls Try.prog 8 #[.slice A l.length c] w fun e w' => e = .returned (.tuple #[.int .i64 (rgn [] l).1, .int .i64 (rgn [] l).2]) ∧ Below w.heap.size w w' := by
  have hmaxl : l.length ≤ 9223372036854775807 := hr.2.1
  have HR := Lib.hid hr
  have HW := Lib.hid hwf
  clear hr hwf
  have hmm := mkmap 43
  go_enter Try.func8, Try.ntmps8
  go_wp2
  have hM0 : MapIs Try.prog 9 (w.alloc (.map #[] 0)) w.heap.size [] := MapIs.made w
  have hB0 : Below w.heap.size w (w.alloc (.map #[] 0)) := (Below.refl _ w).alloc (Nat.le_refl _) _
  generalize w.alloc (.map #[] 0) = W0 at hM0 hB0 ⊢
  have HM0 := Lib.hid hM0
  have HB0 := Lib.hid hB0
  clear hM0 hB0 hmm
  go_loopw [13] (fun v13 wr => ∃ (i : Nat) (m : List (Value × Value)), i ≤ l.length ∧ v13 = .int .i64 i ∧ rgn (l.take i) (l.drop i) = rgn [] l ∧ MapIs Try.prog 9 wr w.heap.size m ∧ Inv (l.take i) m ∧ Below w.heap.size w wr) (fun v13 _ => l.length - (intOf v13).toNat)
  case atStart => exact ⟨0, [], Nat.zero_le _, rfl, by rw [List.drop_zero, List.take_zero], HM0.out, ⟨fun b hb => by simp at hb, fun p hp => by cases hp⟩, HB0.out⟩
  case round =>
    obtain ⟨i, m, hi, rfl, hd, hM, hI, hb⟩ := hrel
    by_cases hlt : i < l.length
    · have di : decide (i < l.length) = true := decide_eq_true hlt
      obtain ⟨ad, rfl, e0, e1, e2, e3, e4, e5⟩ := act_at HR.out hlt
      have hsz := HW.out _ (List.getElem_mem hlt)
      have q0 := (hb.cell (World.block_lt_of_cell? _ _ e0)).trans e0
      have q1 := (hb.cell (World.block_lt_of_cell? _ _ e1)).trans e1
      have q2 := (hb.cell (World.block_lt_of_cell? _ _ e2)).trans e2
      have q3 := (hb.cell (World.block_lt_of_cell? _ _ e3)).trans e3
      have q4 := (hb.cell (World.block_lt_of_cell? _ _ e4)).trans e4
      have q5 := (hb.cell (World.block_lt_of_cell? _ _ e5)).trans e5
      rw [List.drop_eq_getElem_cons hlt, rgn] at hd
      have htk : l.take (i + 1) = l.take i ++ [l[i]] := by rw [List.take_add_one, List.getElem?_eq_getElem hlt]; rfl
      have htl : (l.take i).length = i := by rw [List.length_take]; omega
      rw [htl, ← htk] at hd
      obtain ⟨x, hx⟩ : ∃ x, x = l[i] := ⟨_, rfl⟩
      rw [← hx] at q0 q1 q2 q3 q4 q5 hd hsz htk
      have HM := Lib.hid hM
      have HI := Lib.hid hI
      have HB := Lib.hid hb
      have HD := Lib.hid hd
      have HS := Lib.hid hsz
      have HT := Lib.hid htk
      clear hM hI hb hd e0 e1 e2 e3 e4 e5 hx hsz htk htl
      obtain ⟨px, hpx⟩ : ∃ px, (x.f0 == 1) = px := ⟨_, rfl⟩
      have hA : Below wr.heap.size wr ((wr.alloc (.cells #[.int .u8 x.f0, .string x.f1, .int .u8 x.f2, .bool x.f3, .int .i64 x.f4, .int .i64 x.f5] 39)).alloc (.cells #[.bool px, .int .u8 x.f2] 45)) := below_alloc (below_alloc (Below.refl _ _) _) _
      have hMx := HM.out.below hA
      have hkey := key9 HS.out
      by_cases hin : ∃ p ∈ m, p.1 = nk x
      · obtain ⟨p, hp, hpk⟩ := hin
        obtain ⟨b, hb, rfl⟩ := HI.out.bwd p hp
        have hbn : b.f1 = x.f1 := nk_inj hpk
        obtain ⟨j, hj⟩ := List.getElem?_of_mem hp
        have hj' : m[j]? = some (.string x.f1, .agg #[.bool (b.f0 == 1), .int .u8 b.f2]) := by rw [hj]; unfold nk wy; rw [hbn]
        have hlk := lookup_some keyed9 Try.underlying43 hMx hj' true
        simp only [if_true] at hlk
        have hhit := HI.out.hit HM.out.apart hb hbn
        have hM3 : MapIs Try.prog 9 (((wr.alloc (.cells #[.int .u8 x.f0, .string x.f1, .int .u8 x.f2, .bool x.f3, .int .i64 x.f4, .int .i64 x.f5] 39)).alloc (.cells #[.bool px, .int .u8 x.f2] 45)).alloc (.cells #[.bool px, .int .u8 x.f2] 45)) w.heap.size m := HM.out.below (below_alloc hA _)
        obtain ⟨w5, hup, hM5, hg5⟩ := update_old keyed9 Try.underlying43 hM3 (val := .agg #[.bool px, .int .u8 x.f2]) hj'
        have hB5 : Below w.heap.size w w5 := (below_then HB.out HB.out.size (below_alloc hA _)).grown hg5 (by have := HB.out.size; simp; omega) (fun k hk => by injection hk with hk; omega)
        have HBx : Hid (Below w.heap.size w ((wr.alloc (.cells #[.int .u8 x.f0, .string x.f1, .int .u8 x.f2, .bool x.f3, .int .i64 x.f4, .int .i64 x.f5] 39)).alloc (.cells #[.bool px, .int .u8 x.f2] 45))) := Lib.hid (below_then HB.out HB.out.size hA)
        have HB2 : Hid (b ∈ l.take i) := Lib.hid hb
        have HH := Lib.hid hhit
        have HBN := Lib.hid hbn
        have HJ := Lib.hid hj'
        have HM5 := Lib.hid hM5
        have HB5 := Lib.hid hB5
        clear hb hbn hj hj' hp hpk hkey hhit hM3 hM5 hg5 hB5 hMx hA
        obtain ⟨t, ht⟩ : ∃ t, t = (b.f0 == 1) := ⟨_, rfl⟩
        obtain ⟨q, hq⟩ : ∃ q, q = b.f2 := ⟨_, rfl⟩
        rw [← ht, ← hq] at hlk
        have HT1 := Lib.hid ht
        have HQ1 := Lib.hid hq
        clear ht hq
        cases px with
        | true =>
          have hh : Hit (l.take i) x := HH.out.2 (.inr (by simpa using hpx))
          have hd := HD.out
          rw [if_pos hh] at hd
          have HD2 := Lib.hid hd
          clear hd hh
          go_wp2_with fail
          all_goals
            go_ret2
            exact ⟨by rw [← HD2.out]; rfl, below_then HBx.out HBx.out.size (below_alloc (Below.refl _ _) _)⟩
        | false =>
          by_cases hq : t = false ∧ q = x.f2
          · obtain ⟨h1, h2⟩ := hq
            have h1' : (b.f0 == 1) = (x.f0 == 1) := by rw [hpx, ← HT1.out]; exact h1
            have h2' : b.f2 = x.f2 := by rw [← HQ1.out]; exact h2
            have hh : ¬ Hit (l.take i) x := fun q => (HH.out.1 q).elim (fun q => q ⟨h1', h2'⟩) (fun q => by simp [q] at hpx)
            have hd := HD.out
            rw [if_neg hh] at hd
            have hset : m.set j (.string x.f1, .agg #[.bool false, .int .u8 x.f2]) = m := by
              have := HJ.out
              rw [h1', h2', hpx] at this
              rw [← (List.getElem?_eq_some_iff.1 this).2]
              exact List.set_getElem_self (List.getElem?_eq_some_iff.1 this).1
            have hm5 := HM5.out
            rw [hset] at hm5
            have HM6 := Lib.hid hm5
            have HD2 := Lib.hid hd
            have HS2 := Lib.hid (HI.out.same HB2.out HBN.out ⟨h1', h2'⟩)
            clear HM5 HT1 HQ1
            subst h1 h2
            clear hd hh hset hm5 h1' h2'
            go_wp2_with fail
            exact ⟨⟨i + 1, m, by omega, by go_num, HD2.out, HM6.out, by rw [HT.out]; exact HS2.out, HB5.out⟩, by simp [intOf]; omega⟩
          · have hh : Hit (l.take i) x := HH.out.2 (.inl fun z => hq ⟨by rw [HT1.out, z.1, hpx], by rw [HQ1.out]; exact z.2⟩)
            have hd := HD.out
            rw [if_pos hh] at hd
            have HD2 := Lib.hid hd
            have HQ := Lib.hid hq
            clear hd hh hq
            go_wp2_with fail
            all_goals first
              | exact absurd ⟨by simpa using ‹¬ t = true›, ‹q = x.f2›⟩ HQ.out
              | (go_ret2; exact ⟨by rw [← HD2.out]; rfl, below_then HBx.out HBx.out.size (below_alloc (Below.refl _ _) _)⟩)
      · have hn : ∀ p ∈ m, p.1 ≠ .string x.f1 := fun p hp e => hin ⟨p, hp, e⟩
        have hh : ¬ Hit (l.take i) x := HI.out.none hn
        have hd := HD.out
        rw [if_neg hh] at hd
        have hlk := lookup_none keyed9 Try.underlying43 hMx (zero45 _) hkey hn true
        simp only [if_true] at hlk
        have hM3 : MapIs Try.prog 9 (((wr.alloc (.cells #[.int .u8 x.f0, .string x.f1, .int .u8 x.f2, .bool x.f3, .int .i64 x.f4, .int .i64 x.f5] 39)).alloc (.cells #[.bool px, .int .u8 x.f2] 45)).alloc (.cells #[.bool false, .int .u8 0] 45)) w.heap.size m := HM.out.below (below_alloc hA _)
        obtain ⟨w5, hup, hM5, hg5⟩ := update_new keyed9 Try.underlying43 hM3 (val := .agg #[.bool px, .int .u8 x.f2]) hkey hn
        have hB5 : Below w.heap.size w w5 := (below_then HB.out HB.out.size (below_alloc hA _)).grown hg5 (by have := HB.out.size; simp; omega) (fun k hk => by injection hk with hk; omega)
        have HM5 := Lib.hid hM5
        have HB5 := Lib.hid hB5
        have HD2 := Lib.hid hd
        clear hin hn hh hd hkey hM3 hM5 hg5 hB5 hMx hA
        go_wp2_with fail
        exact ⟨⟨i + 1, _, by omega, by go_num, HD2.out, HM5.out, by rw [HT.out]; have := HI.out.add x; unfold nk wy at this; rw [hpx] at this; exact this, HB5.out⟩, by simp [intOf]; omega⟩
    · have di : decide (i < l.length) = false := decide_eq_false hlt
      obtain rfl : i = l.length := by omega
      rw [List.drop_length, rgn] at hd
      have HB := Lib.hid hb
      have HD := Lib.hid hd
      clear hM hI hb hd
      go_wp2
      go_ret2
      exact ⟨by rw [← HD.out]; rfl, HB.out⟩
theorem clash_Region.calls (A0 : Option Addr) (c0 : Nat) (l0 : List S39) (r1 r2 : Int) (w : World) (hr0 : Kd.C k39 w A0 l0.length l0) (hc0 : l0.length ≤ c0) (h : clash_Region.f l0 = some (r1, r2)) :
    Calls Try.prog 8 #[.slice A0 l0.length c0] w fun e w' => e = .returned (.tuple #[.int .i64 r1, .int .i64 r2]) ∧ Below w.heap.size w w' := by
  unfold clash_Region.f at h
  split at h
  · rename_i hw
    injection h with h
    have := region_ok A0 c0 l0 w hr0 hc0 hw
    rw [h] at this
    exact this
  · cases h
end Go.Proofs.Ytgdpdigpbbjhpaa.C
