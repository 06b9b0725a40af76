/- The walks of clash.Writes and clash.sorted. -/
import Derived.Test.YtgdpdigpbbjhpaaRh
import Derived.Test.YtgdpdigpbbjhpaaMpOwn
import Derived.Test.YtgdpdigpbbjhpaaIt
set_option linter.unusedSimpArgs false
set_option linter.unusedVariables false
namespace Go.Proofs.Ytgdpdigpbbjhpaa.C
open Go.RowKit Go.ChangeMaps Go.Maps Go.Sort Go.Shelf Go.Proofs.Ytgdpdigpbbjhpaa.PA Go.Proofs.Ytgdpdigpbbjhpaa.Mp Go.Proofs.YtgdpdigpbbjhpaaW.PrintWords
set_option maxHeartbeats 1000000 in
theorem sorted_own (b nn : Nat) (D0 : DataW Unit) (R : Value → Option (DataW Unit × List MemPlace)) (w : World) (hown : w.ownsMap Try.prog 9 R b nn D0) (hmax : Maps.size D0 ≤ maxLen) (hbytes : Maps.size D0 * 16 ≤ 140737488355328) :
    Calls Try.prog 17 #[.map (some b)] w fun e w' => ∃ (v : Value) (ss : List (List UInt8)), e = .returned v ∧ ss.Perm (strKeys D0) ∧
      w'.ownsRow w.heap.size 9 1 v ss.length ((ss.mergeSort leB).map encStr) ∧ Below w.heap.size w w' := by
  refine (callsIn_wide (n := 6)).1 ?_
  have hfK : Fence.wide.fn 21 := trivial
  have hfS : Fence.wide.fn 20 := trivial
  refine callsIn_of_wp Try.func17 rfl trivial ?_ rfl
  simp only [Try.ntmps17, List.size_toArray, List.length_cons, List.length_nil, Nat.reduceAdd, Nat.reduceSub, Array.replicate_succ, Array.replicate_zero, List.push_toArray, List.append_toArray, List.nil_append, List.cons_append]
  gi_wp2_with (first
    | (gi_at_call 21; refine (Try.maps_Keys_21 _ _).mono ?_; rintro e w' ⟨rfl, rfl⟩)
    | (gi_at_call 20; refine (Try.slices_Sorted_keys_20_21 b nn D0 R w hown hmax hbytes).mono ?_; rintro e w' ⟨v, ss, rfl, hS, hrow, hnil, hb⟩))
  go_ret
  exact ⟨v, ss, rfl, hS, ownsRow_base_a hrow (by simp), ((Below.refl _ w).alloc (Nat.le_refl _) _).trans (hb.mono (by simp))⟩
def nb (a : S39) : List UInt8 := a.f1.data.toList
/-- Names, each once, as they come. -/
def dn : List (List UInt8) → List S39 → List (List UInt8)
  | acc, [] => acc
  | acc, a :: l => if nb a ∈ acc then dn acc l else dn (acc ++ [nb a]) l
theorem dn_len : ∀ (l : List S39) (acc : List (List UInt8)), (dn acc l).length ≤ acc.length + l.length
  | [], acc => by simp [dn]
  | a :: l, acc => by
    rw [dn]
    split
    · have := dn_len l acc; simp; omega
    · have := dn_len l (acc ++ [nb a]); simp at this ⊢; omega
def ents (acc : List (List UInt8)) : List (Value × Value) := acc.map fun s => (encStr s, .bool true)
theorem enc_nb (a : S39) : encStr (nb a) = .string a.f1 := by unfold encStr nb; simp
def toB (s : List UInt8) : ByteArray := ⟨s.toArray⟩
def clash_Writes.f (l : List S39) : Option (List ByteArray) := if (∀ a ∈ l, a.f1.size ≤ maxLen) ∧ l.length ≤ 1000000 then some (((dn [] l).mergeSort leB).map toB) else none
theorem reps_strs {w : World} {base : Nat} {ok : Nat → Prop} : ∀ (l : List (List UInt8)), Reps (Kd.M Kd.string w base ok) 1 (l.map toB) (l.map encStr)
  | [] => Reps.none _ _
  | s :: l => by
    have : Reps (Kd.M Kd.string w base ok) 1 [toB s] [encStr s] := by
      have := (Reps.none (Kd.M Kd.string w base ok) 1).snoc (p := toB s) (c := [encStr s]) (show Kd.M Kd.string w base ok (toB s) [encStr s] from rfl) rfl
      simpa using this
    exact Kd.reps_append this (reps_strs l)
set_option maxRecDepth 100000 in
set_option maxHeartbeats 4000000 in
theorem clash_Writes.calls (A0 : Option Addr) (c0 : Nat) (l0 : List S39) (r : List ByteArray) (w : World) (hr0 : Kd.C k39 w A0 l0.length l0) (hc0 : l0.length ≤ c0) (h : clash_Writes.f l0 = some r) :
    Calls Try.prog 12 #[.slice A0 l0.length c0] w fun e w' => ∃ v0_ : Value, e = .returned v0_ ∧ Kd.R Kd.string 9 w' w.heap.size (fun _ => True) v0_ r ∧ Below w.heap.size w w' := by
  unfold clash_Writes.f at h
  split at h
  · rename_i hq
    obtain ⟨hwf, hll⟩ := hq
    injection h with h
    have HRR := Lib.hid h
    have HR := Lib.hid hr0
    have HW := Lib.hid hwf
    clear hr0 hwf h
    have hmm := mkmap 47
    go_enter Try.func12, Try.ntmps12
    go_wp2
    have hM0 : MapIs Try.prog 9 (w.alloc (.map #[] 0)) w.heap.size (ents []) := MapIs.made w
    have hB0 : Below w.heap.size w (w.alloc (.map #[] 0)) := (Below.refl _ w).alloc (Nat.le_refl _) _
    generalize w.alloc (.map #[] 0) = W0 at hM0 hB0 ⊢
    have HM0 := Lib.hid hM0
    have HB0 := Lib.hid hB0
    clear hM0 hB0 hmm
    go_loopw [9] (fun v9 wr => ∃ (i : Nat) (acc : List (List UInt8)), i ≤ l0.length ∧ v9 = .int .i64 i ∧ dn acc (l0.drop i) = dn [] l0 ∧ acc.length ≤ i ∧ (∀ s ∈ acc, s.length ≤ maxLen) ∧ MapIs Try.prog 9 wr w.heap.size (ents acc) ∧ Below w.heap.size w wr) (fun v9 _ => l0.length - (intOf v9).toNat)
    case atStart => exact ⟨0, [], Nat.zero_le _, rfl, by rw [List.drop_zero], Nat.zero_le _, (fun s hs => by cases hs), HM0.out, HB0.out⟩
    case round =>
      obtain ⟨i, acc, hi, rfl, hd, hal, hac, hM, hb⟩ := hrel
      by_cases hlt : i < l0.length
      · have di : decide (i < l0.length) = true := decide_eq_true hlt
        obtain ⟨ad, rfl, e0, e1, e2, e3, e4, e5⟩ := act_at HR.out hlt
        have hsz := HW.out _ (List.getElem_mem hlt)
        have q0 := (hb.cell (World.block_lt_of_cell? _ _ e0)).trans e0
        have q1 := (hb.cell (World.block_lt_of_cell? _ _ e1)).trans e1
        have q2 := (hb.cell (World.block_lt_of_cell? _ _ e2)).trans e2
        have q3 := (hb.cell (World.block_lt_of_cell? _ _ e3)).trans e3
        have q4 := (hb.cell (World.block_lt_of_cell? _ _ e4)).trans e4
        have q5 := (hb.cell (World.block_lt_of_cell? _ _ e5)).trans e5
        rw [List.drop_eq_getElem_cons hlt, dn] at hd
        obtain ⟨x, hx⟩ : ∃ x, x = l0[i] := ⟨_, rfl⟩
        rw [← hx] at q0 q1 q2 q3 q4 q5 hd hsz
        have hnl : (nb x).length ≤ maxLen := by unfold nb; rw [Array.length_toList]; exact hsz
        have HB := Lib.hid hb
        clear hb e0 e1 e2 e3 e4 e5 hx
        have hA : Below wr.heap.size wr (wr.alloc (.cells #[.int .u8 x.f0, .string x.f1, .int .u8 x.f2, .bool x.f3, .int .i64 x.f4, .int .i64 x.f5] 39)) := below_alloc (Below.refl _ _) _
        have hMx := hM.below hA
        have hkey := key9 hsz
        by_cases hin : nb x ∈ acc
        · rw [if_pos hin] at hd
          obtain ⟨j, hj⟩ := List.getElem?_of_mem hin
          have hj' : (ents acc)[j]? = some (.string x.f1, .bool true) := by unfold ents; rw [List.getElem?_map, hj]; show some (encStr (nb x), _) = _; rw [enc_nb]
          obtain ⟨w5, hup, hM5, hg5⟩ := update_old keyed9 Try.underlying47 hMx (val := .bool true) hj'
          have hset : (ents acc).set j (.string x.f1, .bool true) = ents acc := by
            rw [← (List.getElem?_eq_some_iff.1 hj').2]
            exact List.set_getElem_self (List.getElem?_eq_some_iff.1 hj').1
          rw [hset] at hM5
          have hB5 : Below w.heap.size w w5 := (below_then HB.out HB.out.size hA).grown hg5 (by have := HB.out.size; simp; omega) (fun k hk => by injection hk with hk; omega)
          have HM5 := Lib.hid hM5
          have HB5 := Lib.hid hB5
          have HD2 := Lib.hid hd
          have HC2 := Lib.hid hac
          clear hd hM hMx hA hkey hin hj hj' hset hM5 hg5 hB5 hac hsz hnl
          go_wp2_with fail
          exact ⟨⟨i + 1, acc, by omega, by go_num, HD2.out, by omega, HC2.out, HM5.out, HB5.out⟩, by simp [intOf]; omega⟩
        · rw [if_neg hin] at hd
          have hn : ∀ p ∈ ents acc, p.1 ≠ .string x.f1 := fun p hp e => by
            obtain ⟨s, hs, rfl⟩ := List.mem_map.1 hp
            have e : encStr s = .string x.f1 := e
            rw [← enc_nb] at e
            exact hin ((encStr_inj e) ▸ hs)
          obtain ⟨w5, hup, hM5, hg5⟩ := update_new keyed9 Try.underlying47 hMx (val := .bool true) hkey hn
          have hB5 : Below w.heap.size w w5 := (below_then HB.out HB.out.size hA).grown hg5 (by have := HB.out.size; simp; omega) (fun k hk => by injection hk with hk; omega)
          have hm5 : MapIs Try.prog 9 w5 w.heap.size (ents (acc ++ [nb x])) := by
            have : ents (acc ++ [nb x]) = ents acc ++ [(.string x.f1, .bool true)] := by unfold ents; rw [List.map_append]; simp [enc_nb]
            rw [this]; exact hM5
          have hac' : ∀ s ∈ acc ++ [nb x], s.length ≤ maxLen := fun s hs => by
            rcases List.mem_append.1 hs with hs | hs
            · exact hac s hs
            · rw [List.mem_singleton.1 hs]; exact hnl
          have HM5 := Lib.hid hm5
          have HB5 := Lib.hid hB5
          have HD2 := Lib.hid hd
          have HC2 := Lib.hid hac'
          clear hd hM hMx hA hkey hin hn hM5 hm5 hg5 hB5 hac hac' hsz hnl
          go_wp2_with fail
          exact ⟨⟨i + 1, acc ++ [nb x], by omega, by go_num, HD2.out, by simp; omega, HC2.out, HM5.out, HB5.out⟩, by simp [intOf]; omega⟩
      · have di : decide (i < l0.length) = false := decide_eq_false hlt
        obtain rfl : i = l0.length := by omega
        rw [List.drop_length, dn] at hd
        subst hd
        have hlen := dn_len l0 []
        simp only [List.length_nil, Nat.zero_add] at hlen
        obtain ⟨D, hown, hsize, ks, hks, hke⟩ := hM.owns (R := plainElem Try.prog 4) (by simp [ents]; unfold maxLen; omega) (fun p hp => by
          obtain ⟨s, hs, rfl⟩ := List.mem_map.1 hp
          have := key9 (s := toB s) (by show s.toArray.size ≤ _; simp; exact hac s hs)
          exact ⟨s, rfl, by show keyOf _ _ (.string (toB s)) = _; rw [this]; simp [toB]⟩) (fun p hp => by
          obtain ⟨s, hs, rfl⟩ := List.mem_map.1 hp
          exact ⟨_, plainElem_bool Try.underlying4 true⟩)
        have hkk : ks = dn [] l0 := by
          have : (ents (dn [] l0)).map (·.1) = (dn [] l0).map encStr := by unfold ents; rw [List.map_map]; rfl
          rw [this] at hke
          exact ((List.map_inj_right (f := encStr) (fun x y h => encStr_inj h)).1 hke).symm
        subst hkk
        have HO := Lib.hid hown
        have HS := Lib.hid hsize
        have HK := Lib.hid hks
        have HB := Lib.hid hb
        have hel : (ents (dn [] l0)).length = (dn [] l0).length := by simp [ents]
        clear hM hb hown hsize hks hke
        go_wp2_with fail
        with_reducible refine (sorted_own _ _ D _ _ HO.out (by rw [HS.out, hel]; unfold maxLen; omega) (by rw [HS.out, hel]; omega)).mono ?_
        rintro e w1 ⟨v, ss, rfl, hperm, hrow, hb1⟩
        have hms := mergeSort_of_perm (hperm.trans HK.out)
        have HRow := Lib.hid hrow
        have HMs := Lib.hid hms
        have HB1 := Lib.hid (below_then HB.out HB.out.size hb1)
        have HSz := Lib.hid HB.out.size
        clear hperm hrow hms hb1
        go_wp2
        go_ret
        refine ⟨_, rfl, ⟨fun _ _ => trivial, (ss.mergeSort leB).map encStr, ?_, ?_⟩, HB1.out⟩
        · have : r.length = ss.length := by rw [← HRR.out, List.length_map, ← HMs.out]; simp
          rw [this]
          exact ownsRow_base_a HRow.out HSz.out
        · rw [← HRR.out, ← HMs.out]
          exact reps_strs _
  · cases h
end Go.Proofs.Ytgdpdigpbbjhpaa.C
