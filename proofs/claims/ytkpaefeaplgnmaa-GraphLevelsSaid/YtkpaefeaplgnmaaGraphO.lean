/- The walk of GraphOnce: out of all nodes are all edges, each once. -/
import Derived.Test.YtkpaefeaplgnmaaOnceLib
import Derived.Deep.QuietTactic
import Derived.BigQuiet
import Derived.IntWalk
set_option linter.unusedSimpArgs false
set_option linter.unusedVariables false
namespace Go.Proofs.Ytkpaefeaplgnmaa.G
open Go.RowKit Go.Proofs.Ytkpaefeaplgnmaa.PA Go.Proofs.Ytkpaefeaplgnmaa.Mp Go.Proofs.YtkpaefeaplgnmaaW.PrintWords Go.Proofs.YtkpaefeaplgnmaaW.PrintLast Go.Proofs.YtkpaefeaplgnmaaW.PrintMore

/-- The places told so far. -/
structure On (w1 wr : World) (go m : Nat) (f : Nat → Int) (X Y : Value) (xs ys : List Int) : Prop where
  ot : wr.heap[go]? = some (.cells (((List.range m).map f).map I).toArray 3 (0, 0))
  bg : Below w1.heap.size w1 wr
  rx : Kd.R (Kd.int .i64) 3 wr 0 (fun k => k ≠ go) X xs
  ry : Kd.R (Kd.int .i64) 3 wr 0 (fun k => k ≠ go) Y ys
  gg : w1.heap.size ≤ go
section
variable {w1 wr w' : World} {go m : Nat} {f f' : Nat → Int} {X Y : Value} {xs ys : List Int}
theorem On.lt (h : On w1 wr go m f X Y xs ys) : go < wr.heap.size := (Array.getElem?_eq_some_iff.1 h.ot).1
theorem On.below (h : On w1 wr go m f X Y xs ys) (hb : Below wr.heap.size wr w') : On w1 w' go m f X Y xs ys :=
  ⟨(hb.block go h.lt).trans h.ot, below_then h.bg h.bg.size hb, Kd.R_below h.rx hb, Kd.R_below h.ry hb, h.gg⟩
theorem On.set (h : On w1 wr go m f X Y xs ys) (x : Nat) (a : Int) (hf : ∀ t, t < m → f' t = if t = x then a else f t) : On w1 (wr.setCell ⟨go, x, none⟩ (.int .i64 a)) go m f' X Y xs ys := by
  refine ⟨?_, h.bg.setCell (p := ⟨go, x, none⟩) h.gg _, Kd.R_far h.rx (fun k hk => hk) _, Kd.R_far h.ry (fun k hk => hk) _, h.gg⟩
  rw [heap_setCell_same wr go x _ 3 _ h.ot, List.setIfInBounds_toArray, ← range_set f m x a f' hf]
  simp [I, List.map_set]
theorem On.cell (h : On w1 wr go m f X Y xs ys) {x : Nat} (hx : x < m) : wr.cell? ⟨go, x, none⟩ = some (.int .i64 (f x)) := by
  rw [cell_of h.ot]
  simp [hx, I]
theorem On.free (h : On w1 wr go m f X Y xs ys) (x : Nat) : wr.frozen? ⟨go, x, none⟩ = false := by simp [World.frozen?, h.ot]
theorem On.eq (h : On w1 wr go m f X Y xs ys) (hf : ∀ t, t < m → f' t = f t) : On w1 wr go m f' X Y xs ys := by
  have : (List.range m).map f' = (List.range m).map f := List.map_congr_left (fun t ht => hf t (List.mem_range.1 ht))
  exact ⟨by rw [this]; exact h.ot, h.bg, h.rx, h.ry, h.gg⟩
end
theorem add_two (ad : Addr) (a b : Nat) : (ad.add a).add b = ad.add (a + b) := by
  unfold Addr.add
  by_cases h1 : a = 0
  · subst h1; simp
  · by_cases h2 : b = 0
    · subst h2; simp
    · rw [if_neg h1, if_neg h2, if_neg (by omega)]
      simp; omega
/-- A cut out of a row of numbers. -/
theorem C_cut {w : World} {A : Option Addr} {n : Nat} {xs : List Int} (h : Kd.C (Kd.int .i64) w A n xs) (a b cap : Nat) (hk : a + b ≤ xs.length) (hc : n ≤ cap) : Kd.C (Kd.int .i64) w (if cap = a then A else A.map (·.add (a * 1))) b ((xs.drop a).take b) := by
  have hn : xs.length = n := h.1
  refine ⟨by simp; omega, by have := h.2.1; omega, fun hp => ?_⟩
  obtain ⟨ad, rfl, hcl⟩ := h.2.2 (by omega)
  rw [if_neg (by omega)]
  refine ⟨ad.add (a * 1), rfl, fun j p hj => ?_⟩
  rw [List.getElem?_take] at hj
  split at hj
  · rw [List.getElem?_drop] at hj
    obtain ⟨c, h1, h2, h3⟩ := hcl (a + j) p hj
    refine ⟨c, h1, h2, fun i u hu => ?_⟩
    rw [add_two, show a * 1 + (j * (Kd.int .i64).sz + i) = (a + j) * (Kd.int .i64).sz + i from by rw [show (Kd.int .i64).sz = 1 from rfl]; omega]
    exact h3 i u hu
  · cases hj
theorem Gn.of {w : World} {g n : Nat} {l : List S53} (h : IsG w g n l) : Gn w true (some ⟨g, 0, none⟩) n l := ⟨g, rfl, h⟩
theorem cols_mono (l : List S53) {a b : Nat} (h : a ≤ b) : (colsN l a).length ≤ (colsN l b).length := by
  obtain ⟨d, rfl⟩ : ∃ d, b = a + d := ⟨b - a, by omega⟩
  clear h
  induction d with
  | zero => exact Nat.le_refl _
  | succ d ih => rw [← Nat.add_assoc, cols_succ, List.length_append]; omega
theorem outs_at (l : List S53) (n v : Nat) (h : v < n) : outs true n l (v : Int) = rw_ l (.o v) := by simp [outs, h]
theorem ins_at (l : List S53) (n v : Nat) (h : v < n) : ins true n l (v : Int) = rw_ l (.i v) := by simp [ins, h]
theorem take_count (a : List Int) (i : Nat) (hi : i < a.length) (x t : Nat) (hx : a[i] = (x : Int)) : (a.take (i + 1)).count (t : Int) = if t = x then (a.take i).count (t : Int) + 1 else (a.take i).count (t : Int) := by
  rw [List.take_succ_eq_append_getElem hi, List.count_append, hx, List.count_singleton]
  by_cases e : t = x
  · subst e; simp
  · have : ¬ ((x : Int) = (t : Int)) := by omega
    simp [e, this]
theorem R_ok {w : World} {base go : Nat} {v : Value} {xs : List Int} (h : Kd.R (Kd.int .i64) 3 w base (fun _ => True) v xs) (hg : go < base) : Kd.R (Kd.int .i64) 3 w 0 (fun k => k ≠ go) v xs :=
  Kd.R_lower (Kd.R_mono (Kd.R_bound h) (fun k hk => by have := hk.2.1; omega)) (Nat.zero_le _)
theorem zeros_tot (l : List S53) (m : Nat) : ((List.range m).map (tot l 0)).map I = List.replicate m (I 0) := by
  apply List.ext_getElem
  · simp
  · intro i h1 h2
    simp [tot_zero]
theorem C_take {w : World} {A : Option Addr} {l : List S53} (h : Kd.C k53 w A l.length l) : Kd.C k53 w A (l.take 32).length (l.take 32) := by
  refine ⟨rfl, Nat.le_trans (by simp; omega) h.2.1, fun hp => ?_⟩
  obtain ⟨ad, rfl, hc⟩ := h.2.2 (by simp at hp; omega)
  refine ⟨ad, rfl, fun j p hj => hc j p ?_⟩
  rw [List.getElem?_take] at hj
  split at hj
  · exact hj
  · cases hj

set_option maxRecDepth 100000 in
set_option maxHeartbeats 1000000 in
theorem once_ok (w : World) (n : Int) (wf : (Lit.int .i64 n).wf = true) (A : Option Addr) (c : Nat) (l : List S53) (hc : l.length ≤ c) (hr : Kd.C k53 w A l.length l) :
    Calls Try.prog 3 #[.int .i64 n, .slice A l.length c] w fun e w' => e = .returned (.bool true) ∧ Below w.heap.size w w' := by
  have hlt := List.length_take_le 32 l
  obtain ⟨l', hl'⟩ : ∃ l', l' = l.take 32 := ⟨_, rfl⟩
  have hr' := C_take hr
  rw [← hl'] at hr' hlt
  have HLQ := Lib.hid hl'
  have HR := Lib.hid hr'
  have HFEW := fun w => few_ok A c l w hc
  rw [← hl'] at HFEW
  clear hr hr' hl'
  cases hok : okG n l' with
  | false =>
    have HOK := Lib.hid hok
    clear hok
    go_enter Try.func3, Try.ntmps3
    go_wp2_with fail
    with_reducible refine (HFEW _).mono ?_
    rintro e w1 ⟨rfl, rfl⟩
    go_wp2_with fail
    with_reducible refine (new_no n A c l' _ HR.out (by omega) HOK.out).mono ?_
    rintro e w2 ⟨rfl, hb⟩
    have HB := Lib.hid hb
    clear hb
    go_wp2_with fail
    with_reducible refine (live_ok _).mono ?_
    rintro e w3 ⟨rfl, hb⟩
    have HB3 := Lib.hid (below_step HB.out hb)
    clear hb
    go_wp2
    go_ret
    exact ⟨rfl, HB3.out⟩
  | true =>
    obtain ⟨N, rfl, hf, hck⟩ := ok_fits hok
    have HF := Lib.hid hf
    have HCK := Lib.hid hck
    have h12 := hf.top
    have h1 := hf.one
    have h30 := hf.few
    obtain ⟨i3, hi3, z3, s3, b3⟩ := info_parts info3'
    clear hf hck hok wf
    go_enter Try.func3, Try.ntmps3
    go_wp2_with fail
    with_reducible refine (HFEW _).mono ?_
    rintro e w1 ⟨rfl, rfl⟩
    go_wp2_with fail
    with_reducible refine (new_ok N A c l' _ HR.out HF.out HCK.out).mono ?_
    rintro e w1 ⟨g, rfl, hgl, hg, hb⟩
    have HG := Lib.hid hg
    have HB1 := Lib.hid hb
    clear hg hb
    go_wp2_with ((with_reducible refine gate_dst (N := 25) rfl ?_); refine wpList_make_full _ rfl (.tmp 24) (.tmp 24) 27 rfl w1.heap.size 3 i3 (.int .i64 0) 1 Try.underlying27 hi3 z3 s3 .i64 .i64 l'.length l'.length l'.length rfl rfl rfl rfl (by rw [b3]; omega) (by unfold maxLen; omega) (by first | exact Nat.le_refl _ | simp) ?_; intro w2 ho2 hg2; have HO2 := Lib.hid ho2; have HG2 := Lib.hid hg2; clear ho2 hg2)
    have hb2 : Below w1.heap.size w1 w2 := (Below.refl _ _).grown HG2.out (by simp) (fun k h => by cases h)
    have hot := full_row HO2.out
    obtain ⟨go, hgo⟩ : ∃ go, go = w1.heap.size := ⟨_, rfl⟩
    rw [← hgo] at hot ⊢
    have HGO := Lib.hid hgo
    have HOT := Lib.hid hot
    have HB2 := Lib.hid hb2
    have l2 : go < w2.heap.size := (Array.getElem?_eq_some_iff.1 hot).1
    clear hot hb2 hgo
    with_reducible refine (rows_ok g N l' w2 (HG.out.below HB2.out) HF.out).mono ?_
    rintro e w3 ⟨X, Y, rfl, hx, hy, hb⟩
    have hcl : (colsN l' N).length = l'.length := sum_one l' N (fun e he => ⟨(HF.out.fit e he).1, (HF.out.fit e he).2.1⟩)
    obtain ⟨g7, c7, rfl⟩ := own_form (Kd.own_of_R hx) (by rw [rows_len]; omega)
    obtain ⟨A8, c8, rfl, hc8, _⟩ := C_of_R hy
    rw [hcl] at hc8
    rw [rows_len] at hx ⊢
    rw [hcl] at hy ⊢
    have hon : On w1 w3 go l'.length (tot l' 0) (.slice (some ⟨g7, 0, none⟩) (N + 1) c7) (.slice A8 l'.length c8) (rowsN l' (N + 1)) (colsN l' N) := by
      refine ⟨?_, below_then HB2.out HB2.out.size hb, R_ok hx l2, R_ok hy l2, by have := HGO.out; omega⟩
      rw [hb.block go l2, HOT.out, zeros_tot]
    have HON := Lib.hid hon
    have HB3 := Lib.hid (below_step HB2.out hb)
    clear hx hy hb hon HOT HB2 HO2 HG2
    go_wp2_with fail
    with_reducible refine (n_ok g N l' _ (HG.out.below HON.out.bg)).mono ?_
    rintro e w4 ⟨rfl, hb⟩
    have HON4 := Lib.hid (HON.out.below hb)
    have HB4 := Lib.hid (below_step HB3.out hb)
    clear hb HON HB3
    go_wp2
    obtain ⟨N1, hN1⟩ : ∃ N1, N1 = N + 1 := ⟨_, rfl⟩
    rw [← hN1] at HON4 ⊢
    have HN1 := Lib.hid hN1
    clear hN1
    go_loopw [9] (fun v9 wr => ∃ v : Nat, v ≤ N ∧ v9 = .int .i64 v ∧ On w1 wr go l'.length (tot l' v) (.slice (some ⟨g7, 0, none⟩) N1 c7) (.slice A8 l'.length c8) (rowsN l' N1) (colsN l' N) ∧ Below w1.heap.size w1 wr) (fun v9 _ => N - (intOf v9).toNat)
    case atStart => exact ⟨0, Nat.zero_le _, rfl, HON4.out, HB4.out⟩
    case round =>
      obtain ⟨v, hv, rfl, hon, hb⟩ := hrel
      have HON := Lib.hid hon
      have HB := Lib.hid hb
      clear hon hb HON4 HB4
      go_wp2_with fail
      with_reducible refine (n_ok g N l' _ (HG.out.below HON.out.bg)).mono ?_
      rintro e w5 ⟨rfl, hb⟩
      have HON5 := Lib.hid (HON.out.below hb)
      have HB5 := Lib.hid (below_step HB.out hb)
      clear hb HON HB
      by_cases hvn : v < N
      · have dv : decide ((v : Int) < (N : Int)) = true := decide_eq_true (by omega)
        go_wp2_with fail
        with_reducible refine (out_ok true _ N l' v _ (Gn.of (HG.out.below HON5.out.bg)) (by omega)).mono ?_
        rintro e w6 ⟨xa, rfl, hxa, hb⟩
        rw [outs_at l' N v hvn] at hxa
        have hon6 := HON5.out.below hb
        have HXA := Lib.hid (R_ok hxa HON5.out.lt)
        have HON6 := Lib.hid hon6
        have HB6 := Lib.hid (below_step HB5.out hb)
        obtain ⟨Aa, ca, rfl, hca, _⟩ := C_of_R hxa
        clear hb HON5 HB5 hxa hon6
        go_wp2_with fail
        with_reducible refine (in_ok true _ N l' v _ (Gn.of (HG.out.below HON6.out.bg)) (by omega)).mono ?_
        rintro e w7 ⟨xb, rfl, hxb, hb⟩
        rw [ins_at l' N v hvn] at hxb
        have HXB := Lib.hid (R_ok hxb HON6.out.lt)
        have HXA7 := Lib.hid (Kd.R_below HXA.out hb)
        have HON7 := Lib.hid (HON6.out.below hb)
        have HB7 := Lib.hid (below_step HB6.out hb)
        obtain ⟨Ab, cb, rfl, hcb, _⟩ := C_of_R hxb
        clear hb HON6 HB6 hxb HXA
        have hN1' := HN1.out
        obtain ⟨n1, h1'⟩ : ∃ q : Nat, q = (colsN l' v).length := ⟨_, rfl⟩
        obtain ⟨n2, h2'⟩ : ∃ q : Nat, q = (colsN l' (v + 1)).length := ⟨_, rfl⟩
        have h3' : n2 = n1 + (rw_ l' (.o v)).length := by rw [h1', h2', cols_succ, List.length_append]
        have hcs := (Kd.R_reads' HON7.out.ry).2.2
        have hrs := (Kd.R_reads' HON7.out.rx).2.2
        obtain ⟨ad7, e7, r7⟩ := int_at hrs (i := v) (by rw [rows_len]; omega)
        obtain ⟨ad7', e7', r8⟩ := int_at hrs (i := v + 1) (by rw [rows_len]; omega)
        cases e7
        cases e7'
        rw [rows_get l' N1 v (by omega), ← h1', add_plain] at r7
        rw [rows_get l' N1 (v + 1) (by omega), ← h2', add_plain] at r8
        have hle : n2 ≤ l'.length := by
          rw [h2', ← hcl]
          exact cols_mono l' (by omega)
        have hcut := cut_mid (P := Try.prog) 27 3 .i64 .i64 Try.underlying27 hi3 1 s3 A8 l'.length c8 (n1 : Int) (n2 : Int) (by omega) (by omega) (by omega) hc8
        rw [Int.toNat_natCast, Int.toNat_natCast, show n2 - n1 = (rw_ l' (.o v)).length from by omega] at hcut
        have hcc := C_cut hcs n1 (rw_ l' (.o v)).length c8 (by rw [hcl]; omega) (by rw [hcl]; exact hc8)
        rw [h1', cut_cols l' N v hvn, ← h1'] at hcc
        generalize (if c8 = n1 then A8 else A8.map (·.add (n1 * 1))) = A9 at hcut hcc
        obtain ⟨q, hq⟩ := same_ints (rw_ l' (.o v)) (rw_ l' (.o v)) (by have := rw_len l' (.o v); omega)
        have hsame : ∀ k, Calls Try.prog 17 #[.slice Aa (rw_ l' (.o v)).length ca, .slice A9 (rw_ l' (.o v)).length (c8 - n1)] (w7.drewN k) fun e w' => e = .returned (.bool true) ∧ ∃ m, w' = (w7.drewN k).drewN m := fun k => by
          refine (reticuleref01_SameInts.calls q Aa ca _ A9 (c8 - n1) _ true _ (Kd.C_below (Kd.R_reads' HXA7.out).2.2 (pw_below_drewN (Below.refl _ _) k)) hca (Kd.C_below hcc (pw_below_drewN (Below.refl _ _) k)) (by omega) (by simpa using hq)).mono ?_
          rintro e w' ⟨rfl, ⟨hd⟩⟩
          exact ⟨rfl, hd⟩
        have hwr : IntKind.i64.wrap ((v : Int) + 1) = (v : Int) + 1 := IntWalk.i64_in _ (by omega)
        have d6 : decide ((v : Int) < (N1 : Int)) = true := decide_eq_true (by omega)
        have d7 : decide ((v : Int) + 1 < (N1 : Int)) = true := decide_eq_true (by omega)
        have d8 : v < N1 := by omega
        have d10 : 0 ≤ (v : Int) + 1 := by omega
        have d11 : ((v : Int) + 1).toNat = v + 1 := by omega
        have d12 : (v : Int) + 1 < (N1 : Int) := by omega
        have d9 : v + 1 < N1 := by omega
        clear hN1'
        have HSAME := Lib.hid hsame
        clear hsame hq hcc hcs hrs h1' h2' h3' hle
        go_wp2
        go_quiet ((go_at_call 17; exact Calls.quiet_of (HSAME.out _)))
        have HON8 := Lib.hid (HON7.out.below (pw_below_drewN (Below.refl _ _) nq))
        have HXA8 := Lib.hid (Kd.R_below HXA7.out (pw_below_drewN (Below.refl _ _) nq))
        have HXB8 := Lib.hid (Kd.R_below HXB.out (pw_below_drewN (Below.refl _ _) nq))
        have HB8 := Lib.hid (pw_below_drewN HB7.out nq)
        clear d6 d7 d8 d9 d10 d11 d12 hwr hcut
        generalize w7.drewN nq = w8 at HON8 HXA8 HXB8 HB8 ⊢
        clear HON7 HXA7 HXB HB7 r7 r8
        go_wp2
        go_loopw [12] (fun v12 wr => ∃ i : Nat, i ≤ (rw_ l' (.o v)).length ∧ v12 = .int .i64 i ∧ On w1 wr go l'.length (fun j => tot l' v j + (((rw_ l' (.o v)).take i).count (j : Int) : Int)) (.slice (some ⟨g7, 0, none⟩) N1 c7) (.slice A8 l'.length c8) (rowsN l' N1) (colsN l' N) ∧ Kd.R (Kd.int .i64) 3 wr 0 (fun k => k ≠ go) (.slice Aa (rw_ l' (.o v)).length ca) (rw_ l' (.o v)) ∧ Kd.R (Kd.int .i64) 3 wr 0 (fun k => k ≠ go) (.slice Ab (rw_ l' (.i v)).length cb) (rw_ l' (.i v)) ∧ Below w1.heap.size w1 wr) (fun v12 _ => (rw_ l' (.o v)).length - (intOf v12).toNat)
        case atStart => exact ⟨0, Nat.zero_le _, rfl, HON8.out.eq (fun t _ => by simp), HXA8.out, HXB8.out, HB8.out⟩
        case round =>
          obtain ⟨i, hi, rfl, hon, hxa, hxb, hb⟩ := hrel
          have HONi := Lib.hid hon
          have HBi := Lib.hid hb
          have HXAi := Lib.hid hxa
          have HXBi := Lib.hid hxb
          clear hon hxb hb hxa HON8 HXA8 HXB8 HB8
          by_cases hlt2 : i < (rw_ l' (.o v)).length
          · obtain ⟨x, hx, hxm, _⟩ := rw_at hlt2
            obtain ⟨ad, hC, hci⟩ := int_at (Kd.R_reads' HXAi.out).2.2 hlt2
            rw [hx] at hci
            subst hC
            have hcell := HONi.out.cell hxm
            have hfree := HONi.out.free x
            have hbd := tot_le l' N v HF.out (by omega) x
            have hc1 : (rw_ l' (.o v)).count (x : Int) ≤ (rw_ l' (.o v)).length := List.count_le_length
            have hc2 : ((rw_ l' (.o v)).take i).count (x : Int) ≤ ((rw_ l' (.o v)).take i).length := List.count_le_length
            rw [List.length_take] at hc2
            have hro := rw_len l' (.o v)
            have hri := rw_len l' (.i v)
            obtain ⟨y, hy⟩ : ∃ y : Int, y = tot l' v x + (((rw_ l' (.o v)).take i).count (x : Int) : Int) := ⟨_, rfl⟩
            have hy0 : 0 ≤ y := by rw [hy]; omega
            have hy1 : y ≤ 50000 := by rw [hy]; omega
            have hcell' : wr.cell? ⟨go, x, none⟩ = some (.int .i64 y) := by rw [hy]; exact hcell
            have hon2 := HONi.out.set (f' := fun j => tot l' v j + (((rw_ l' (.o v)).take (i + 1)).count (j : Int) : Int)) x (y + 1) (fun t ht => by
              show tot l' v t + (((rw_ l' (.o v)).take (i + 1)).count (t : Int) : Int) = _
              rw [take_count _ i hlt2 x t hx, hy]
              by_cases e : t = x
              · subst e; rw [if_pos rfl, if_pos rfl]; omega
              · rw [if_neg e, if_neg e])
            have HON2 := Lib.hid hon2
            have HWB := Lib.hid (HBi.out.setCell (p := ⟨go, x, none⟩) HONi.out.gg (.int .i64 (y + 1)))
            have HXA2 := Lib.hid (Kd.R_far (p := ⟨go, x, none⟩) HXAi.out (fun k hk => hk) (.int .i64 (y + 1)))
            have HXB2 := Lib.hid (Kd.R_far (p := ⟨go, x, none⟩) HXBi.out (fun k hk => hk) (.int .i64 (y + 1)))
            have HX := Lib.hid hx
            have HLT := Lib.hid hlt2
            have dx : decide (x < l'.length) = true := decide_eq_true hxm
            clear hcell hbd hc1 hc2 hy hon2 hx
            go_wp2
            go_roundw
            case rel => exact ⟨i + 1, HLT.out, by go_num, HON2.out, HXA2.out, HXB2.out, HWB.out⟩
            case measure => have := HLT.out; simp [intOf]; omega
          · have hie : i = (rw_ l' (.o v)).length := by omega
            have HIE := Lib.hid hie
            clear hie
            go_wp2
            have HON9 := Lib.hid (HONi.out.eq (f' := fun j => tot l' v j + ((rw_ l' (.o v)).count (j : Int) : Int)) (fun t _ => by rw [HIE.out, List.take_length]))
            have HXB9 := HXBi
            have HB9 := HBi
            clear HONi HXBi HBi
            go_loopw [13] (fun v13 wr => ∃ i : Nat, i ≤ (rw_ l' (.i v)).length ∧ v13 = .int .i64 i ∧ On w1 wr go l'.length (fun j => tot l' v j + ((rw_ l' (.o v)).count (j : Int) : Int) + 100 * (((rw_ l' (.i v)).take i).count (j : Int) : Int)) (.slice (some ⟨g7, 0, none⟩) N1 c7) (.slice A8 l'.length c8) (rowsN l' N1) (colsN l' N) ∧ Kd.R (Kd.int .i64) 3 wr 0 (fun k => k ≠ go) (.slice Ab (rw_ l' (.i v)).length cb) (rw_ l' (.i v)) ∧ Below w1.heap.size w1 wr) (fun v13 _ => (rw_ l' (.i v)).length - (intOf v13).toNat)
            case atStart => exact ⟨0, Nat.zero_le _, rfl, HON9.out.eq (fun t _ => by simp), HXB9.out, HB9.out⟩
            case round =>
              obtain ⟨i, hi, rfl, hon, hxb, hb⟩ := hrel
              have HONi := Lib.hid hon
              have HBi := Lib.hid hb
              have HXBi := Lib.hid hxb
              clear hon hxb hb HON9 HXB9 HB9
              by_cases hlt2 : i < (rw_ l' (.i v)).length
              · obtain ⟨x, hx, hxm, _⟩ := rw_at hlt2
                obtain ⟨ad, hC, hci⟩ := int_at (Kd.R_reads' HXBi.out).2.2 hlt2
                rw [hx] at hci
                subst hC
                have hcell := HONi.out.cell hxm
                have hfree := HONi.out.free x
                have hbd := tot_le l' N v HF.out (by omega) x
                have hc1 : (rw_ l' (.o v)).count (x : Int) ≤ (rw_ l' (.o v)).length := List.count_le_length
                have hc2 : ((rw_ l' (.i v)).take i).count (x : Int) ≤ ((rw_ l' (.i v)).take i).length := List.count_le_length
                rw [List.length_take] at hc2
                have hro := rw_len l' (.o v)
                have hri := rw_len l' (.i v)
                obtain ⟨y, hy⟩ : ∃ y : Int, y = tot l' v x + ((rw_ l' (.o v)).count (x : Int) : Int) + 100 * (((rw_ l' (.i v)).take i).count (x : Int) : Int) := ⟨_, rfl⟩
                have hy0 : 0 ≤ y := by rw [hy]; omega
                have hy1 : y ≤ 50000 := by rw [hy]; omega
                have hcell' : wr.cell? ⟨go, x, none⟩ = some (.int .i64 y) := by rw [hy]; exact hcell
                have hon2 := HONi.out.set (f' := fun j => tot l' v j + ((rw_ l' (.o v)).count (j : Int) : Int) + 100 * (((rw_ l' (.i v)).take (i + 1)).count (j : Int) : Int)) x (y + 100) (fun t ht => by
                  show tot l' v t + ((rw_ l' (.o v)).count (t : Int) : Int) + 100 * (((rw_ l' (.i v)).take (i + 1)).count (t : Int) : Int) = _
                  rw [take_count _ i hlt2 x t hx, hy]
                  by_cases e : t = x
                  · subst e; rw [if_pos rfl, if_pos rfl]; omega
                  · rw [if_neg e, if_neg e])
                have HON2 := Lib.hid hon2
                have HWB := Lib.hid (HBi.out.setCell (p := ⟨go, x, none⟩) HONi.out.gg (.int .i64 (y + 100)))
                have HXB2 := Lib.hid (Kd.R_far (p := ⟨go, x, none⟩) HXBi.out (fun k hk => hk) (.int .i64 (y + 100)))
                have HX := Lib.hid hx
                have HLT := Lib.hid hlt2
                have dx : decide (x < l'.length) = true := decide_eq_true hxm
                clear hcell hbd hc1 hc2 hy hon2 hx
                go_wp2
                go_roundw
                case rel => exact ⟨i + 1, HLT.out, by go_num, HON2.out, HXB2.out, HWB.out⟩
                case measure => have := HLT.out; simp [intOf]; omega
              · have hie : i = (rw_ l' (.i v)).length := by omega
                have HIE := Lib.hid hie
                clear hie
                go_wp2
                go_roundw
                case rel => exact ⟨v + 1, by omega, by go_num, HONi.out.eq (fun t _ => by rw [tot_succ, HIE.out, List.take_length]), HBi.out⟩
                case measure => simp [intOf]; omega
      · have hvN : v = N := by omega
        have HVN := Lib.hid hvN
        have dv : decide ((v : Int) < (N : Int)) = false := decide_eq_false (by omega)
        clear hvN
        go_wp2
        go_loop [14] (fun v14 => ∃ i : Nat, i ≤ l'.length ∧ v14 = .int .i64 i) (fun v14 => l'.length - (intOf v14).toNat)
        case atStart => exact ⟨0, Nat.zero_le _, rfl⟩
        case round =>
          obtain ⟨i, hi, rfl⟩ := hrel
          by_cases hlt3 : i < l'.length
          · have hcell := HON5.out.cell hlt3
            have hcell' : w5.cell? ⟨go, i, none⟩ = some (.int .i64 101) := by rw [hcell, HVN.out, tot_all l' N HF.out i hlt3]
            clear hcell
            go_wp2
            go_round
            case rel => exact ⟨i + 1, by omega, by go_num⟩
            case measure => simp [intOf]; omega
          · have hie : ¬ i < l'.length := hlt3
            go_wp2_with fail
            with_reducible refine (live_ok _).mono ?_
            rintro e w6 ⟨rfl, hb⟩
            have HB6 := Lib.hid (below_step HB1.out (below_step HB5.out hb))
            clear hb
            go_wp2
            go_ret
            exact ⟨rfl, HB6.out⟩
end Go.Proofs.Ytkpaefeaplgnmaa.G
