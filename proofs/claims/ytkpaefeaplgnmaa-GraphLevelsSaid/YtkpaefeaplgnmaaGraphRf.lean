/- The walks of graph: join. -/
import Derived.Test.YtkpaefeaplgnmaaGraphRe
set_option linter.unusedSimpArgs false
set_option linter.unusedVariables false
namespace Go.Proofs.Ytkpaefeaplgnmaa.G
open Go.RowKit Go.Shelf Go.Proofs.Ytkpaefeaplgnmaa.PA Go.Proofs.Ytkpaefeaplgnmaa.Mp Go.Proofs.YtkpaefeaplgnmaaW.PrintWords Go.Proofs.YtkpaefeaplgnmaaW.PrintLast Go.Proofs.YtkpaefeaplgnmaaW.PrintMore

/-- Labels, as they stand. -/
structure Ls (w0 W : World) (go n : Nat) (out : List Int) : Prop where
  ot : W.heap[go]? = some (.cells (out.map I).toArray 3 (0, 0))
  len : out.length = n
  ago : w0.heap.size ≤ go
  bl : Below w0.heap.size w0 W
theorem Ls.cell {w0 W : World} {go n : Nat} {out : List Int} (h : Ls w0 W go n out) {v : Nat} (hv : v < n) : W.cell? ⟨go, v, none⟩ = some (.int .i64 (la out v)) := by
  rw [cell_of h.ot]
  simp [la, I, show v < out.length by rw [h.len]; exact hv]
theorem Ls.free {w0 W : World} {go n : Nat} {out : List Int} (h : Ls w0 W go n out) (v : Nat) : W.frozen? ⟨go, v, none⟩ = false := by simp [World.frozen?, h.ot]
theorem Ls.set {w0 W : World} {go n : Nat} {out : List Int} (h : Ls w0 W go n out) (v : Nat) (k : Int) : Ls w0 (W.setCell ⟨go, v, none⟩ (.int .i64 k)) go n (out.set v k) := by
  refine ⟨?_, by rw [List.length_set]; exact h.len, h.ago, h.bl.setCell (p := ⟨go, v, none⟩) h.ago _⟩
  rw [heap_setCell_same W go v _ 3 _ h.ot, List.setIfInBounds_toArray]
  simp [I, List.map_set]
theorem take_nx {l : List S53} {v k j : Nat} (hk : k < (rw_ l (.o v)).length) (hj : (rw_ l (.o v))[k] = (j : Int)) (hjl : j < l.length) : (nxt l v).take (k + 1) = (nxt l v).take k ++ [l[j].f1.toNat] := by
  unfold nxt
  rw [List.take_succ_eq_append_getElem (by simpa using hk), List.getElem_map, hj]
  simp [hjl]
theorem take_pr {l : List S53} {v k j : Nat} (hk : k < (rw_ l (.i v)).length) (hj : (rw_ l (.i v))[k] = (j : Int)) (hjl : j < l.length) : (prv l v).take (k + 1) = (prv l v).take k ++ [l[j].f0.toNat] := by
  unfold prv
  rw [List.take_succ_eq_append_getElem (by simpa using hk), List.getElem_map, hj]
  simp [hjl]
set_option maxHeartbeats 1000000 in
theorem join_had (g n go : Nat) (l : List S53) (w : World) (label : Nat) (v : Nat) (out : List Int) (W : World) (hl : la out v ≠ -1) (hv : v < n) (hL : Ls w W go n out) :
    Calls Try.prog 62 #[.pointer (some ⟨g, 0, none⟩), .int .i64 (v : Int), .int .i64 (label : Int), .slice (some ⟨go, 0, none⟩) n n] W fun e W' => e = .returned (.tuple #[]) ∧ ∃ out', Ls w W' go n out' ∧ Jn l (label : Int) v out out' := by
  obtain ⟨x, hx⟩ : ∃ x, x = la out v := ⟨_, rfl⟩
  have c1 := hL.cell hv
  rw [← hx] at c1
  have hd : (x == -1) = false := by rw [hx]; simpa using hl
  have hd2 : (x != -1) = true := by rw [bne, hd]; rfl
  have hd3 : decide (v < n) = true := decide_eq_true hv
  have HL := Lib.hid hL
  have HN := Lib.hid hl
  clear hL hl hx
  go_enter Try.func62, Try.ntmps62
  go_wp2
  refine bodyPost_ret (results_none rfl _ _ _) rfl ?_
  exact ⟨rfl, out, HL.out, .same HN.out⟩
set_option maxRecDepth 100000 in
set_option maxHeartbeats 8000000 in
theorem join_ok (g n go : Nat) (l : List S53) (w : World) (hg : IsG w g n l) (hf : Fits n l) (label : Nat) : ∀ (F v : Nat) (out : List Int) (W : World), unl out ≤ F → v < n → Ls w W go n out →
    Calls Try.prog 62 #[.pointer (some ⟨g, 0, none⟩), .int .i64 (v : Int), .int .i64 (label : Int), .slice (some ⟨go, 0, none⟩) n n] W fun e W' => e = .returned (.tuple #[]) ∧ ∃ out', Ls w W' go n out' ∧ Jn l (label : Int) v out out' := by
  intro F
  induction F with
  | zero =>
    intro v out W hF hv hL
    refine join_had g n go l w label v out W (fun e => ?_) hv hL
    have := unl_set (out := out) (v := v) (k := 0) (by rw [hL.len]; exact hv) e (by decide)
    omega
  | succ F ih =>
    intro v out W hF hv hL
    by_cases hl : la out v = -1
    · obtain ⟨gO, pO, hrowO⟩ := hg.rowO
      obtain ⟨gI, pI, hrowI⟩ := hg.rowI
      obtain ⟨AO, cO, qO, hlcO, hCO⟩ := hrowO v hv
      obtain ⟨AI, cI, qI, hlcI, hCI⟩ := hrowI v hv
      obtain ⟨A0, c0, p0, hE⟩ : ∃ A0 c0, w.cell? ⟨g, 0, none⟩ = some (.slice A0 l.length c0) ∧ Kd.C k53 w A0 l.length l := by
        obtain ⟨base, gO, gI, b, A, c, val, K, h1, h2, h3⟩ := hg
        exact ⟨A, c, by rw [cell_of h1.st]; rfl, h2⟩
      have hlab : (label : Int) ≠ -1 := by omega
      have hvl : v < out.length := by rw [hL.len]; exact hv
      have hJm := Jm.start (l := l) (label := (label : Int)) hvl hl
      have c1 := hL.cell hv
      rw [hl] at c1
      have f1 := hL.free v
      have hd3 : decide (v < n) = true := decide_eq_true hv
      have hLs := hL.set v (label : Int)
      have lgo := (Array.getElem?_eq_some_iff.1 hL.ot).1
      have HL := Lib.hid hL
      have HLS := Lib.hid hLs
      have HJ := Lib.hid hJm
      have HP0 := Lib.hid p0
      have HPO := Lib.hid pO
      have HQO := Lib.hid qO
      have HPI := Lib.hid pI
      have HQI := Lib.hid qI
      have HCO := Lib.hid hCO
      have HCI := Lib.hid hCI
      have HE := Lib.hid hE
      have HF := Lib.hid hf
      have HLV := Lib.hid hl
      have HIH := Lib.hid ih
      have rO := rw_len l (.o v)
      have rI := rw_len l (.i v)
      have hl30 := hf.few
      have b0 := (hL.bl.cell (World.block_lt_of_cell? w _ p0)).trans p0
      have b1 := (hL.bl.cell (World.block_lt_of_cell? w _ pO)).trans pO
      have b2 := (hL.bl.cell (World.block_lt_of_cell? w _ qO)).trans qO
      have lg : g < w.heap.size := World.block_lt_of_cell? w _ p0
      have lgO : gO < w.heap.size := World.block_lt_of_cell? w _ qO
      have hag := hL.ago
      have ng : g ≠ go := by omega
      have ngO : gO ≠ go := by omega
      clear hL hLs hJm p0 pO qO pI qI hCO hCI hE hrowO hrowI hf hg ih hl
      go_enter Try.func62, Try.ntmps62
      go_wp2
      go_loopw [29] (fun vk wr => ∃ (k : Nat) (o1 : List Int), k ≤ (rw_ l (.o v)).length ∧ vk = .int .i64 k ∧ Ls w wr go n o1 ∧ Jm l (label : Int) v out o1 ((nxt l v).take k)) (fun vk _ => (rw_ l (.o v)).length - (intOf vk).toNat)
      case atStart => exact ⟨0, _, Nat.zero_le _, rfl, HLS.out, by simpa using HJ.out⟩
      case round =>
        obtain ⟨k, o1, hk, rfl, hL1, hJ1⟩ := hrel
        by_cases hlt : k < (rw_ l (.o v)).length
        · obtain ⟨j, hj, hjl, hP⟩ := rw_at hlt
          obtain ⟨ad, rfl, c1⟩ := int_at HCO.out hlt
          obtain ⟨ade, rfl, e0, e1⟩ := edge_at HE.out hjl
          have hfit := HF.out.fit _ (List.getElem_mem hjl)
          obtain ⟨x, hx⟩ : ∃ x : Nat, l[j].f1 = (x : Int) := ⟨l[j].f1.toNat, by omega⟩
          have hxn : x < n := by omega
          have hbl := hL1.bl
          have r1 := (hbl.cell (World.block_lt_of_cell? w _ c1)).trans c1
          have r2 := (hbl.cell (World.block_lt_of_cell? w _ e1)).trans e1
          have r0 := (hbl.cell (World.block_lt_of_cell? w _ HP0.out)).trans HP0.out
          rw [hj] at r1
          rw [hx] at r2
          have ht := take_nx hlt hj hjl
          rw [hx, Int.toNat_natCast] at ht
          have hadj : Adj l v x := .inl (List.mem_of_mem_take (i := k + 1) (by rw [ht]; simp))
          have hun : unl o1 ≤ F := by have := hJ1.unl hvl HLV.out hlab; omega
          have HL1 := Lib.hid hL1
          have HJ1 := Lib.hid hJ1
          have HT := Lib.hid ht
          have HADJ := Lib.hid hadj
          have d1 : decide (k < (rw_ l (.o v)).length) = true := decide_eq_true hlt
          have d2 : decide (j < l.length) = true := decide_eq_true hjl
          clear hL1 hJ1 ht hadj hbl c1 e0 e1 hfit hP hj hx
          go_wp2_with fail
          with_reducible refine (HIH.out x o1 _ hun hxn HL1.out).mono ?_
          rintro e w5 ⟨rfl, o2, hL2, hJ2⟩
          have HL2 := Lib.hid hL2
          have HJ2 := Lib.hid hJ2
          clear hL2 hJ2 r0 r1 r2
          go_wp2
          refine ⟨⟨k + 1, o2, by omega, by go_num, HL2.out, ?_⟩, by simp [intOf]; omega⟩
          rw [HT.out]
          exact HJ1.out.step hlab HADJ.out HJ2.out
        · have d1 : decide (k < (rw_ l (.o v)).length) = false := decide_eq_false hlt
          obtain rfl : k = (rw_ l (.o v)).length := by omega
          have HL1 := Lib.hid hL1
          have HJ1 := Lib.hid hJ1
          have hbl := hL1.bl
          have b0 := (hbl.cell (World.block_lt_of_cell? w _ HPI.out)).trans HPI.out
          have b1 := (hbl.cell (World.block_lt_of_cell? w _ HQI.out)).trans HQI.out
          clear hbl
          clear hL1 hJ1
          go_wp2
          go_loopw [54] (fun vk wr => ∃ (k : Nat) (o1 : List Int), k ≤ (rw_ l (.i v)).length ∧ vk = .int .i64 k ∧ Ls w wr go n o1 ∧ Jm l (label : Int) v out o1 (nxt l v ++ (prv l v).take k)) (fun vk _ => (rw_ l (.i v)).length - (intOf vk).toNat)
          case atStart => exact ⟨0, _, Nat.zero_le _, rfl, HL1.out, by have := HJ1.out; rw [List.take_of_length_le (by unfold nxt; simp)] at this; simpa using this⟩
          case round =>
            obtain ⟨k, o1, hk, rfl, hL1, hJ1⟩ := hrel
            by_cases hlt : k < (rw_ l (.i v)).length
            · obtain ⟨j, hj, hjl, hP⟩ := rw_at hlt
              obtain ⟨ad, rfl, c1⟩ := int_at HCI.out hlt
              obtain ⟨ade, rfl, e0, e1⟩ := edge_at HE.out hjl
              have hfit := HF.out.fit _ (List.getElem_mem hjl)
              obtain ⟨x, hx⟩ : ∃ x : Nat, l[j].f0 = (x : Int) := ⟨l[j].f0.toNat, by omega⟩
              have hxn : x < n := by omega
              have hbl := hL1.bl
              have r1 := (hbl.cell (World.block_lt_of_cell? w _ c1)).trans c1
              have r2 := (hbl.cell (World.block_lt_of_cell? w _ e0)).trans e0
              have r0 := (hbl.cell (World.block_lt_of_cell? w _ HP0.out)).trans HP0.out
              rw [hj] at r1
              rw [hx] at r2
              have ht := take_pr hlt hj hjl
              rw [hx, Int.toNat_natCast] at ht
              have hadj : Adj l v x := .inr (List.mem_of_mem_take (i := k + 1) (by rw [ht]; simp))
              have hun : unl o1 ≤ F := by have := hJ1.unl hvl HLV.out hlab; omega
              have HM1 := Lib.hid hL1
              have HK1 := Lib.hid hJ1
              have HT := Lib.hid ht
              have HADJ := Lib.hid hadj
              have d1 : decide (k < (rw_ l (.i v)).length) = true := decide_eq_true hlt
              have d2 : decide (j < l.length) = true := decide_eq_true hjl
              clear hL1 hJ1 ht hadj hbl c1 e0 e1 hfit hP hj hx
              go_wp2_with fail
              with_reducible refine (HIH.out x o1 _ hun hxn HM1.out).mono ?_
              rintro e w5 ⟨rfl, o2, hL2, hJ2⟩
              have HL2 := Lib.hid hL2
              have HJ2 := Lib.hid hJ2
              clear hL2 hJ2 r0 r1 r2
              go_wp2
              refine ⟨⟨k + 1, o2, by omega, by go_num, HL2.out, ?_⟩, by simp [intOf]; omega⟩
              rw [HT.out, ← List.append_assoc]
              exact HK1.out.step hlab HADJ.out HJ2.out
            · have d1 : decide (k < (rw_ l (.i v)).length) = false := decide_eq_false hlt
              obtain rfl : k = (rw_ l (.i v)).length := by omega
              have HM1 := Lib.hid hL1
              have HK1 := Lib.hid hJ1
              clear hL1 hJ1
              go_wp2
              go_end0
              refine ⟨rfl, _, HM1.out, HK1.out.close hlab HLV.out (fun c hc => ?_)⟩
              rw [List.take_of_length_le (by unfold prv; simp)]
              exact List.mem_append.2 hc
    · exact join_had g n go l w label v out W hl hv hL
end Go.Proofs.Ytkpaefeaplgnmaa.G
