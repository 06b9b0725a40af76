/- The walks of graph: all edges the other way. -/
import Derived.Test.YtkpaefeaplgnmaaGraphT
set_option linter.unusedSimpArgs false
set_option linter.unusedVariables false
namespace Go.Proofs.Ytkpaefeaplgnmaa.G
open Go.RowKit Go.Proofs.Ytkpaefeaplgnmaa.PA Go.Proofs.Ytkpaefeaplgnmaa.Mp Go.Proofs.YtkpaefeaplgnmaaW.PrintWords Go.Proofs.YtkpaefeaplgnmaaW.PrintLast Go.Proofs.YtkpaefeaplgnmaaW.PrintMore

def swp (e : S53) : S53 := ⟨e.f1, e.f0⟩
theorem flat_len (l : List S53) : (flat l).length = l.length * 2 := by
  induction l with
  | nil => rfl
  | cons e l ih => rw [show flat (e :: l) = I e.f0 :: I e.f1 :: flat l from rfl]; simp [ih]; omega
theorem flat_snoc (l : List S53) (e : S53) : flat (l ++ [e]) = flat l ++ [I e.f0, I e.f1] := by simp [flat]
theorem fits_swp {n : Nat} {l : List S53} (h : Fits n l) : Fits n (l.map swp) := ⟨h.one, h.top, by simpa using h.few, fun e he => by
  obtain ⟨d, hd, rfl⟩ := List.mem_map.1 he
  have := h.fit d hd
  exact ⟨this.2.2.1, this.2.2.2, this.1, this.2.1⟩⟩
theorem turned_nil (w : World) : Calls Try.prog 22 #[.pointer none] w fun e w' => e = .returned (.pointer none) ∧ Below w.heap.size w w' := by
  go_enter Try.func22, Try.ntmps22
  go_wp2
  go_ret
  exact ⟨rfl, Below.refl _ _⟩
/-- So many edges are turned. -/
structure Tu (w wr : World) (go : Nat) (l : List S53) (k : Nat) : Prop where
  ex : ∃ cs : Array Value, wr.heap[go]? = some (.cells cs 53 (0, 0)) ∧ cs.size = l.length * 2 ∧ cs.toList.take (k * 2) = flat ((l.take k).map swp)
  bl : Below w.heap.size w wr
  ge : w.heap.size ≤ go
theorem Tu.step {w wr : World} {go k : Nat} {l : List S53} {x y : Int} (h : Tu w wr go l k) (hk : k < l.length) (he : swp l[k] = ⟨y, x⟩) :
    Tu w (((wr.setCell ⟨go, k * 2, none⟩ (.int .i64 y)).setCell ⟨go, k * 2 + 1, none⟩ (.int .i64 x)).alloc (.cells #[.int .i64 x, .int .i64 y] 53)) go l (k + 1) := by
  obtain ⟨cs, h1, h2, h3⟩ := h.ex
  have q1 := heap_setCell_same wr go (k * 2) cs 53 (.int .i64 y) h1
  have q2 := heap_setCell_same _ go (k * 2 + 1) _ 53 (.int .i64 x) q1
  have hb := (h.bl.setCell (p := ⟨go, k * 2, none⟩) h.ge (.int .i64 y)).setCell (p := ⟨go, k * 2 + 1, none⟩) h.ge (.int .i64 x)
  refine ⟨⟨_, (Below.heap_alloc _ _ go (Array.getElem?_eq_some_iff.1 q2).1).trans q2, by simp [h2], ?_⟩, hb.alloc hb.size _, h.ge⟩
  rw [List.take_succ_eq_append_getElem hk, List.map_append, List.map_singleton, flat_snoc, he, ← h3]
  apply List.ext_getElem?
  intro i
  have hl : (cs.toList.take (k * 2)).length = k * 2 := by rw [List.length_take, Array.length_toList]; omega
  simp only [Array.toList_setIfInBounds]
  rw [List.getElem?_take]
  rcases Nat.lt_trichotomy i (k * 2) with c | c | c
  · rw [if_pos (by omega), List.getElem?_set_ne (by omega), List.getElem?_set_ne (by omega), List.getElem?_append_left (by omega), List.getElem?_take, if_pos c]
  · subst c
    rw [if_pos (by omega), List.getElem?_set_ne (by omega), List.getElem?_set_self (by rw [Array.length_toList]; omega), List.getElem?_append_right (by omega), hl, Nat.sub_self]
    rfl
  · by_cases c2 : i = k * 2 + 1
    · subst c2
      rw [if_pos (by omega), List.getElem?_set_self (by rw [List.length_set, Array.length_toList]; omega), List.getElem?_append_right (by omega), hl, Nat.add_sub_cancel_left]
      rfl
    · rw [if_neg (by omega), List.getElem?_eq_none (by simp; omega)]
set_option maxHeartbeats 2000000 in
theorem turned_ok (g n : Nat) (l : List S53) (w : World) (hg : IsG w g n l) (hf : Fits n l) :
    Calls Try.prog 22 #[.pointer (some ⟨g, 0, none⟩)] w fun e w' => ∃ g', e = .returned (.pointer (some ⟨g', 0, none⟩)) ∧ IsG w' g' n (l.map swp) ∧ Below w.heap.size w w' := by
  obtain ⟨gO, p1, _⟩ := hg.rowO
  obtain ⟨A0, c0, p0, hE⟩ : ∃ A0 c0, w.cell? ⟨g, 0, none⟩ = some (.slice A0 l.length c0) ∧ Kd.C k53 w A0 l.length l := by
    obtain ⟨base, gO, gI, b, A, c, val, K, h1, h2, h3⟩ := hg
    exact ⟨A, c, by rw [cell_of h1.st]; rfl, h2⟩
  have l0 : g < w.heap.size := World.block_lt_of_cell? w _ p0
  obtain ⟨i53, hi53, z53, s53, b53⟩ := info_parts info53
  have h30 := hf.few
  have HE := Lib.hid hE
  have HF := Lib.hid hf
  have HP1 := Lib.hid p1
  clear hg hE hf p1
  go_enter Try.func22, Try.ntmps22
  go_wp2_with ((with_reducible refine gate_dst (N := 13) rfl ?_); refine wpList_make_full _ rfl (.tmp 12) (.tmp 12) 22 rfl w.heap.size 53 i53 _ 2 Try.underlying22 hi53 z53 s53 .i64 .i64 l.length l.length l.length rfl rfl rfl rfl (by rw [b53]; omega) (by unfold maxLen; omega) (Nat.le_refl _) ?_; intro w2 ho2 hg2; have HO2 := Lib.hid ho2; have HG2 := Lib.hid hg2; have p02 : w2.cell? ⟨g, 0, none⟩ = some (.slice A0 l.length c0) := (gcell hg2 l0 (by simp)).trans p0; clear ho2 hg2)
  obtain ⟨go, hgo⟩ : ∃ go, go = w.heap.size := ⟨_, rfl⟩
  have hb2 : Below w.heap.size w w2 := (Below.refl _ _).grown HG2.out (Nat.le_refl _) (fun k h => by cases h)
  have htu : Tu w w2 go l 0 := by
    refine ⟨?_, hb2, by omega⟩
    rcases HO2.out.2 with ⟨q, _⟩ | ⟨g', cap, cur, q, _, hgb, _, _, hsz, _⟩
    · cases q
    · injection q with q1 _ q3
      injection q1 with q1
      injection q1 with q1
      subst q1 q3
      exact ⟨cur, by rw [hgo]; exact hgb, hsz, by simp [flat]⟩
  have HTU := Lib.hid htu
  rw [← hgo]
  clear htu HO2 HG2 hb2 hgo p02
  go_loopw [19] (fun v19 wr => ∃ k : Nat, k ≤ l.length ∧ v19 = .int .i64 k ∧ Tu w wr go l k) (fun v19 _ => l.length - (intOf v19).toNat)
  case atStart => exact ⟨0, Nat.zero_le _, rfl, HTU.out⟩
  case round =>
    obtain ⟨k, hk, rfl, ht⟩ := hrel
    have HT := Lib.hid ht
    clear ht HTU
    by_cases hlt : k < l.length
    · obtain ⟨ad, rfl, c1, c2⟩ := edge_at HE.out hlt
      obtain ⟨x, hx⟩ : ∃ x, x = l[k].f0 := ⟨_, rfl⟩
      obtain ⟨y, hy⟩ : ∃ y, y = l[k].f1 := ⟨_, rfl⟩
      rw [← hx] at c1
      rw [← hy] at c2
      have q1 := (HT.out.bl.cell (World.block_lt_of_cell? w _ c1)).trans c1
      have q2 := (HT.out.bl.cell (World.block_lt_of_cell? w _ c2)).trans c2
      obtain ⟨cs, h1, h2, h3⟩ := HT.out.ex
      have hgol : go < wr.heap.size := (Array.getElem?_eq_some_iff.1 h1).1
      have s1 : ∃ u, wr.cell? ⟨go, k * 2, none⟩ = some u := by rw [cell_of h1]; exact ⟨_, Array.getElem?_eq_getElem (by omega)⟩
      have s2 : ∃ u, wr.cell? ⟨go, k * 2 + 1, none⟩ = some u := by rw [cell_of h1]; exact ⟨_, Array.getElem?_eq_getElem (by omega)⟩
      obtain ⟨u1, s1⟩ := s1
      obtain ⟨u2, s2⟩ := s2
      have s3 : wr.frozen? ⟨go, k * 2, none⟩ = false := by simp [World.frozen?, h1]
      have s4 : wr.frozen? ⟨go, k * 2 + 1, none⟩ = false := by simp [World.frozen?, h1]
      have HX := Lib.hid hx
      have HY := Lib.hid hy
      have H1 := Lib.hid h1
      have H2 := Lib.hid h2
      have H3 := Lib.hid h3
      clear hx hy h1 h2 h3 c1 c2
      go_wp2
      refine ⟨⟨k + 1, hlt, by go_num, ?_⟩, by simp [intOf]; omega⟩
      have htu := Tu.step HT.out hlt (x := x) (y := y) (by rw [HX.out, HY.out]; rfl)
      exact htu
    · have hkl : k = l.length := by omega
      have HKL := Lib.hid hkl
      clear hkl
      have p1 := (HT.out.bl.cell (World.block_lt_of_cell? w _ HP1.out)).trans HP1.out
      go_wp2_with fail
      have hC : Kd.C k53 wr (some ⟨go, 0, none⟩) l.length (l.map swp) := by
        obtain ⟨cs, h1, h2, h3⟩ := HT.out.ex
        rw [HKL.out, List.take_length, List.take_of_length_le (by rw [Array.length_toList]; omega)] at h3
        have := C_edges (W := wr) (B := go) (l := l.map swp) (by rw [h1, ← h3]) (by simp; omega)
        rwa [List.length_map] at this
      have hmade := made_ok n (some ⟨go, 0, none⟩) l.length (l.map swp) wr (by rw [List.length_map]; exact hC) (by simp) (fits_swp HF.out)
      rw [List.length_map] at hmade
      with_reducible refine hmade.mono ?_
      rintro e w3 ⟨g', rfl, _, hi, hb⟩
      have HI := Lib.hid hi
      have HB := Lib.hid (below_then HT.out.bl HT.out.bl.size hb)
      clear hi hb hC hmade p1
      go_wp2
      go_ret
      exact ⟨g', rfl, HI.out, HB.out⟩
end Go.Proofs.Ytkpaefeaplgnmaa.G
