/- The walks of graph: Joined. -/
import Derived.Test.YtkpaefeaplgnmaaGraphRf
set_option linter.unusedSimpArgs false
set_option linter.unusedVariables false
namespace Go.Proofs.Ytkpaefeaplgnmaa.G
open Go.RowKit Go.Shelf Go.Proofs.Ytkpaefeaplgnmaa.PA Go.Proofs.Ytkpaefeaplgnmaa.Mp Go.Proofs.YtkpaefeaplgnmaaW.PrintWords Go.Proofs.YtkpaefeaplgnmaaW.PrintLast Go.Proofs.YtkpaefeaplgnmaaW.PrintMore

theorem ls_fill {out : List Int} {n i : Nat} (h : out = List.replicate i (-1) ++ List.replicate (n - i) 0) (hi : i < n) : out.set i (-1) = List.replicate (i + 1) (-1) ++ List.replicate (n - (i + 1)) 0 := by
  subst h
  rw [List.set_append_right _ _ (by simp), List.length_replicate, Nat.sub_self, show n - i = (n - (i + 1)) + 1 by omega, List.replicate_succ, List.set_cons_zero, List.replicate_succ', List.append_assoc]
  rfl
set_option maxRecDepth 100000 in
set_option maxHeartbeats 4000000 in
theorem joined_ok (g n : Nat) (l : List S53) (w : World) (hg : IsG w g n l) (hf : Fits n l) :
    Calls Try.prog 31 #[.pointer (some ⟨g, 0, none⟩)] w fun e w' => ∃ go out, e = .returned (.slice (some ⟨go, 0, none⟩) n n) ∧ Ls w w' go n out ∧ Jo l n n out := by
  obtain ⟨gO, p1, _⟩ := hg.rowO
  have lg := World.block_lt_of_cell? w _ p1
  have h12 := hf.top
  have hm := mk_of 27 3 (.int .i64 0) 8 Try.underlying27 info3' rfl n (by omega) (by decide)
  have hsym : ∀ x c, Adj l x c → Adj l c x := adj_sym (fun e he => ⟨(hf.fit e he).1, (hf.fit e he).2.2.1⟩)
  have HS := Lib.hid hsym
  have HG := Lib.hid hg
  have HF := Lib.hid hf
  clear hg hf hsym
  go_enter Try.func31, Try.ntmps31
  go_wp2
  have hot : (w.alloc (.cells (Array.replicate n (.int .i64 0)) 3)).heap[w.heap.size]? = some (.cells (Array.replicate n (.int .i64 0)) 3 (0, 0)) := World.alloc_heap_new _ _
  have hL0 : Ls w (w.alloc (.cells (Array.replicate n (.int .i64 0)) 3)) w.heap.size n (List.replicate n 0) := by
    refine ⟨hot.trans ?_, by simp, Nat.le_refl _, (Below.refl _ w).alloc (Nat.le_refl _) _⟩
    congr 2
    apply Array.ext'
    simp [I]
  generalize w.alloc (.cells (Array.replicate n (.int .i64 0)) 3) = W0 at hL0 ⊢
  have HL0 := Lib.hid hL0
  clear hL0 hot p1
  go_loopw [16] (fun vk wr => ∃ (i : Nat) (out : List Int), i ≤ n ∧ vk = .int .i64 i ∧ Ls w wr w.heap.size n out ∧ out = List.replicate i (-1) ++ List.replicate (n - i) 0) (fun vk _ => n - (intOf vk).toNat)
  case atStart => exact ⟨0, _, Nat.zero_le _, rfl, HL0.out, by simp⟩
  case round =>
    obtain ⟨i, out, hi, rfl, hL, ho⟩ := hrel
    by_cases hlt : i < n
    · have d1 : decide (i < n) = true := decide_eq_true hlt
      have c1 := hL.cell hlt
      have f1 := hL.free i
      have HL := Lib.hid hL
      have HO := Lib.hid ho
      clear hL ho
      go_wp2
      exact ⟨⟨i + 1, _, by omega, by go_num, HL.out.set i (-1), ls_fill HO.out hlt⟩, by simp [intOf]; omega⟩
    · have d1 : decide (i < n) = false := decide_eq_false hlt
      obtain rfl : i = n := by omega
      have ho' : out = List.replicate i (-1) := by rw [ho]; simp
      have HL := Lib.hid hL
      have HO := Lib.hid ho'
      clear hL ho ho'
      go_wp2
      go_loopw [25] (fun vk wr => ∃ (v : Nat) (out : List Int), v ≤ i ∧ vk = .int .i64 v ∧ Ls w wr w.heap.size i out ∧ Jo l i v out) (fun vk _ => i - (intOf vk).toNat)
      case atStart => exact ⟨0, _, Nat.zero_le _, rfl, HL.out, by rw [HO.out]; exact Jo.start l i⟩
      case round =>
        obtain ⟨v, o1, hv, rfl, hL1, hJ1⟩ := hrel
        by_cases hlt2 : v < i
        · have d2 : decide (v < i) = true := decide_eq_true hlt2
          have HL1 := Lib.hid hL1
          have HJ1 := Lib.hid hJ1
          clear hL1 hJ1
          go_wp2_with fail
          with_reducible refine (join_ok g i w.heap.size l w HG.out HF.out v i v o1 _ (by have := unl_len o1; rw [HL1.out.len] at this; exact this) hlt2 HL1.out).mono ?_
          rintro e w5 ⟨rfl, o2, hL2, hJ2⟩
          have HL2 := Lib.hid hL2
          have HJ2 := Lib.hid hJ2
          clear hL2 hJ2
          go_wp2
          exact ⟨⟨v + 1, o2, by omega, by go_num, HL2.out, HJ1.out.step HS.out HJ2.out⟩, by simp [intOf]; omega⟩
        · have d2 : decide (v < i) = false := decide_eq_false hlt2
          obtain rfl : v = i := by omega
          have HL1 := Lib.hid hL1
          have HJ1 := Lib.hid hJ1
          clear hL1 hJ1
          go_wp2
          go_ret
          exact ⟨_, o1, rfl, HL1.out, HJ1.out⟩
end Go.Proofs.Ytkpaefeaplgnmaa.G
