/- The walk of Reaches. -/
import Derived.Test.YtkpaefeaplgnmaaGraphRc
set_option linter.unusedSimpArgs false
set_option linter.unusedVariables false
namespace Go.Proofs.Ytkpaefeaplgnmaa.G
open Go.RowKit Go.Shelf Go.Proofs.Ytkpaefeaplgnmaa.PA Go.Proofs.Ytkpaefeaplgnmaa.Mp Go.Proofs.YtkpaefeaplgnmaaW.PrintWords Go.Proofs.YtkpaefeaplgnmaaW.PrintLast Go.Proofs.YtkpaefeaplgnmaaW.PrintMore

theorem next_c (g v : Nat) (w : World) : Calls Try.prog 59 #[.pointer (some ⟨g, 0, none⟩), .int .i64 (v : Int)] w fun e w' => e = .returned (.func (.func 64) #[] #[.pointer (some ⟨w.heap.size, 0, none⟩), .pointer (some ⟨w.heap.size + 1, 0, none⟩)]) ∧
    w'.heap.size = w.heap.size + 2 ∧ Below w.heap.size w w' ∧ w'.heap[w.heap.size]? = some (.cells #[.pointer (some ⟨g, 0, none⟩)] 24 (0, 0)) ∧ w'.heap[w.heap.size + 1]? = some (.cells #[.int .i64 (v : Int)] 3 (0, 0)) := by
  refine (callsIn_wide.1 (next_in Fence.wide 5 trivial rfl g (v : Int) w)).mono ?_
  rintro e w' ⟨rfl, rfl⟩
  refine ⟨rfl, by simp, ((Below.refl _ w).alloc (Nat.le_refl _) _).alloc (by simp) _, ?_, ?_⟩
  · exact (Boxed.new w 24 _).alloc _
  · have := Boxed.new (w.alloc (.cells #[.pointer (some ⟨g, 0, none⟩)] 24)) 3 (.int .i64 (v : Int))
    rwa [World.size_alloc] at this
theorem appseq_c (g n v : Nat) (l : List S53) (w0 W1 : World) (hg : IsG w0 g n l) (hf : Fits n l) (hv : v < n) (hb : Below w0.heap.size w0 W1) (Bg : Nat) (hB0 : w0.heap.size ≤ Bg)
    (hBg : W1.heap[Bg]? = some (.cells #[.pointer (some ⟨g, 0, none⟩)] 24 (0, 0))) (hBv : W1.heap[Bg + 1]? = some (.cells #[.int .i64 (v : Int)] 3 (0, 0))) (ok : Nat → Prop) (hfr : ∀ k, W1.heap.size ≤ k → ok k) (A : Option Addr) (N cap : Nat) (todo : List Nat) (hN : N = todo.length) (hQ : Kd.Q (Kd.int .i64) 3 W1 w0.heap.size (fun k => ok k ∧ k ≠ Bg ∧ k ≠ Bg + 1) (.slice A N cap) (qs todo)) (hlen : todo.length ≤ 900) :
    Calls Try.prog 61 #[.slice A N cap, .func (.func 64) #[] #[.pointer (some ⟨Bg, 0, none⟩), .pointer (some ⟨Bg + 1, 0, none⟩)]] W1 fun e W' => ∃ A' cap', e = .returned (.slice A' (todo ++ nxt l v).length cap') ∧ Kd.Q (Kd.int .i64) 3 W' w0.heap.size ok (.slice A' (todo ++ nxt l v).length cap') (qs (todo ++ nxt l v)) ∧ Below w0.heap.size W1 W' ∧ ∀ k, k < W1.heap.size → ¬ ok k → W'.heap[k]? = W1.heap[k]? := by
  subst hN
  refine (callsIn_wide.1 (appseq_in 5 g n v l w0 W1 hg hf hv (by decide) hb Bg hB0 hBg hBv ok hfr A cap todo hQ hlen)).mono ?_
  rintro e W' ⟨x, rfl, hq, hb', hk⟩
  obtain ⟨A', c', rfl, _⟩ := Kd.Q_slice hq
  rw [show (qs (todo ++ nxt l v)).length = (todo ++ nxt l v).length by simp [qs]] at hq ⊢
  exact ⟨A', c', rfl, Kd.Q_mono hq (fun k hk => hk.1), hb', fun k h1 h2 => hk k h1 (fun h => h2 h.1)⟩
def okk (go n : Nat) (gi : Nat → Nat) (k : Nat) : Prop := k ≠ go ∧ ∀ v, v < n → k ≠ gi v
theorem Rw.ok_ge {w0 W : World} {go n : Nat} {gi : Nat → Nat} {R : Nat → List Bool} (h : Rw w0 W go n n gi R) {k : Nat} (hk : W.heap.size ≤ k) : okk go n gi k :=
  ⟨by have := (Array.getElem?_eq_some_iff.1 h.ot).1; omega, fun v hv => by have := (Array.getElem?_eq_some_iff.1 (h.it v hv).1).1; omega⟩
theorem not_okk {go n k : Nat} {gi : Nat → Nat} (h : k = go ∨ ∃ v, v < n ∧ k = gi v) : ¬ okk go n gi k := fun q => by
  rcases h with rfl | ⟨v, hv, rfl⟩
  · exact q.1 rfl
  · exact q.2 v hv rfl
set_option maxRecDepth 100000 in
set_option maxHeartbeats 4000000 in
theorem reaches_ok (g n : Nat) (l : List S53) (w : World) (hg : IsG w g n l) (hf : Fits n l) :
    Calls Try.prog 30 #[.pointer (some ⟨g, 0, none⟩)] w fun e w' => ∃ go gi, e = .returned (.slice (some ⟨go, 0, none⟩) n n) ∧ Rw w w' go n n gi (ways l n) := by
  have h12 := hf.top
  have h30 := hf.few
  have HN := Lib.hid (show ∀ v, ∀ x ∈ nxt l v, x < n from fun v => nxt_lt hf.fit)
  have HG := Lib.hid hg
  have HF := Lib.hid hf
  clear hg hf
  go_enter Try.func30, Try.ntmps30
  go_wp2_with fail
  with_reducible refine (rowsB_ok g n l _ HG.out HF.out).mono ?_
  rintro e W0 ⟨go, gi, rfl, hR⟩
  have HR := Lib.hid hR
  clear hR
  go_wp2
  go_loopw [13] (fun v13 wr => ∃ a : Nat, a ≤ n ∧ v13 = .int .i64 a ∧ Rw w wr go n n gi (fun v => if v < a then ways l n v else List.replicate n false)) (fun v13 _ => n - (intOf v13).toNat)
  case atStart => exact ⟨0, Nat.zero_le _, rfl, HR.out.congr (fun v hv => by rw [if_neg (by omega)])⟩
  case round =>
    obtain ⟨a, ha, rfl, hR⟩ := hrel
    by_cases hlt : a < n
    · have d1 : decide (a < n) = true := decide_eq_true hlt
      have HR2 := Lib.hid hR
      clear hR
      go_wp2_with fail
      with_reducible refine (next_c g a wr).mono ?_
      rintro e w1 ⟨rfl, hs1, hb1, hx1, hy1⟩
      have hbs := HR2.out.bl.size
      have hbw : Below w.heap.size w w1 := HR2.out.bl.trans ⟨hb1.os, hb1.tape, hb1.output, hb1.size, fun q hq => hb1.block q (by omega)⟩
      have HB1 := Lib.hid hbw
      have HX := Lib.hid hx1
      have HY := Lib.hid hy1
      have HR3 := Lib.hid (HR2.out.kept (fun k hk _ => hb1.block k hk) hbw)
      clear hb1 hx1 hy1 hbw
      go_wp2_with fail
      with_reducible refine (appseq_c g n a l w w1 HG.out HF.out hlt HB1.out wr.heap.size hbs HX.out HY.out (okk go n gi) (fun k hk => HR3.out.ok_ge hk) none 0 0 [] rfl (Kd.Q_nil _ _ _ _ _) (by decide)).mono ?_
      rintro e w2 ⟨A2, c2, rfl, hq2, hb2, hk2⟩
      rw [List.nil_append] at hq2 ⊢
      have HR4 := Lib.hid (HR3.out.kept (fun k hk h => hk2 k hk (not_okk h)) (HB1.out.trans hb2))
      have HQ := Lib.hid hq2
      clear hq2 hb2 hk2
      go_wp2
      have hsk := Sk.start (l := l) (n := n) (a := a) h12 h30 HN.out
      have HSK := Lib.hid hsk
      have hcf0 := cf_le (List.replicate n false)
      rw [List.length_replicate] at hcf0
      have hnl0 := nxt_len l a
      clear hsk
      go_loopg [5] 500 (fun kq v5 wr => ∃ (r : List Bool) (todo : List Nat) (A : Option Addr) (c : Nat), v5 = .slice A todo.length c ∧ Kd.Q (Kd.int .i64) 3 wr w.heap.size (okk go n gi) (.slice A todo.length c) (qs todo) ∧ Sk l n a r todo ∧ Rw w wr go n n gi (fun v => if v = a then r else if v < a then ways l n v else List.replicate n false) ∧ todo.length + 31 * cf r < kq)
      case atStart => exact ⟨_, _, _, _, rfl, HQ.out, HSK.out, HR4.out.congr (fun v hv => by
        by_cases e : v = a
        · rw [if_pos e, if_neg (by omega)]
        · rw [if_neg e]), by omega⟩
      case round =>
        clear HQ HR4 HR3 HR2 HX HY HB1 HSK hs1
        obtain ⟨r, todo, A, c, rfl, hq, hsk, hR, hm⟩ := hrel
        cases todo with
        | nil =>
          have hr := hsk.done
          have HR5 := Lib.hid hR
          have HRE := Lib.hid hr
          clear hR hr hq hsk
          go_wp2
          refine ⟨⟨a + 1, by omega, by go_num, HR5.out.congr (fun v hv => ?_)⟩, by simp [intOf]; omega⟩
          by_cases e : v = a
          · subst e
            rw [if_pos rfl, if_pos (by omega)]
            exact HRE.out
          · rw [if_neg e]
            by_cases q : v < a
            · rw [if_pos q, if_pos (by omega)]
            · rw [if_neg q, if_neg (by omega)]
        | cons b t =>
          obtain ⟨k1, rfl⟩ : ∃ k1, gk = k1 + 1 := ⟨gk - 1, by omega⟩
          obtain ⟨gq, oq, A', rfl, cq, hcut, hq'⟩ := Q_pop hq
          have hbn := (hsk.wait b List.mem_cons_self).2
          have c1 := hR.cellRow (v := a) hlt (Nat.le_refl _)
          obtain ⟨x, hx⟩ : ∃ x, x = r.getD b false := ⟨_, rfl⟩
          obtain ⟨c2, f2⟩ := hR.cellBit (v := a) (b := b) hlt hbn
          rw [if_pos rfl, ← hx] at c2
          have d2 : decide (b < n) = true := decide_eq_true hbn
          have hsz := hR.bl.size
          have HQ := Lib.hid hq'
          have HR5 := Lib.hid hR
          have HSK := Lib.hid hsk
          have HX := Lib.hid hx
          clear hq hq' hR hsk hx
          cases x with
          | true =>
            go_wp2
            go_roundg k1
            case measure => omega
            case rel => exact ⟨r, t, _, _, rfl, HQ.out, HSK.out.skip HX.out.symm, HR5.out, by simp only [List.length_cons] at hm; omega⟩
          | false =>
            go_wp2_with fail
            obtain ⟨hsk2, hcf2⟩ := HSK.out.take HX.out.symm h30 HN.out
            have hnl := nxt_len l b
            have hR6 := HR5.out.set (v := a) (b := b) hlt
            have hq6 := Kd.Q_far HQ.out (p := ⟨gi a, b, none⟩) (fun k hk => hk.2 a hlt) (.bool true)
            generalize wr.setCell ⟨gi a, b, none⟩ (.bool true) = wr2 at hR6 hq6 ⊢
            have HR6 := Lib.hid hR6
            have HQ6 := Lib.hid hq6
            have HSK2 := Lib.hid hsk2
            clear hR6 hq6 hsk2 c1 c2 f2 cq
            with_reducible refine (next_c g b wr2).mono ?_
            rintro e w5 ⟨rfl, hs1, hb1, hx1, hy1⟩
            have hbs := HR6.out.bl.size
            have hbw : Below w.heap.size w w5 := HR6.out.bl.trans ⟨hb1.os, hb1.tape, hb1.output, hb1.size, fun q hq => hb1.block q (by omega)⟩
            have HB5 := Lib.hid hbw
            have HX5 := Lib.hid hx1
            have HY5 := Lib.hid hy1
            have HR7 := Lib.hid (HR6.out.kept (fun k hk _ => hb1.block k hk) hbw)
            have hq7 := Kd.Q_below (Kd.Q_mono (Kd.Q_bound HQ6.out) (ok' := fun k => okk go n gi k ∧ k ≠ wr2.heap.size ∧ k ≠ wr2.heap.size + 1) (fun k hk => ⟨hk.1, by have := hk.2.2.1; omega, by have := hk.2.2.1; omega⟩)) hb1
            clear hb1 hx1 hy1 hbw
            go_wp2_with fail
            with_reducible refine (appseq_c g n b l w w5 HG.out HF.out hbn HB5.out wr2.heap.size hbs HX5.out HY5.out (okk go n gi) (fun k hk => HR7.out.ok_ge hk) A' t.length (c - 1) t rfl hq7 (by have := HSK.out.sum; simp only [List.length_cons] at this; omega)).mono ?_
            rintro e w6 ⟨A6, c6, rfl, hq6, hb6, hk6⟩
            have HR8 := Lib.hid (HR7.out.kept (fun k hk h => hk6 k hk (not_okk h)) (HB5.out.trans hb6))
            have HQ8 := Lib.hid hq6
            clear hq6 hb6 hk6 hq7
            go_wp2
            go_roundg k1
            case measure => omega
            case rel => exact ⟨r.set b true, t ++ nxt l b, _, _, (by rw [List.length_append]), HQ8.out, HSK2.out, HR8.out.congr (fun v hv => by
              by_cases e : v = a
              · subst e; simp
              · simp [e]), by simp only [List.length_cons] at hm; rw [List.length_append]; omega⟩
    · have d1 : decide (a < n) = false := decide_eq_false hlt
      obtain rfl : a = n := by omega
      have HR := Lib.hid hR
      clear hR
      go_wp2
      go_ret
      exact ⟨_, _, rfl, HR.out.congr (fun v hv => by rw [if_pos hv])⟩
end Go.Proofs.Ytkpaefeaplgnmaa.G
