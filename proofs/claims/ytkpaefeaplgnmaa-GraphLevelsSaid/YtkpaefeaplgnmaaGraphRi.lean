/- The walk of GraphLevels. -/
import Derived.Test.YtkpaefeaplgnmaaGraphRh
import Derived.Test.YtkpaefeaplgnmaaGraphO
set_option linter.unusedSimpArgs false
set_option linter.unusedVariables false
namespace Go.Proofs.Ytkpaefeaplgnmaa.G
open Go.RowKit Go.Shelf Go.Proofs.Ytkpaefeaplgnmaa.PA Go.Proofs.Ytkpaefeaplgnmaa.Mp Go.Proofs.YtkpaefeaplgnmaaW.PrintWords Go.Proofs.YtkpaefeaplgnmaaW.PrintLast Go.Proofs.YtkpaefeaplgnmaaW.PrintMore

theorem levels_c (g n : Nat) (l : List S53) (r : Nat) (w : World) (hg : IsG w g n l) (hf : Fits n l) (hr : r < n) :
    Calls Try.prog 29 #[.pointer (some ⟨g, 0, none⟩), .int .i64 (r : Int)] w fun e w' => ∃ ad c, e = .returned (.slice (some ad) n c) ∧ (∀ i, i < n → w'.cell? (ad.add i) = some (.int .i64 (lv (levs true n l r) i))) ∧ Below w.heap.size w w' := by
  have hb := levs_spec hr hf.top hf.fit
  refine (levels_any true _ n l r w ⟨g, rfl, hg⟩ (fun _ => hf)).mono ?_
  rintro e w' ⟨x, rfl, hR, hb'⟩
  obtain ⟨A, c, rfl, _, hC⟩ := C_of_R hR
  have hl := hb.len
  obtain ⟨ad, rfl, _⟩ := int_at hC (i := 0) (by omega)
  rw [hl] at hC ⊢
  refine ⟨ad, c, rfl, fun i hi => ?_, hb'⟩
  obtain ⟨ad', e', hc⟩ := int_at hC (i := i) (by omega)
  injection e' with e'
  subst e'
  rw [hc]
  simp [lv, hl, hi]
set_option maxRecDepth 100000 in
set_option maxHeartbeats 8000000 in
theorem glev_ok (w : World) (n : Int) (A : Option Addr) (c : Nat) (l : List S53) (hc : l.length ≤ c) (hr : Kd.C k53 w A l.length l) (ρ : Nat) (hρ : ρ < 256) :
    Calls Try.prog 8 #[.int .i64 n, .slice A l.length c, .int .u8 (ρ : Int)] w fun e w' => e = .returned (.bool true) ∧ Below w.heap.size w w' := by
  have hlt := List.length_take_le 32 l
  have hlc : (l.take 32).length ≤ c := by rw [List.length_take]; omega
  obtain ⟨l', hl'⟩ : ∃ l', l' = l.take 32 := ⟨_, rfl⟩
  have hr' := C_take hr
  rw [← hl'] at hr' hlt hlc
  have HR := Lib.hid hr'
  have HFEW := fun w => few_ok A c l w hc
  rw [← hl'] at HFEW
  clear hr hr' hl'
  cases hok : okG n l' with
  | false =>
    have HOK := Lib.hid hok
    clear hok
    go_enter Try.func8, Try.ntmps8
    go_wp2_with fail
    with_reducible refine (HFEW _).mono ?_
    rintro e w1 ⟨rfl, rfl⟩
    go_wp2_with fail
    with_reducible refine (new_no n A c l' _ HR.out (by omega) HOK.out).mono ?_
    rintro e w4 ⟨rfl, hb⟩
    have HB4 := Lib.hid hb
    clear hb
    go_wp2_with fail
    with_reducible refine (live_ok _).mono ?_
    rintro e w6 ⟨rfl, hb⟩
    have HB6 := Lib.hid (below_step HB4.out hb)
    clear hb
    go_wp2
    go_ret
    exact ⟨rfl, HB6.out⟩
  | true =>
    obtain ⟨N, rfl, hf, hck⟩ := ok_fits hok
    have HF := Lib.hid hf
    have HCK0 := Lib.hid hck
    have h1 := hf.one
    have h12 := hf.top
    have h30 := hf.few
    clear hf hck hok
    go_enter Try.func8, Try.ntmps8
    go_wp2_with fail
    with_reducible refine (HFEW _).mono ?_
    rintro e w1 ⟨rfl, rfl⟩
    go_wp2_with fail
    with_reducible refine (new_ok N A c l' _ HR.out HF.out HCK0.out).mono ?_
    rintro e w2 ⟨g, rfl, hgl, hg, hb⟩
    have HB2 := Lib.hid hb
    have HR2 := Lib.hid (Kd.C_below HR.out hb)
    have HG := Lib.hid hg
    clear hb hg
    go_wp2_with fail
    with_reducible refine (n_ok g N l' _ HG.out).mono ?_
    rintro e w3 ⟨rfl, hb⟩
    have HB3 := Lib.hid (below_step HB2.out hb)
    have HR3 := Lib.hid (Kd.C_below HR2.out hb)
    have HG3 := Lib.hid (HG.out.below hb)
    clear hb
    have hN0 : ((N : Int) == 0) = false := by simp; omega
    go_wp2_with fail
    obtain ⟨r, hre, hrN⟩ : ∃ r : Nat, (ρ : Int) % (N : Int) = (r : Int) ∧ r < N := ⟨ρ % N, by omega, Nat.mod_lt _ (by omega)⟩
    rw [hre]
    clear hre
    with_reducible refine (levels_c g N l' r _ HG3.out HF.out hrN).mono ?_
    rintro e w4 ⟨aK, cK, rfl, hK, hb⟩
    have HB4 := Lib.hid (below_step HB3.out hb)
    have HR4 := Lib.hid (Kd.C_below HR3.out hb)
    have HG4 := Lib.hid (HG3.out.below hb)
    clear hb
    have HK4 := Lib.hid hK
    clear hK
    go_wp2_with fail
    with_reducible refine (reaches_ok g N l' _ HG4.out HF.out).mono ?_
    rintro e w5 ⟨gr, gi, rfl, hRw⟩
    have hb := hRw.bl
    have HB5 := Lib.hid (below_step HB4.out hb)
    have HR5 := Lib.hid (Kd.C_below HR4.out hb)
    have HG5 := Lib.hid (HG4.out.below hb)
    have HK5 := Lib.hid (show ∀ i, i < N → w5.cell? (aK.add i) = some (.int .i64 (lv (levs true N l' r) i)) from fun i hi => (hb.cell (World.block_lt_of_cell? _ _ (HK4.out i hi))).trans (HK4.out i hi))
    have HRa := Lib.hid (hRw.cellRow (v := r) hrN (Nat.le_refl _))
    have HRb := Lib.hid (show ∀ b, b < N → w5.cell? ⟨gi r, b, none⟩ = some (.bool ((ways l' N r).getD b false)) from fun b hbN => (hRw.cellBit (v := r) (b := b) hrN hbN).1)
    clear hb hRw
    go_wp2_with fail
    with_reducible refine (joined_ok g N l' _ HG5.out HF.out).mono ?_
    rintro e w6 ⟨gl, out, rfl, hL, hJo⟩
    have hb := hL.bl
    have HB6 := Lib.hid (below_step HB5.out hb)
    have HR6 := Lib.hid (Kd.C_below HR5.out hb)
    have HG6 := Lib.hid (HG5.out.below hb)
    have HK6 := Lib.hid (show ∀ i, i < N → w6.cell? (aK.add i) = some (.int .i64 (lv (levs true N l' r) i)) from fun i hi => (hb.cell (World.block_lt_of_cell? _ _ (HK5.out i hi))).trans (HK5.out i hi))
    have HRc := Lib.hid ((hb.cell (World.block_lt_of_cell? _ _ HRa.out)).trans HRa.out)
    have HRd := Lib.hid (show ∀ b, b < N → w6.cell? ⟨gi r, b, none⟩ = some (.bool ((ways l' N r).getD b false)) from fun b hbN => (hb.cell (World.block_lt_of_cell? _ _ (HRb.out b hbN))).trans (HRb.out b hbN))
    have HL6 := Lib.hid (show ∀ i, i < N → w6.cell? ⟨gl, i, none⟩ = some (.int .i64 (la out i)) from fun i hi => hL.cell hi)
    have HJO := Lib.hid hJo
    have HBF := Lib.hid (levs_spec hrN h12 HF.out.fit)
    have HSY := Lib.hid (show ∀ x c, Adj l' x c → Adj l' c x from adj_sym (fun e he => ⟨(HF.out.fit e he).1, (HF.out.fit e he).2.2.1⟩))
    clear hb hL hJo HK4 HK5 HRa HRb HR2 HR3 HR4 HR5 HG HG3 HG4 HG5 HCK0
    have k0 := HK6.out r hrN
    rw [HBF.out.root0.2] at k0
    go_wp2_with fail
    with_reducible refine (n_ok g N l' _ HG6.out).mono ?_
    rintro e w7 ⟨rfl, hb7⟩
    have HG7 := Lib.hid (HG6.out.below hb7)
    have HB7 := Lib.hid hb7
    clear hb7
    go_wp2_with fail
    with_reducible refine (n_ok g N l' _ HG7.out).mono ?_
    rintro e w8 ⟨rfl, hb8⟩
    have HG8 := Lib.hid (HG7.out.below hb8)
    have HB8 := Lib.hid (below_step HB7.out hb8)
    clear hb8
    go_wp2_with fail
    with_reducible refine (n_ok g N l' _ HG8.out).mono ?_
    rintro e w9 ⟨rfl, hb9⟩
    have HB9 := Lib.hid (below_step HB8.out hb9)
    clear hb9
    have k9 := (HB9.out.cell (World.block_lt_of_cell? _ _ k0)).trans k0
    have dr : decide (r < N) = true := decide_eq_true hrN
    clear k0
    go_wp2
    clear k9
    go_loopw [12] (fun vk wr => ∃ i : Nat, i ≤ l'.length ∧ vk = .int .i64 i ∧ Below w6.heap.size w6 wr) (fun vk _ => l'.length - (intOf vk).toNat)
    case atStart => exact ⟨0, Nat.zero_le _, rfl, HB9.out⟩
    case round =>
      obtain ⟨i, hi, rfl, hb⟩ := hrel
      by_cases hlt : i < l'.length
      · obtain ⟨ade, rfl, e0, e1⟩ := edge_at HR6.out hlt
        have hfit := HF.out.fit _ (List.getElem_mem hlt)
        have hmem := List.getElem_mem hlt
        obtain ⟨x, hx⟩ : ∃ x : Nat, l'[i].f0 = (x : Int) := ⟨l'[i].f0.toNat, by omega⟩
        obtain ⟨y, hy⟩ : ∃ y : Nat, l'[i].f1 = (y : Int) := ⟨l'[i].f1.toNat, by omega⟩
        have hxn : x < N := by omega
        have hyn : y < N := by omega
        have kx := HK6.out x hxn
        have ky := HK6.out y hyn
        have lx := HL6.out x hxn
        have ly := HL6.out y hyn
        have hlab : la out x = la out y := lab_eq HSY.out HJO.out hxn hyn (.step .refl (.inl ((mem_nxt (fun e he => (HF.out.fit e he).2.2.1)).2 ⟨_, hmem, hx, hy⟩)))
        rw [← hlab] at ly
        rw [hx] at e0
        rw [hy] at e1
        have hrise : 0 ≤ lv (levs true N l' r) x → 0 ≤ lv (levs true N l' r) y ∧ lv (levs true N l' r) y ≤ lv (levs true N l' r) x + 1 := fun h0 => by
          have := HBF.out.done x hxn h0 (by simp) _ hmem hx
          rw [hy, Int.toNat_natCast] at this
          exact this
        have hlo := (HBF.out.lo x hxn)
        obtain ⟨a, ha⟩ : ∃ a, a = lv (levs true N l' r) x := ⟨_, rfl⟩
        obtain ⟨b, hbb⟩ : ∃ b, b = lv (levs true N l' r) y := ⟨_, rfl⟩
        obtain ⟨z, hz⟩ : ∃ z, z = la out x := ⟨_, rfl⟩
        rw [← ha] at kx hrise hlo
        rw [← hbb] at ky hrise
        rw [← hz] at lx ly
        have r0 := (hb.cell (World.block_lt_of_cell? _ _ e0)).trans e0
        have r1 := (hb.cell (World.block_lt_of_cell? _ _ e1)).trans e1
        have r2 := (hb.cell (World.block_lt_of_cell? _ _ kx)).trans kx
        have r3 := (hb.cell (World.block_lt_of_cell? _ _ ky)).trans ky
        have r4 := (hb.cell (World.block_lt_of_cell? _ _ lx)).trans lx
        have r5 := (hb.cell (World.block_lt_of_cell? _ _ ly)).trans ly
        have dx : decide (x < N) = true := decide_eq_true hxn
        have dy : decide (y < N) = true := decide_eq_true hyn
        have di : decide (i < l'.length) = true := decide_eq_true hlt
        have HB := Lib.hid hb
        have hza : a ≤ 100 := by have := hlo.2; omega
        clear hb e0 e1 kx ky lx ly hx hy ha hbb hz hlab hfit hmem hlo
        by_cases h0 : 0 ≤ a
        · obtain ⟨q1, q2⟩ := hrise h0
          obtain ⟨a, rfl⟩ := Int.eq_ofNat_of_zero_le h0
          obtain ⟨b, rfl⟩ := Int.eq_ofNat_of_zero_le q1
          clear hrise
          have dab : decide (a + 1 < b) = false := decide_eq_false (by omega)
          have dab2 : decide ((a : Int) + 1 < (b : Int)) = false := decide_eq_false (by omega)
          have dab3 : ¬ a + 1 < b := by omega
          have hwr : IntKind.i64.wrap ((a : Int) + 1) = (a : Int) + 1 := by rw [IntKind.wrap_i64]; omega
          have db0 : decide ((b : Int) < 0) = false := decide_eq_false (by omega)
          go_wp2
          go_quiet (fail)
          go_wp2
          go_quiet (fail)
          go_wp2
          exact ⟨⟨i + 1, by omega, by go_num, pw_below_drewN HB.out _⟩, by simp [intOf]; omega⟩
        · have da : decide (0 ≤ a) = false := decide_eq_false h0
          clear hrise
          go_wp2
          go_quiet (fail)
          go_wp2
          go_quiet (fail)
          go_wp2
          exact ⟨⟨i + 1, by omega, by go_num, pw_below_drewN HB.out _⟩, by simp [intOf]; omega⟩
      · have di : decide (i < l'.length) = false := decide_eq_false hlt
        have HB := Lib.hid hb
        clear hb
        go_wp2
        go_loopw [15] (fun vk wr => ∃ v : Nat, v ≤ N ∧ vk = .int .i64 v ∧ Below w6.heap.size w6 wr) (fun vk _ => N - (intOf vk).toNat)
        case atStart => exact ⟨0, Nat.zero_le _, rfl, HB.out⟩
        case round =>
          clear HB
          obtain ⟨v, hv, rfl, hb⟩ := hrel
          have HBu := Lib.hid hb
          clear hb
          go_wp2_with fail
          with_reducible refine (n_ok g N l' _ (HG6.out.below HBu.out)).mono ?_
          rintro e w7 ⟨rfl, hb7⟩
          have HBv := Lib.hid (below_step HBu.out hb7)
          clear hb7
          by_cases hvn : v < N
          · have dv : decide (v < N) = true := decide_eq_true hvn
            obtain ⟨z, hz, hzv⟩ := lab_le HJO.out hvn
            have hlw := lev_ways HF.out.fit HBF.out hvn
            have hlr := lev_way HF.out.fit HBF.out hvn
            have hlab : Way l' r v → la out r = la out v := fun hw => lab_eq HSY.out HJO.out hrN hvn (way_con hw)
            have kv := HK6.out v hvn
            have lv_ := HL6.out v hvn
            have lr := HL6.out r hrN
            have bv := HRd.out v hvn
            have hlo := HBF.out.lo v hvn
            obtain ⟨a, ha⟩ : ∃ a, a = lv (levs true N l' r) v := ⟨_, rfl⟩
            obtain ⟨bt, hbt⟩ : ∃ b, b = (ways l' N r).getD v false := ⟨_, rfl⟩
            rw [← ha] at kv hlw hlr hlo
            rw [← hbt] at bv hlw
            rw [hz] at lv_ hlab
            have r0 := (HBv.out.cell (World.block_lt_of_cell? _ _ kv)).trans kv
            have r1 := (HBv.out.cell (World.block_lt_of_cell? _ _ lv_)).trans lv_
            have r3 := (HBv.out.cell (World.block_lt_of_cell? _ _ HRc.out)).trans HRc.out
            have r4 := (HBv.out.cell (World.block_lt_of_cell? _ _ bv)).trans bv
            have hrN' := hrN
            have dr : decide (r < N) = true := decide_eq_true hrN
            have dz : decide (v < z) = false := decide_eq_false (by omega)
            have dz3 : ¬ v < z := by omega
            have hway := (ways_iff (l := l') (n := N) (a := r) (b := v)).1
            rw [← hbt] at hway
            by_cases e : v = r
            · subst e
              have r2 := r1
              have h0 : 0 ≤ a := hlr.2 (.inl rfl)
              obtain ⟨a, rfl⟩ := Int.eq_ofNat_of_zero_le h0
              clear kv lv_ lr bv hlo ha hbt hway hlab hlw hlr hz
              go_wp2
              go_quiet (fail)
              go_wp2
              exact ⟨⟨v + 1, by omega, by go_num, pw_below_drewN HBv.out _⟩, by simp [intOf]; omega⟩
            · have de : ((v : Int) == (r : Int)) = false := by simpa using fun q : (v : Int) = (r : Int) => e (by omega)
              have de2 : (v == r) = false := by simpa using e
              cases bt with
              | true =>
                have hw := (hway rfl).2
                have h0 : 0 ≤ a := hlr.2 (.inr hw)
                rw [hlab hw] at lr
                have r2 := (HBv.out.cell (World.block_lt_of_cell? _ _ lr)).trans lr
                obtain ⟨a, rfl⟩ := Int.eq_ofNat_of_zero_le h0
                clear kv lv_ lr bv hlo ha hbt hway hlab hlw hlr hz
                go_wp2
                go_quiet (fail)
                go_wp2
                exact ⟨⟨v + 1, by omega, by go_num, pw_below_drewN HBv.out _⟩, by simp [intOf]; omega⟩
              | false =>
                have da : decide (0 ≤ a) = false := by rw [hlw]; simp [e]
                have da3 : ¬ 0 ≤ a := of_decide_eq_false da
                clear kv lv_ lr bv hlo ha hbt hway hlab hlw hlr hz
                go_wp2
                go_quiet (fail)
                go_wp2
                exact ⟨⟨v + 1, by omega, by go_num, pw_below_drewN HBv.out _⟩, by simp [intOf]; omega⟩
          · have dv : decide (v < N) = false := decide_eq_false hvn
            go_wp2_with fail
            with_reducible refine (live_ok _).mono ?_
            rintro e w8 ⟨rfl, hb8⟩
            have HB8 := Lib.hid (below_step HBv.out hb8)
            clear hb8
            go_wp2
            go_ret
            exact ⟨rfl, below_step HB6.out HB8.out⟩
theorem glev_w (w : World) (n : Int) (wf : (Lit.int .i64 n).wf = true) (A : Option Addr) (c : Nat) (l : List S53) (hc : l.length ≤ c) (hr : Kd.C k53 w A l.length l) (hg : l.length ≤ maxLen ∧ ∀ x ∈ l, (Lit.int .i64 x.f0).wf = true ∧ (Lit.int .i64 x.f1).wf = true) (hs : l.length * 16 ≤ 140737488351232) (ρ : Int) (wfr : (Lit.int .u8 ρ).wf = true) :
    Calls Try.prog 8 #[.int .i64 n, .slice A l.length c, .int .u8 ρ] w fun e w' => e = .returned (.bool true) ∧ Below w.heap.size w w' := by
  have h : 0 ≤ ρ ∧ ρ < 256 := by
    simp only [Lit.wf, Bool.and_eq_true, decide_eq_true_eq] at wfr
    rw [show IntKind.u8.min = 0 from by decide +kernel, show IntKind.u8.max = 255 from by decide +kernel] at wfr
    omega
  obtain ⟨ρ, rfl⟩ := Int.eq_ofNat_of_zero_le h.1
  exact glev_ok w n A c l hc hr ρ (by omega)
end Go.Proofs.Ytkpaefeaplgnmaa.G
