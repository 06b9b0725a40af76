/- Ra, Rb, Rc, Rd, Re, Rf -/
import Derived.Test.YtpcjppefopjngaaKy
section
/- The document's columns: what lies where; at. -/
set_option linter.unusedSimpArgs false
set_option linter.unusedVariables false
namespace Go.Proofs.Ytpcjppefopjngaa.C
open Go.RowKit Go.Proofs.Ytpcjppefopjngaa.Sk Go.Proofs.Ytpcjppefopjngaa.PA Go.Proofs.Ytpcjppefopjngaa.Mp Go.Proofs.YtpcjppefopjngaaW.PrintWords Go.Proofs.YtpcjppefopjngaaW.PrintLast Go.Proofs.YtpcjppefopjngaaW.PrintMore
/-- A row of a block that is none of the bad ones. -/
def RowAt (bad : Nat → Prop) (W : World) (A : Option Addr) (cs : List Value) : Prop :=
 cs = [] ∨ ∃ b, A = some ⟨b, 0, none⟩ ∧ ¬ bad b ∧ b < W.heap.size ∧ ∀ j v, cs[j]? = some v → W.cell? ⟨b, j, none⟩ = some v
abbrev Rw := Cl × Value
def e4 (p : Rw) : List Value := [.string p.1.nm, .int .u8 p.1.sd, .int .u8 p.1.kd, p.2]
instance : Inhabited Cl := ⟨z0⟩
def InRow (bad : Nat → Prop) (W : World) (p : Rw) : Prop := ∃ Ai ci, p.2 = .slice Ai p.1.vs.length ci ∧ p.1.vs.length ≤ ci ∧ RowAt bad W Ai (p.1.vs.map I)
/-- Block r is the document's table of these columns. -/
structure IsR (W : World) (r : Nat) (n e : Int) (ps : List Rw) (A : Option Addr) (c : Nat) (bad : Nat → Prop) : Prop where
 tb : W.heap[r]? = some (.cells #[I n, I e, .slice A ps.length c] 86 (0, 0))
 cp : ps.length ≤ c
 fm : (A = none ∧ ps = [] ∧ c = 0) ∨ ∃ b, A = some ⟨b, 0, none⟩
 row : RowAt bad W A (ps.flatMap e4)
 inn : ∀ p ∈ ps, InRow bad W p
 me : bad r
 lt : ∀ b, bad b → b < W.heap.size
section
variable {W W' : World} {r : Nat} {n e : Int} {ps : List Rw} {A : Option Addr} {c : Nat} {bad bad' : Nat → Prop}
theorem cell_same {b : Nat} (h : W'.heap[b]? = W.heap[b]?) (j : Nat) : W'.cell? ⟨b, j, none⟩ = W.cell? ⟨b, j, none⟩ := by simp [World.cell?, h]
theorem RowAt.mono {cs : List Value} (h : RowAt bad W A cs) (hs : W.heap.size ≤ W'.heap.size) (hk : ∀ b, b < W.heap.size → ¬ bad b → W'.heap[b]? = W.heap[b]?) (hbad : ∀ b, b < W.heap.size → bad' b → bad b) : RowAt bad' W' A cs := by
 rcases h with h | ⟨b, h1, h2, h3, h4⟩
 ·exact .inl h
 ·exact .inr ⟨b, h1, fun q => h2 (hbad b h3 q), by omega, fun j v hj => (cell_same (hk b h3 h2) j).trans (h4 j v hj)⟩
theorem InRow.mono {p : Rw} (h : InRow bad W p) (hs : W.heap.size ≤ W'.heap.size) (hk : ∀ b, b < W.heap.size → ¬ bad b → W'.heap[b]? = W.heap[b]?) (hbad : ∀ b, b < W.heap.size → bad' b → bad b) : InRow bad' W' p := by
 obtain ⟨Ai, ci, h1, h2, h3⟩ := h
 exact ⟨Ai, ci, h1, h2, h3.mono hs hk hbad⟩
theorem IsR.mono (h : IsR W r n e ps A c bad) (hs : W.heap.size ≤ W'.heap.size) (hr : W'.heap[r]? = W.heap[r]?) (hk : ∀ b, b < W.heap.size → ¬ bad b → W'.heap[b]? = W.heap[b]?) (hbad : ∀ b, b < W.heap.size → bad' b → bad b) (hme : bad' r) (hlt : ∀ b, bad' b → b < W'.heap.size) : IsR W' r n e ps A c bad' :=
 ⟨hr.trans h.tb, h.cp, h.fm, h.row.mono hs hk hbad, fun p hp => (h.inn p hp).mono hs hk hbad, hme, hlt⟩
theorem IsR.rlt (h : IsR W r n e ps A c bad) : r < W.heap.size := (Array.getElem?_eq_some_iff.1 h.tb).1
theorem IsR.below (h : IsR W r n e ps A c bad) (hb : Below W.heap.size W W') : IsR W' r n e ps A c bad :=
 h.mono hb.size (hb.block _ h.rlt) (fun b hb1 _ => hb.block b hb1) (fun _ _ q => q) h.me (fun b q => Nat.lt_of_lt_of_le (h.lt b q) hb.size)
theorem e4_len (p : Rw) : (e4 p).length = 4 := rfl
theorem rows_get {i k : Nat} {p : Rw} (hp : ps[i]? = some p) (hk : k < 4) : (ps.flatMap e4)[i * 4 + k]? = (e4 p)[k]? := by
 have hi := (List.getElem?_eq_some_iff.1 hp).1
 have hq := (List.getElem?_eq_some_iff.1 hp).2
 have h1 : (i * 4 + k) / 4 = i := by omega
 have h2 : (i * 4 + k) % 4 = k := by omega
 have := fm_get (enc := e4) (k := 4) (fun _ => rfl) (by decide) ps (i * 4 + k) (by rw [h1]; exact hi)
 simp only [h1, h2] at this
 rw [this, ← hq]
/-- A column's cells. -/
theorem IsR.cells (h : IsR W r n e ps A c bad) {i : Nat} {p : Rw} (hp : ps[i]? = some p) :
  ∃ b, A = some ⟨b, 0, none⟩ ∧ b < W.heap.size ∧ W.cell? ⟨b, i * 4, none⟩ = some (.string p.1.nm) ∧ W.cell? ⟨b, i * 4 + 1, none⟩ = some (.int .u8 p.1.sd) ∧ W.cell? ⟨b, i * 4 + 2, none⟩ = some (.int .u8 p.1.kd) ∧ W.cell? ⟨b, i * 4 + 3, none⟩ = some p.2 := by
 rcases h.row with h0 | ⟨b, h1, h2, h3, h4⟩
 ·have := fm_len (enc := e4) (k := 4) (fun _ => rfl) ps
  rw [h0] at this
  have hi := (List.getElem?_eq_some_iff.1 hp).1
  simp at this
  omega
 ·exact ⟨b, h1, h3, h4 (i * 4) _ (by rw [show i * 4 = i * 4 + 0 from rfl, rows_get hp (by omega)]; rfl), h4 _ _ (by rw [rows_get hp (by omega)]; rfl), h4 _ _ (by rw [rows_get hp (by omega)]; rfl), h4 _ _ (by rw [rows_get hp (by omega)]; rfl)⟩
theorem InRow.C {p : Rw} (h : InRow bad W p) (hl : p.1.vs.length ≤ 1000) : ∃ Ai ci, p.2 = .slice Ai p.1.vs.length ci ∧ p.1.vs.length ≤ ci ∧ Kd.C (Kd.int .i64) W Ai p.1.vs.length p.1.vs := by
 obtain ⟨Ai, ci, h1, h2, h3⟩ := h
 refine ⟨Ai, ci, h1, h2, rfl, by omega, fun hp => ?_⟩
 rcases h3 with h0 | ⟨b, h5, h6, h7, h8⟩
 ·have : p.1.vs.length = 0 := by rw [← List.length_map (f := I), h0]; rfl
  omega
 ·refine ⟨_, h5, fun j x hj => ?_⟩
  refine ⟨[I x], rfl, rfl, fun i u hu => ?_⟩
  obtain rfl : i = 0 := by
   have := (List.getElem?_eq_some_iff.1 hu).1
   simp at this; omega
  rw [add_plain]
  simp at hu
  subst hu
  have e1 : j * (Kd.int .i64).sz = j := by show j * 1 = j; omega
  simpa [e1] using h8 j (I x) (by rw [List.getElem?_map, hj]; rfl)
end
theorem toList_inj {a b : ByteArray} (h : a.toList = b.toList) : a = b := by
 rw [Lib.toList_data, Lib.toList_data] at h
 cases a; cases b
 simp only [ByteArray.mk.injEq] at h ⊢
 exact Array.toList_inj.1 h
theorem key_eql (a b : ByteArray) (c d : Int) (W : World) : (binOp .eql 25 (.agg #[.string a, .int .u8 c]) (.agg #[.string b, .int .u8 d])).run Try.prog W = .ok (.bool (decide (a = b ∧ c = d))) W := by
 have hu25 := Try.underlying25
 by_cases h1 : a = b
 ·subst h1
  by_cases h2 : c = d
  ·subst h2; go_simp
  ·rw [decide_eq_false (fun h => h2 h.2)]; go_simp
 ·rw [decide_eq_false (fun h => h1 h.1)]
  go_simp
  exact fun h => absurd (toList_inj h) h1
set_option maxRecDepth 100000 in
theorem key_neq (a b : ByteArray) (c d : Int) (W : World) : (binOp .neq 25 (.agg #[.string a, .int .u8 c]) (.agg #[.string b, .int .u8 d])).run Try.prog W = .ok (.bool (!decide (a = b ∧ c = d))) W := by
 have := key_eql a b c d W
 rw [run_neq_struct]
 rw [run_eql_struct] at this
 cases h : (Op.equalIn 10000 25 (.agg #[.string a, .int .u8 c]) (.agg #[.string b, .int .u8 d])).run Try.prog W with
 | ok v w' =>
  rw [h] at this
  simp only [Result.andThen_ok] at this ⊢
  injection this with h1 h2
  injection h1 with h1
  rw [h1, h2]
 | _ => rw [h] at this; cases this
attribute [-go_sem] run_eql_struct run_neq_struct
def cls (ps : List Rw) : List Cl := ps.map (·.1)
def at_ (cs : List Cl) (nm : ByteArray) (sd : Int) : Int := match find cs nm sd with | none => -1 | some i => i
theorem find_ge {cs : List Cl} {nm : ByteArray} {sd : Int} (h : ∀ c ∈ cs, ¬ (c.nm = nm ∧ c.sd = sd)) : find cs nm sd = none := by
 unfold find
 rw [List.findIdx?_eq_none_iff]
 intro c hc
 exact decide_eq_false (h c hc)
theorem find_here {cs : List Cl} {nm : ByteArray} {sd : Int} {i : Nat} (hi : i < cs.length) (h1 : cs[i].nm = nm ∧ cs[i].sd = sd) (h2 : ∀ j (hj : j < i), ¬ (cs[j].nm = nm ∧ cs[j].sd = sd)) : find cs nm sd = some i := by
 unfold find
 rw [List.findIdx?_eq_some_iff_getElem]
 exact ⟨hi, decide_eq_true h1, fun j hj => by simpa using h2 j hj⟩
set_option maxRecDepth 100000 in
theorem at_nil (nm : ByteArray) (sd : Int) (w : World) : Calls Try.prog 43 #[.pointer none, .agg #[.string nm, .int .u8 sd]] w fun e w' => e = .returned (I (-1)) ∧ Below w.heap.size w w' := by
 go_enter Try.func43, Try.ntmps43
 go_wp2
 go_loopw [5] (fun v5 wr => v5 = I 0 ∧ wr = w.alloc (.cells #[.string nm, .int .u8 sd] 25)) (fun _ _ => 0)
 case atStart => exact ⟨rfl, rfl⟩
 case round =>
  obtain ⟨rfl, rfl⟩ := hrel
  go_wp2
  go_ret
  exact ⟨rfl, (Below.refl _ _).alloc (Nat.le_refl _) _⟩
set_option maxRecDepth 100000 in
set_option maxHeartbeats 4000000 in
theorem at_ok (r : Nat) (n e : Int) (ps : List Rw) (A : Option Addr) (c : Nat) (bad : Nat → Prop) (nm : ByteArray) (sd : Int) (w : World) (h : IsR w r n e ps A c bad) (hlen : ps.length ≤ 1000) :
  Calls Try.prog 43 #[.pointer (some ⟨r, 0, none⟩), .agg #[.string nm, .int .u8 sd]] w fun e w' => e = .returned (I (at_ (cls ps) nm sd)) ∧ Below w.heap.size w w' := by
 have hA : Below w.heap.size w (w.alloc (.cells #[.string nm, .int .u8 sd] 25)) := (Below.refl _ w).alloc (Nat.le_refl _) _
 have h1 := h.below hA
 have hkb : (w.alloc (.cells #[.string nm, .int .u8 sd] 25)).heap[w.heap.size]? = some (.cells #[.string nm, .int .u8 sd] 25 (0, 0)) := heap_alloc_new w _
 have k0 : (w.alloc (.cells #[.string nm, .int .u8 sd] 25)).cell? ⟨w.heap.size, 0, none⟩ = some (.string nm) := by rw [cell_of hkb]; rfl
 have k1 : (w.alloc (.cells #[.string nm, .int .u8 sd] 25)).cell? ⟨w.heap.size, 1, none⟩ = some (.int .u8 sd) := by rw [cell_of hkb]; rfl
 have lg : r < w.heap.size := h.rlt
 have HFI := Lib.hid (show ∀ (i : Nat) (p : Rw), ps[i]? = some p → p.1.nm = nm ∧ p.1.sd = sd → (∀ (j : Nat) (p : Rw), ps[j]? = some p → j < i → ¬ (p.1.nm = nm ∧ p.1.sd = sd)) → at_ (cls ps) nm sd = i from fun i p hp hc hno => by
  have hi := (List.getElem?_eq_some_iff.1 hp).1
  have hq := (List.getElem?_eq_some_iff.1 hp).2
  unfold at_
  rw [find_here (i := i) (by unfold cls; rw [List.length_map]; exact hi) (by unfold cls; rw [List.getElem_map, hq]; exact hc) (fun j hj => by
   have hjl : j < ps.length := by omega
   unfold cls
   rw [List.getElem_map]
   exact hno j _ (List.getElem?_eq_getElem hjl) hj)])
 have HFN := Lib.hid (show (∀ (j : Nat) (p : Rw), ps[j]? = some p → j < ps.length → ¬ (p.1.nm = nm ∧ p.1.sd = sd)) → at_ (cls ps) nm sd = -1 from fun hno => by
  unfold at_
  rw [find_ge (fun c hc => by
   obtain ⟨p, hp, rfl⟩ := List.mem_map.1 hc
   obtain ⟨j, hj, hq⟩ := List.getElem_of_mem hp
   exact hno j p (by rw [List.getElem?_eq_getElem hj, hq]) hj)])
 generalize at_ (cls ps) nm sd = res at HFI HFN
 clear h hkb
 go_enter Try.func43, Try.ntmps43
 go_wp2_with fail
 generalize w.alloc (.cells #[.string nm, .int .u8 sd] 25) = w1 at hA h1 k0 k1 ⊢
 have p2 : w1.cell? ⟨r, 2, none⟩ = some (.slice A ps.length c) := by rw [cell_of h1.tb]; rfl
 have H1 := Lib.hid h1
 have HA := Lib.hid hA
 clear h1 hA
 go_loopw [5] (fun v5 wr => ∃ (i q : Nat), i ≤ ps.length ∧ v5 = I i ∧ wr = w1.drewN q ∧ ∀ (j : Nat) (p : Rw), ps[j]? = some p → j < i → ¬ (p.1.nm = nm ∧ p.1.sd = sd)) (fun v5 _ => ps.length - (intOf v5).toNat)
 case atStart => exact ⟨0, 0, Nat.zero_le _, rfl, by simp [World.drewN], fun j _ _ hj => absurd hj (by omega)⟩
 case round =>
  obtain ⟨i, q, hi, rfl, rfl, hno⟩ := hrel
  by_cases hlt : i < ps.length
  ·obtain ⟨p, hp⟩ : ∃ p, ps[i]? = some p := ⟨_, List.getElem?_eq_getElem hlt⟩
   obtain ⟨b, rfl, hbl, q0, q1, q2, q3⟩ := H1.out.cells hp
   have d1 : decide ((i : Int) < (ps.length : Int)) = true := decide_eq_true (by omega)
   have hlt2 : (i : Int) < (ps.length : Int) := by omega
   have HNO := Lib.hid hno
   have HLT := Lib.hid hlt
   have HLEN := Lib.hid hlen
   have HP := Lib.hid hp
   clear hno hp
   by_cases hc : p.1.nm = nm ∧ p.1.sd = sd
   ·have hres := HFI.out i p HP.out hc HNO.out
    subst hres
    have hEQ := fun W : World => key_eql nm nm sd sd W
    rw [decide_eq_true ⟨rfl, rfl⟩] at hEQ
    rw [hc.1] at q0
    rw [hc.2] at q1
    clear hc
    go_wp2_with fail
    repeat (go_quiet (fail); try go_wp2_with fail)
    go_ret
    exact ⟨rfl, pw_below_drewN (pw_below_drewN HA.out _) _⟩
   ·have HC := Lib.hid hc
    have hEQ := fun W : World => key_eql p.1.nm nm p.1.sd sd W
    rw [decide_eq_false hc] at hEQ
    generalize p.1.nm = pn at q0 hEQ
    generalize p.1.sd = pd at q1 hEQ
    clear hc
    go_wp2_with fail
    repeat (go_quiet (fail); try go_wp2_with fail)
    refine ⟨⟨i + 1, _, by have := HLT.out; omega, by go_num, rfl, fun j p hp hj => ?_⟩, by have := HLT.out; simp [intOf]; omega⟩
    by_cases hji : j < i
    ·exact HNO.out j p hp hji
    ·obtain rfl : j = i := by omega
     rw [HP.out] at hp
     injection hp with hp
     subst hp
     exact HC.out
  ·have hil : i = ps.length := by omega
   have hres := HFN.out (fun j p hp hj => hno j p hp (by omega))
   subst hres hil
   have d1 : decide ((ps.length : Int) < (ps.length : Int)) = false := decide_eq_false (by omega)
   clear hlt hlen hno
   go_wp2_with fail
   go_ret
   exact ⟨rfl, pw_below_drewN HA.out _⟩
end Go.Proofs.Ytpcjppefopjngaa.C
end
section
/- The document's columns: New, Len, Get, List, KindOf, Keys. -/
set_option linter.unusedSimpArgs false
set_option linter.unusedVariables false
namespace Go.Proofs.Ytpcjppefopjngaa.C
open Go.RowKit Go.Proofs.Ytpcjppefopjngaa.Sk Go.Proofs.Ytpcjppefopjngaa.PA Go.Proofs.Ytpcjppefopjngaa.Mp Go.Proofs.YtpcjppefopjngaaW.PrintWords Go.Proofs.YtpcjppefopjngaaW.PrintLast Go.Proofs.YtpcjppefopjngaaW.PrintMore
theorem at_none {cs : List Cl} {nm : ByteArray} {sd : Int} (h : find cs nm sd = none) : at_ cs nm sd = -1 := by unfold at_; rw [h]
theorem at_some {cs : List Cl} {nm : ByteArray} {sd : Int} {j : Nat} (h : find cs nm sd = some j) : at_ cs nm sd = j := by unfold at_; rw [h]
theorem find_row {ps : List Rw} {nm : ByteArray} {sd : Int} {j : Nat} (h : find (cls ps) nm sd = some j) : ∃ p, ps[j]? = some p ∧ (cls ps).getD j z0 = p.1 := by
 have hj := find_lt h
 have hj' : j < ps.length := by unfold cls at hj; simpa using hj
 exact ⟨ps[j], List.getElem?_eq_getElem hj', by unfold cls; simp [List.getD, hj']⟩
theorem rlen_ok (r : Nat) (n e : Int) (ps : List Rw) (A : Option Addr) (c : Nat) (bad : Nat → Prop) (sd : Int) (w : World) (h : IsR w r n e ps A c bad) :
  Calls Try.prog 40 #[.pointer (some ⟨r, 0, none⟩), .int .u8 sd] w fun e_ w' => e_ = .returned (I (len n e sd)) ∧ w' = w := by
 have p0 : w.cell? ⟨r, 0, none⟩ = some (I n) := by rw [cell_of h.tb]; rfl
 have p1 : w.cell? ⟨r, 1, none⟩ = some (I e) := by rw [cell_of h.tb]; rfl
 clear h
 unfold len
 by_cases h1 : sd = 1
 ·subst h1
  go_enter Try.func40, Try.ntmps40
  go_wp2
  go_ret
  exact ⟨rfl, rfl⟩
 ·have b1 : (sd == 1) = false := by simpa using h1
  rw [if_neg h1]
  clear h1
  by_cases h2 : sd = 2
  ·subst h2
   go_enter Try.func40, Try.ntmps40
   go_wp2
   go_ret
   exact ⟨rfl, rfl⟩
  ·have b2 : (sd == 2) = false := by simpa using h2
   rw [if_neg h2]
   clear h2
   by_cases h3 : sd = 3
   ·subst h3
    go_enter Try.func40, Try.ntmps40
    go_wp2
    go_ret
    exact ⟨rfl, rfl⟩
   ·have b3 : (sd == 3) = false := by simpa using h3
    rw [if_neg h3]
    clear h3
    go_enter Try.func40, Try.ntmps40
    go_wp2
    go_ret
    exact ⟨rfl, rfl⟩
set_option maxRecDepth 100000 in
set_option maxHeartbeats 4000000 in
theorem rkind_ok (r : Nat) (n e : Int) (ps : List Rw) (A : Option Addr) (c : Nat) (bad : Nat → Prop) (nm : ByteArray) (sd : Int)  (w : World) (h : IsR w r n e ps A c bad) (hlen : ps.length ≤ 1000) (hl : ∀ p ∈ ps, p.1.vs.length ≤ 1000) :
  Calls Try.prog 39 #[.pointer (some ⟨r, 0, none⟩), .agg #[.string nm, .int .u8 sd]] w fun e_ w' => e_ = .returned (.int .u8 (kind (cls ps) nm sd)) ∧ Below w.heap.size w w' := by
 have hA : Below w.heap.size w (w.alloc (.cells #[.string nm, .int .u8 sd] 25)) := (Below.refl _ w).alloc (Nat.le_refl _) _
 have H0 := Lib.hid (h.below hA)
 have hat := at_ok r n e ps A c bad nm sd _ H0.out hlen
 have lr := h.rlt
 unfold kind
 cases hf : find (cls ps) nm sd with
 | none =>
  rw [at_none hf] at hat
  have HG := Lib.hid hat
  clear hat h hf
  go_enter Try.func39, Try.ntmps39
  go_wp2_with fail
  refine HG.out.mono ?_
  rintro e w1 ⟨rfl, hb⟩
  have HB := Lib.hid (below_step hA hb)
  have H1 := Lib.hid (H0.out.below hb)
  clear hb hA
  go_wp2_with fail
  go_ret
  exact ⟨rfl, HB.out⟩
 | some j =>
  obtain ⟨p, hp, hgd⟩ := find_row hf
  rw [at_some hf] at hat
  have HG := Lib.hid hat
  have HP := Lib.hid hp
  simp only
  rw [show (cls ps).getD j ⟨.empty, 0, 0, []⟩ = p.1 from hgd]
  obtain ⟨b, hAb, _⟩ := H0.out.cells hp
  subst hAb
  have hjl : j < ps.length := (List.getElem?_eq_some_iff.1 hp).1
  have hjl2 : (j : Int) < (ps.length : Int) := by omega
  have hmem := List.mem_of_getElem? hp
  obtain ⟨Ai, ci, hsl, hci, hRC⟩ := InRow.C (H0.out.inn p hmem) (hl p hmem)
  have HIN := Lib.hid (H0.out.inn p hmem)
  have hm1000 := hl p hmem
  have HRC := Lib.hid hRC
  obtain ⟨m, hm⟩ : ∃ m, m = p.1.vs.length := ⟨_, rfl⟩
  rw [← hm] at hsl hci hm1000
  try rw [← hm]
  have HM := Lib.hid hm
  have hneg : decide ((j : Int) < 0) = false := decide_eq_false (by omega)
  clear hat h hf hgd hp hmem hRC hm hl
  go_enter Try.func39, Try.ntmps39
  go_wp2_with fail
  refine HG.out.mono ?_
  rintro e w1 ⟨rfl, hb⟩
  have HB := Lib.hid (below_step hA hb)
  have H1 := Lib.hid (H0.out.below hb)
  have p2 : w1.cell? ⟨r, 2, none⟩ = some (.slice (some ⟨b, 0, none⟩) ps.length c) := by rw [cell_of H1.out.tb]; rfl
  obtain ⟨b', hb', hbl, q0, q1, q2, q3⟩ := H1.out.cells HP.out
  obtain rfl : b = b' := by injection hb' with hb'; injection hb' with hb'
  clear hb'
  clear hb hA
  go_wp2_with fail
  go_ret
  exact ⟨rfl, HB.out⟩
set_option maxRecDepth 100000 in
set_option maxHeartbeats 4000000 in
theorem rget_ok (r : Nat) (n e : Int) (ps : List Rw) (A : Option Addr) (c : Nat) (bad : Nat → Prop) (nm : ByteArray) (sd : Int) (i : Int) (w : World) (h : IsR w r n e ps A c bad) (hlen : ps.length ≤ 1000) (hl : ∀ p ∈ ps, p.1.vs.length ≤ 1000) :
  Calls Try.prog 15 #[.pointer (some ⟨r, 0, none⟩), .agg #[.string nm, .int .u8 sd], I i] w fun e_ w' => e_ = .returned (.tuple #[I (getv (cls ps) nm sd i).1, I (getv (cls ps) nm sd i).2]) ∧ Below w.heap.size w w' := by
 have hA : Below w.heap.size w (w.alloc (.cells #[.string nm, .int .u8 sd] 25)) := (Below.refl _ w).alloc (Nat.le_refl _) _
 have H0 := Lib.hid (h.below hA)
 have hat := at_ok r n e ps A c bad nm sd _ H0.out hlen
 have lr := h.rlt
 unfold getv
 cases hf : find (cls ps) nm sd with
 | none =>
  rw [at_none hf] at hat
  have HG := Lib.hid hat
  clear hat h hf
  go_enter Try.func15, Try.ntmps15
  go_wp2_with fail
  refine HG.out.mono ?_
  rintro e w1 ⟨rfl, hb⟩
  have HB := Lib.hid (below_step hA hb)
  have H1 := Lib.hid (H0.out.below hb)
  clear hb hA
  go_wp2_with fail
  go_ret2
  exact ⟨rfl, HB.out⟩
 | some j =>
  obtain ⟨p, hp, hgd⟩ := find_row hf
  rw [at_some hf] at hat
  have HG := Lib.hid hat
  have HP := Lib.hid hp
  simp only
  rw [hgd]
  obtain ⟨b, hAb, _⟩ := H0.out.cells hp
  subst hAb
  have hjl : j < ps.length := (List.getElem?_eq_some_iff.1 hp).1
  have hjl2 : (j : Int) < (ps.length : Int) := by omega
  have hmem := List.mem_of_getElem? hp
  obtain ⟨Ai, ci, hsl, hci, hRC⟩ := InRow.C (H0.out.inn p hmem) (hl p hmem)
  have HIN := Lib.hid (H0.out.inn p hmem)
  have hm1000 := hl p hmem
  have HRC := Lib.hid hRC
  obtain ⟨m, hm⟩ : ∃ m, m = p.1.vs.length := ⟨_, rfl⟩
  rw [← hm] at hsl hci hm1000
  try rw [← hm]
  have HM := Lib.hid hm
  have hneg : decide ((j : Int) < 0) = false := decide_eq_false (by omega)
  clear hat h hf hgd hp hmem hRC hm hl
  by_cases h0 : i < 0
  ·rw [if_pos (.inl h0)]
   have d0 : decide (i < 0) = true := decide_eq_true h0
   go_enter Try.func15, Try.ntmps15
   go_wp2_with fail
   refine HG.out.mono ?_
   rintro e w1 ⟨rfl, hb⟩
   have HB := Lib.hid (below_step hA hb)
   have H1 := Lib.hid (H0.out.below hb)
   clear hb hA
   go_wp2_with fail
   go_ret2
   exact ⟨rfl, HB.out⟩
  ·have d0 : decide (i < 0) = false := decide_eq_false h0
   by_cases h2 : (m : Int) ≤ i
   ·rw [if_pos (.inr h2)]
    have d2 : decide (i ≥ (m : Int)) = true := decide_eq_true h2
    go_enter Try.func15, Try.ntmps15
    go_wp2_with fail
    refine HG.out.mono ?_
    rintro e w1 ⟨rfl, hb⟩
    have HB := Lib.hid (below_step hA hb)
    have H1 := Lib.hid (H0.out.below hb)
    have p2 : w1.cell? ⟨r, 2, none⟩ = some (.slice (some ⟨b, 0, none⟩) ps.length c) := by rw [cell_of H1.out.tb]; rfl
    obtain ⟨b', hb', hbl, q0, q1, q2, q3⟩ := H1.out.cells HP.out
    obtain rfl : b = b' := by injection hb' with hb'; injection hb' with hb'
    clear hb'
    rw [hsl] at q3
    clear hb hA
    go_wp2_with fail
    go_ret2
    exact ⟨rfl, HB.out⟩
   ·rw [if_neg (by omega)]
    have d2 : decide (i ≥ (m : Int)) = false := decide_eq_false h2
    obtain ⟨q, rfl⟩ : ∃ q : Nat, i = (q : Int) := ⟨i.toNat, by omega⟩
    have hqm : q < p.1.vs.length := by have := HM.out; omega
    rw [Int.toNat_natCast]
    obtain ⟨y, hy⟩ : ∃ y, y = p.1.vs.getD q 0 := ⟨_, rfl⟩
    rw [← hy]
    have HY := Lib.hid hy
    clear hy
    have hqm2 : (q : Int) < (m : Int) := by omega
    go_enter Try.func15, Try.ntmps15
    go_wp2_with fail
    refine HG.out.mono ?_
    rintro e w1 ⟨rfl, hb⟩
    have HB := Lib.hid (below_step hA hb)
    have H1 := Lib.hid (H0.out.below hb)
    have p2 : w1.cell? ⟨r, 2, none⟩ = some (.slice (some ⟨b, 0, none⟩) ps.length c) := by rw [cell_of H1.out.tb]; rfl
    obtain ⟨b', hb', hbl, q0, q1, q2, q3⟩ := H1.out.cells HP.out
    obtain rfl : b = b' := by injection hb' with hb'; injection hb' with hb'
    clear hb'
    have hin : InRow bad w1 p := H1.out.inn p (List.mem_of_getElem? HP.out)
    obtain ⟨Aj, cj, hsj, hcj, hrj⟩ := hin
    rw [hsj] at hsl
    injection hsl with e1 e2 e3
    subst e1; subst e3
    rw [hsj, ← HM.out] at q3
    rcases hrj with hr0 | ⟨b2, hb2, _, _, hcell⟩
    ·rw [List.map_eq_nil_iff] at hr0; rw [hr0] at hqm; exact absurd hqm (by simp)
    subst hb2
    have p9 : w1.cell? ⟨b2, q, none⟩ = some (I y) := hcell q _ (by rw [HY.out]; simp [List.getD, hqm])
    clear hb hA hcell hqm hsj hcj e2
    go_wp2_with fail
    go_ret2
    exact ⟨rfl, HB.out⟩
set_option maxRecDepth 100000 in
set_option maxHeartbeats 4000000 in
theorem rlist_ok (r : Nat) (n e : Int) (ps : List Rw) (A : Option Addr) (c : Nat) (bad : Nat → Prop) (nm : ByteArray) (sd : Int)  (w : World) (h : IsR w r n e ps A c bad) (hlen : ps.length ≤ 1000) (hl : ∀ p ∈ ps, p.1.vs.length ≤ 1000) :
  Calls Try.prog 38 #[.pointer (some ⟨r, 0, none⟩), .agg #[.string nm, .int .u8 sd]] w fun e_ w' => (∃ v, e_ = .returned v ∧ Kd.R (Kd.int .i64) 33 w' w.heap.size (fun _ => True) v (list (cls ps) nm sd)) ∧ Below w.heap.size w w' := by
 have hA : Below w.heap.size w (w.alloc (.cells #[.string nm, .int .u8 sd] 25)) := (Below.refl _ w).alloc (Nat.le_refl _) _
 have H0 := Lib.hid (h.below hA)
 have hat := at_ok r n e ps A c bad nm sd _ H0.out hlen
 have lr := h.rlt
 unfold list
 cases hf : find (cls ps) nm sd with
 | none =>
  rw [at_none hf] at hat
  have HG := Lib.hid hat
  clear hat h hf
  go_enter Try.func38, Try.ntmps38
  go_wp2_with fail
  refine HG.out.mono ?_
  rintro e w1 ⟨rfl, hb⟩
  have HB := Lib.hid (below_step hA hb)
  have H1 := Lib.hid (H0.out.below hb)
  clear hb hA
  go_wp2_with fail
  go_ret
  exact ⟨⟨_, rfl, Kd.R_nil _ _ _ _ _⟩, HB.out⟩
 | some j =>
  obtain ⟨p, hp, hgd⟩ := find_row hf
  rw [at_some hf] at hat
  have HG := Lib.hid hat
  have HP := Lib.hid hp
  simp only
  rw [show (cls ps).getD j ⟨.empty, 0, 0, []⟩ = p.1 from hgd]
  obtain ⟨b, hAb, _⟩ := H0.out.cells hp
  subst hAb
  have hjl : j < ps.length := (List.getElem?_eq_some_iff.1 hp).1
  have hjl2 : (j : Int) < (ps.length : Int) := by omega
  have hmem := List.mem_of_getElem? hp
  obtain ⟨Ai, ci, hsl, hci, hRC⟩ := InRow.C (H0.out.inn p hmem) (hl p hmem)
  have HIN := Lib.hid (H0.out.inn p hmem)
  have hm1000 := hl p hmem
  have HRC := Lib.hid hRC
  obtain ⟨m, hm⟩ : ∃ m, m = p.1.vs.length := ⟨_, rfl⟩
  rw [← hm] at hsl hci hm1000
  try rw [← hm]
  have HM := Lib.hid hm
  have hneg : decide ((j : Int) < 0) = false := decide_eq_false (by omega)
  clear hat h hf hgd hp hmem hRC hm hl
  go_enter Try.func38, Try.ntmps38
  go_wp2_with fail
  refine HG.out.mono ?_
  rintro e w1 ⟨rfl, hb⟩
  have HB := Lib.hid (below_step hA hb)
  have H1 := Lib.hid (H0.out.below hb)
  have p2 : w1.cell? ⟨r, 2, none⟩ = some (.slice (some ⟨b, 0, none⟩) ps.length c) := by rw [cell_of H1.out.tb]; rfl
  obtain ⟨b', hb', hbl, q0, q1, q2, q3⟩ := H1.out.cells HP.out
  obtain rfl : b = b' := by injection hb' with hb'; injection hb' with hb'
  clear hb'
  have lr1 := H1.out.rlt
  rw [hsl] at q3
  have hrc1 := Kd.C_below HRC.out hb
  rw [← HM.out] at hrc1
  have HRC1 := Lib.hid hrc1
  clear hb hA hrc1
  go_wp2_with (at_builtin; refine Kd.R_append_rows (Kd.int .i64) (Rr := Kd.K (Kd.int .i64) (w1.alloc (.cells #[] 33))) (w0 := w1) w1.heap.size rfl (.tmp 11) (.tmp 19) 42 33 _ 8 rfl Try.underlying42 info33 rfl (by decide) (by decide) (.slice (some ⟨w1.heap.size, 0, none⟩) 0 0) [] p.1.vs Ai m ci (fun _ => True) (fun _ => False) rfl rfl (R_empty (Kd.int .i64) 33 w1 w1.heap.size (Nat.le_refl _)) ?c1 ?c2 (fun k h => h.elim) (fun _ _ => trivial) ((Below.refl _ _).alloc (Nat.le_refl _) _) (by simp) ?c3 ?_; (case c1 => exact Kd.C_below HRC1.out ((Below.refl _ _).alloc (Nat.le_refl _) _)); (case c2 => (intro x cs h; (exact (show Kd.M (Kd.int .i64) _ _ _ _ _ from h)))); (case c3 => (simp; omega)); intro v1 w2 h1 hb1 _ _; rw [List.nil_append] at h1; have HV1 := Lib.hid (Kd.R_lower h1 HB.out.size); have HB1 := Lib.hid (below_then HB.out HB.out.size hb1); clear h1 hb1)
  go_ret
  exact ⟨⟨_, rfl, HV1.out⟩, HB1.out⟩
set_option maxRecDepth 100000 in
set_option maxHeartbeats 4000000 in
theorem rkeys_ok (r : Nat) (n e : Int) (ps : List Rw) (A : Option Addr) (c : Nat) (bad : Nat → Prop) (w : World) (h : IsR w r n e ps A c bad) (hlen : ps.length ≤ 1000) :
  Calls Try.prog 35 #[.pointer (some ⟨r, 0, none⟩)] w fun e_ w' => (∃ v, e_ = .returned v ∧ Kd.R k25 25 w' w.heap.size (fun _ => True) v ((cls ps).map Cl.k25)) ∧ Below w.heap.size w w' := by
 have H0 := Lib.hid h
 have lr := h.rlt
 have hcl : (cls ps).map Cl.k25 = ps.map (fun p => p.1.k25) := by unfold cls; rw [List.map_map]; rfl
 rw [hcl]
 clear h hcl
 go_enter Try.func35, Try.ntmps35
 go_wp2_with fail
 go_loopw [3, 4] (fun v3 v4 wr => ∃ i : Nat, i ≤ ps.length ∧ v4 = I i ∧ Kd.R k25 25 wr w.heap.size (fun _ => True) v3 ((ps.take i).map (fun p => p.1.k25)) ∧ Below w.heap.size w wr) (fun _ v4 _ => ps.length - (intOf v4).toNat)
 case atStart => exact ⟨0, Nat.zero_le _, rfl, by simpa using Kd.R_nil _ _ _ _ _, Below.refl _ _⟩
 case round =>
  obtain ⟨i, hi, rfl, hv, hb⟩ := hrel
  have HV := Lib.hid hv
  have HB := Lib.hid hb
  have H1 := Lib.hid (H0.out.below hb)
  have p2 : wr.cell? ⟨r, 2, none⟩ = some (.slice A ps.length c) := by rw [cell_of H1.out.tb]; rfl
  clear hb
  by_cases hlt : i < ps.length
  ·obtain ⟨p, hp⟩ : ∃ p, ps[i]? = some p := ⟨_, List.getElem?_eq_getElem hlt⟩
   obtain ⟨b, rfl, hbl, q0, q1, q2, q3⟩ := H1.out.cells hp
   have d1 : decide ((i : Int) < (ps.length : Int)) = true := decide_eq_true (by omega)
   have hlt2 : (i : Int) < (ps.length : Int) := by omega
   have htk : (ps.take (i + 1)).map (fun p => p.1.k25) = (ps.take i).map (fun p => p.1.k25) ++ [p.1.k25] := by
    rw [List.take_succ_eq_append_getElem hlt, List.map_append, (List.getElem?_eq_some_iff.1 hp).2]
    rfl
   have HTK := Lib.hid htk
   obtain ⟨A3, c3, rfl⟩ := Kd.R_slice hv
   rw [List.length_map, List.length_take, Nat.min_eq_left hi] at HV
   rw [List.length_map, List.length_take, Nat.min_eq_left hi]
   obtain ⟨x, hx⟩ : ∃ x, x = p.1.k25 := ⟨_, rfl⟩
   rw [← hx] at HTK
   rw [show p.1.nm = x.f0 by rw [hx]; rfl] at q0
   rw [show p.1.sd = x.f1 by rw [hx]; rfl] at q1
   clear hv hp htk hx
   go_wp2_with (at_builtin; refine Kd.R_append k25 (w0 := w) w.heap.size rfl (.tmp 18) (.tmp 27) 40 25 (.agg #[(.string ⟨#[]⟩), (.int .u8 0)]) 24 rfl Try.underlying40 info25 rfl (by decide) (by decide) (.slice A3 i c3) ((ps.take i).map (fun p => p.1.k25)) x [.string x.f0, .int .u8 x.f1] (fun _ => True) (fun _ => False) rfl ?aX ?aP (fun _ hk => hk.elim) ?aF ?aO ?aB ?aS ?aL ?_; (case aX => rfl); (case aP => exact k25_mkM _ _ _ x); (case aF => exact (fun _ _ => trivial)); (case aO => exact HV.out); (case aB => exact HB.out); (case aS => exact HB.out.size); (case aL => simp only [List.length_map, List.length_take]; omega); intro v1 w1 ho hb hg hat; rw [← HTK.out] at ho; have HO1 := Lib.hid ho; have HB1 := Lib.hid hb; clear ho hb hg hat)
   refine ⟨⟨i + 1, by omega, by go_num, HO1.out, HB1.out⟩, by simp [intOf]; omega⟩
  ·have hil : i = ps.length := by omega
   subst hil
   have d1 : decide ((ps.length : Int) < (ps.length : Int)) = false := decide_eq_false (by omega)
   rw [List.take_length] at hv
   have HV := Lib.hid hv
   clear hlt hv
   go_wp2_with fail
   go_ret
   exact ⟨⟨_, rfl, HV.out⟩, HB.out⟩
theorem rnew_no (n e : Int) (w : World) (h : ¬ inN n e) : Calls Try.prog 31 #[I n, I e] w fun e w' => e = .returned (.pointer none) ∧ Below w.heap.size w w' := by
 unfold inN at h
 by_cases h1 : n < 1
 ·have d1 : decide (n < 1) = true := decide_eq_true h1
  go_enter Try.func31, Try.ntmps31
  go_wp2
  go_ret
  exact ⟨rfl, Below.refl _ _⟩
 ·have d1 : decide (n < 1) = false := decide_eq_false h1
  by_cases h2 : n > 12
  ·have d2 : decide (n > 12) = true := decide_eq_true h2
   go_enter Try.func31, Try.ntmps31
   go_wp2
   go_ret
   exact ⟨rfl, Below.refl _ _⟩
  ·have d2 : decide (n > 12) = false := decide_eq_false h2
   by_cases h3 : e < 0
   ·have d3 : decide (e < 0) = true := decide_eq_true h3
    go_enter Try.func31, Try.ntmps31
    go_wp2
    go_ret
    exact ⟨rfl, Below.refl _ _⟩
   ·have d3 : decide (e < 0) = false := decide_eq_false h3
    have d4 : decide (e > 30) = true := decide_eq_true (by omega)
    clear h
    go_enter Try.func31, Try.ntmps31
    go_wp2
    go_ret
    exact ⟨rfl, Below.refl _ _⟩
theorem rnew_ok (n e : Int) (w : World) (h : inN n e) : Calls Try.prog 31 #[I n, I e] w fun e_ w' => ∃ r, e_ = .returned (.pointer (some ⟨r, 0, none⟩)) ∧ w.heap.size ≤ r ∧ w'.heap[r]? = some (.cells #[I n, I e, .slice none 0 0] 86 (0, 0)) ∧ Below w.heap.size w w' := by
 obtain ⟨h1, h2, h3, h4⟩ := h
 have d1 : decide (n < 1) = false := decide_eq_false (by omega)
 have d2 : decide (n > 12) = false := decide_eq_false (by omega)
 have d3 : decide (e < 0) = false := decide_eq_false (by omega)
 have d4 : decide (e > 30) = false := decide_eq_false (by omega)
 go_enter Try.func31, Try.ntmps31
 go_wp2
 go_ret
 exact ⟨_, rfl, Nat.le_refl _, heap_alloc_new _ _, (Below.refl _ w).alloc (Nat.le_refl _) _⟩
theorem IsR.init {W : World} {r : Nat} {n e : Int} {bad : Nat → Prop} (h : W.heap[r]? = some (.cells #[I n, I e, .slice none 0 0] 86 (0, 0))) (hb : bad r) (hlt : ∀ b, bad b → b < W.heap.size) : IsR W r n e [] none 0 bad :=
 ⟨h, Nat.le_refl _, .inl ⟨rfl, rfl, rfl⟩, .inl rfl, fun p hp => by simp at hp, hb, hlt⟩
end Go.Proofs.Ytpcjppefopjngaa.C
end
section
/- The document's columns: own rows; load. -/
set_option linter.unusedSimpArgs false
set_option linter.unusedVariables false
namespace Go.Proofs.Ytpcjppefopjngaa.C
open Go.RowKit Go.Proofs.Ytpcjppefopjngaa.Sk Go.Proofs.Ytpcjppefopjngaa.PA Go.Proofs.Ytpcjppefopjngaa.Mp Go.Proofs.YtpcjppefopjngaaW.PrintWords Go.Proofs.YtpcjppefopjngaaW.PrintLast Go.Proofs.YtpcjppefopjngaaW.PrintMore
def E4 (x : Rw) (cs : List Value) : Prop := cs = e4 x ∧ x.2.oneCell' = true
/-- Rows by their cells alone. -/
def kR : Kd Rw where
 sz := 4
 E := []
 K := fun _ x cs => E4 x cs
 M := fun _ _ _ x cs => E4 x cs
 K_len := fun h => by rw [h.1]; rfl
 K_one := fun h u hu => by
  rw [h.1] at hu
  simp only [e4, List.mem_cons, List.not_mem_nil, or_false] at hu
  rcases hu with rfl | rfl | rfl | rfl
  ·rfl
  ·rfl
  ·rfl
  ·exact h.2
 K_below := fun _ h => h
 K_of_M := fun h => h
 M_mono := fun _ h => h
 M_bound := fun h => h
 M_move := fun _ h => h
 M_lower := fun _ h => h
section
variable {W W' : World} {r : Nat} {n e : Int} {ps : List Rw} {A : Option Addr} {c : Nat} {bad bad' : Nat → Prop}
theorem own_rowAt {base ty k m : Nat} {v : Value} {cs : List Value} (h : W.ownsRow base ty k v m cs) (h0 : m = 0 → cs = []) (hbad : ∀ b, bad b → b < base) :
  ∃ A c, v = .slice A m c ∧ m ≤ c ∧ RowAt bad W A cs ∧ ((A = none ∧ m = 0 ∧ c = 0) ∨ ∃ b, A = some ⟨b, 0, none⟩) := by
 rcases h.2 with ⟨e0, hl⟩ | ⟨g, cap, cur, e0, hb, hg, hn, hm, hs, ht⟩
 ·subst e0
  obtain rfl : m = 0 := hl
  exact ⟨none, 0, rfl, Nat.le_refl _, .inl (h0 rfl), .inl ⟨rfl, rfl, rfl⟩⟩
 ·refine ⟨_, _, e0, hn, .inr ⟨g, rfl, fun q => by have := hbad g q; omega, (Array.getElem?_eq_some_iff.1 hg).1, fun j u hj => ?_⟩, .inr ⟨g, rfl⟩⟩
  rw [cell_of hg, ← Array.getElem?_toList]
  rw [← ht, List.getElem?_take] at hj
  split at hj
  ·exact hj
  ·cases hj
theorem flat1 : ∀ l : List Int, l.flatMap (fun x => [I x]) = l.map I
 | [] => rfl
 | a :: l => by rw [List.flatMap_cons, flat1 l]; rfl
theorem R_vals {base : Nat} {v : Value} {l : List Int} {cl : Cl} (h : Kd.R (Kd.int .i64) 33 W base (fun _ => True) v l) (hv : cl.vs = l) (hbad : ∀ b, bad b → b < base) : InRow bad W (cl, v) := by
 obtain ⟨hok, inner, hown, hreps⟩ := h
 have hfm : inner = l.flatMap (fun x => [I x]) := fm_of_reps (enc := fun x => [I x]) (k := 1) (fun _ => rfl) (by decide) (fun x c h => h) hreps
 have hm : l.flatMap (fun x => [I x]) = l.map I := flat1 l
 rw [hm] at hfm
 subst hfm
 obtain ⟨A, c, h1, h2, h3, _⟩ := own_rowAt hown (fun q => by rw [List.map_eq_nil_iff]; exact List.length_eq_zero_iff.1 q) hbad
 subst hv
 exact ⟨A, c, h1, h2, h3⟩
theorem InRow.one {p : Rw} (h : InRow bad W p) : p.2.oneCell' = true := by
 obtain ⟨Ai, ci, h1, _⟩ := h
 rw [h1]; rfl
theorem IsR.reads (h : IsR W r n e ps A c bad) (hl : ps.length ≤ 1000) : ReadsRow E4 4 W A ps.length ps := by
 refine ⟨rfl, by omega, fun hp => ?_⟩
 rcases h.row with h0 | ⟨b, h1, h2, h3, h4⟩
 ·have := fm_len (enc := e4) (k := 4) (fun _ => rfl) ps
  rw [h0] at this
  simp at this; omega
 ·refine ⟨_, h1, fun j p hj => ⟨e4 p, rfl, ⟨rfl, (h.inn p (List.mem_of_getElem? hj)).one⟩, fun i u hu => ?_⟩⟩
  have hi : i < 4 := (List.getElem?_eq_some_iff.1 hu).1
  rw [add_plain]
  have := h4 (j * 4 + i) u (by rw [rows_get hj hi]; exact hu)
  simpa using this
theorem grown_bad (hg : W.grownBy W' (some r)) (hr : bad r) : ∀ b, b < W.heap.size → ¬ bad b → W'.heap[b]? = W.heap[b]? := fun b hb hn => hg.block b hb (fun q => hn (by injection q with q; rw [q]; exact hr))
theorem R_rows {base : Nat} {v : Value} {ps : List Rw} (h : Kd.R kR 83 W base (fun _ => True) v ps) : W.ownsRow base 83 4 v ps.length (ps.flatMap e4) := by
 obtain ⟨hok, inner, hown, hreps⟩ := h
 have hfm : inner = ps.flatMap e4 := fm_of_reps (enc := e4) (k := 4) (fun _ => rfl) (by decide) (fun x c h => h.1) hreps
 subst hfm
 exact hown
/-- Another list is laid in. -/
theorem IsR.put {W1 : World} {ps' : List Rw} {v : Value} (h : IsR W r n e ps A c bad) (hb : Below W.heap.size W W1) (hv : W1.ownsRow W.heap.size 83 4 v ps'.length (ps'.flatMap e4)) (hi : ∀ p ∈ ps', InRow bad W1 p) :
  ∃ A' c', v = .slice A' ps'.length c' ∧ IsR (W1.setCell ⟨r, 2, none⟩ v) r n e ps' A' c' bad ∧ W.grownBy (W1.setCell ⟨r, 2, none⟩ v) (some r) := by
 obtain ⟨A', c', h1, h2, h3, h4⟩ := own_rowAt (bad := bad) hv (fun q => by rw [List.length_eq_zero_iff.1 q]; rfl) h.lt
 have hg := setc_grown W1 r 2 v
 have hrb := (hb.block _ h.rlt).trans h.tb
 refine ⟨A', c', h1, ⟨?_, h2, h4.imp (fun q => ⟨q.1, List.length_eq_zero_iff.1 q.2.1, q.2.2⟩) id, h3.mono hg.size (grown_bad hg h.me) (fun _ _ q => q), fun p hp => (hi p hp).mono hg.size (grown_bad hg h.me) (fun _ _ q => q), h.me, fun b q => Nat.lt_of_lt_of_le (h.lt b q) (Nat.le_trans hb.size hg.size)⟩, grown_step hb hg⟩
 rw [← h1]
 simp [World.setCell, Array.getElem?_modify, hrb]
end
theorem set_rows {ps : List Rw} {i : Nat} {p p' : Rw} (hp : ps[i]? = some p) (h1 : p'.1.nm = p.1.nm) (h2 : p'.1.sd = p.1.sd) (h3 : p'.1.kd = p.1.kd) : (ps.set i p').flatMap e4 = (ps.flatMap e4).set (i * 4 + 3) p'.2 := by
 have hi := (List.getElem?_eq_some_iff.1 hp).1
 apply List.ext_getElem?
 intro j
 obtain ⟨q, k, rfl, hk⟩ : ∃ q k, j = q * 4 + k ∧ k < 4 := ⟨j / 4, j % 4, by omega, by omega⟩
 by_cases hq : q < ps.length
 ·by_cases hji : q = i
  ·subst hji
   rw [rows_get (p := p') (by rw [List.getElem?_set_self hi]) hk]
   have hlen : q * 4 + 3 < (ps.flatMap e4).length := by rw [fm_len (k := 4) (fun _ => rfl)]; omega
   by_cases h33 : k = 3
   ·rw [h33, List.getElem?_set_self hlen]; rfl
   ·rw [List.getElem?_set_ne (by omega), rows_get hp hk]
    have : k = 0 ∨ k = 1 ∨ k = 2 := by omega
    rcases this with q | q | q <;> rw [q] <;> simp [e4, h1, h2, h3]
  ·obtain ⟨x, hx⟩ : ∃ x, ps[q]? = some x := ⟨_, List.getElem?_eq_getElem hq⟩
   rw [List.getElem?_set_ne (by omega), rows_get (p := x) (by rw [List.getElem?_set_ne (fun e => hji e.symm)]; exact hx) hk, rows_get hx hk]
 ·rw [List.getElem?_eq_none (by rw [fm_len (k := 4) (fun _ => rfl), List.length_set]; omega), List.getElem?_eq_none (by rw [List.length_set, fm_len (k := 4) (fun _ => rfl)]; omega)]
theorem info83 : (Try.prog.info? 83).map (fun i => (i.zero, i.size, i.bytes)) = some (some (.agg #[.string ⟨#[]⟩, .int .u8 0, .int .u8 0, .slice none 0 0]), 4, 56) := by kernel_rfl
theorem own_form {W : World} {base ty k m : Nat} {v : Value} {cs : List Value} (h : W.ownsRow base ty k v m cs) (h0 : 0 < m) :
  ∃ g cap, ∃ cur : Array Value, v = .slice (some ⟨g, 0, none⟩) m cap ∧ base ≤ g ∧ W.heap[g]? = some (.cells cur ty (0, 0)) ∧ m ≤ cap ∧ cap ≤ maxLen ∧ cur.size = cap * k ∧ cur.toList.take (m * k) = cs := by
 rcases h.2 with ⟨e0, hl⟩ | ⟨g, cap, cur, e0, hb, hg, hn, hm, hs, ht⟩
 ·exact absurd hl (by omega)
 ·exact ⟨g, cap, cur, e0, hb, hg, hn, hm, hs, ht⟩
theorem own_cur {ps : List Rw} {cur : Array Value} {i : Nat} {p : Rw} (ht : cur.toList.take (ps.length * 4) = ps.flatMap e4) (hp : ps[i]? = some p) : cur[i * 4 + 3]? = some p.2 := by
 have hi := (List.getElem?_eq_some_iff.1 hp).1
 have h := rows_get hp (k := 3) (by omega)
 rw [← ht, List.getElem?_take, if_pos (by omega), Array.getElem?_toList] at h
 exact h
set_option maxRecDepth 100000 in
set_option maxHeartbeats 4000000 in
theorem rload_in (r : Nat) (n e : Int) (ps : List Rw) (A : Option Addr) (c : Nat) (bad : Nat → Prop) (i : Nat) (p p' : Rw) (w : World) (h : IsR w r n e ps A c bad) (hlen : ps.length ≤ 1000) (hp : ps[i]? = some p) (h1 : p'.1.nm = p.1.nm) (h2 : p'.1.sd = p.1.sd) (h3 : p'.1.kd = p.1.kd) (hin : InRow bad w p') :
  Calls Try.prog 67 #[.pointer (some ⟨r, 0, none⟩), I i, p'.2] w fun e_ w' => e_ = .returned (.tuple #[]) ∧ ∃ A' c', IsR w' r n e (ps.set i p') A' c' bad ∧ w.grownBy w' (some r) := by
 have p2 : w.cell? ⟨r, 2, none⟩ = some (.slice A ps.length c) := by rw [cell_of h.tb]; rfl
 have lr := h.rlt
 have hi : i < ps.length := (List.getElem?_eq_some_iff.1 hp).1
 have hi2 : (i : Int) < (ps.length : Int) := by omega
 have hA : Below w.heap.size w (w.alloc (.cells #[] 83)) := (Below.refl _ w).alloc (Nat.le_refl _) _
 have H0 := Lib.hid h
 have HP := Lib.hid hp
 have HIN := Lib.hid hin
 obtain ⟨v', hv'⟩ : ∃ v', v' = p'.2 := ⟨_, rfl⟩
 have hst : v'.oneCell' = true := by rw [hv']; exact hin.one
 obtain ⟨Ai, ci, hsl, hcc, _⟩ := id hin
 rw [← hv'] at hsl ⊢
 have HV' := Lib.hid hv'
 generalize p'.1.vs.length = m' at hsl
 subst hsl
 clear hst h hp hin hv'
 go_enter Try.func67, Try.ntmps67
 go_wp2_with (at_builtin; go_loud (refine Kd.R_append_rows kR (Rr := E4) (w0 := w) w.heap.size rfl (.tmp 7) (.tmp 11) 84 83 _ 56 rfl Try.underlying84 info83 rfl (by decide) (by decide) (.slice (some ⟨w.heap.size, 0, none⟩) 0 0) [] ps A ps.length c (fun _ => True) (fun _ => False) rfl rfl (R_empty kR 83 w w.heap.size (Nat.le_refl _)) ?c1 ?c2 (fun k h => h.elim) (fun _ _ => trivial) hA (by simp) ?c3 ?_; (case c1 => exact IsR.reads (H0.out.below hA) hlen); (case c2 => (intro x cs h; exact h)); (case c3 => (simp; omega)); intro v6 w2 h6 hb6 _ _; rw [List.nil_append] at h6; obtain ⟨g, cap, cur, rfl, hbg, hg, hn6, hm6, hs6, ht6⟩ := own_form (R_rows h6) (by omega); have hcur := own_cur ht6 HP.out; have q3 : w2.cell? ⟨g, i * 4 + 3, none⟩ = some p.2 := (cell_of hg).trans hcur; have f3 := free_of hg (i * 4 + 3); have hgl := (Array.getElem?_eq_some_iff.1 hg).1; have hgr : r ≠ g := (by omega); have hrb2 := (hb6.block _ lr).trans H0.out.tb; have hrb3 : (w2.setCell ⟨g, i * 4 + 3, none⟩ (.slice Ai m' ci)).heap[r]? = _ := (Below.heap_setCell _ _ _ _ (fun e => hgr e)).trans hrb2; have c9 : (w2.setCell ⟨g, i * 4 + 3, none⟩ (.slice Ai m' ci)).cell? ⟨r, 2, none⟩ = some (.slice A ps.length c) := (cell_of hrb3).trans rfl; have f9 := free_of hrb3 2; have HG := Lib.hid hg; have HB6 := Lib.hid hb6; have HT6 := Lib.hid ht6; have HN := Lib.hid hn6; have HS6 := Lib.hid hs6; clear h6 hg hb6 ht6 hs6 hcur hrb2 hrb3))
 go_end0
 refine ⟨rfl, ?_⟩
 have hset : (w2.setCell ⟨g, i * 4 + 3, none⟩ (.slice Ai m' ci)).heap[g]? = some (.cells (cur.set! (i * 4 + 3) (.slice Ai m' ci)) 83 (0, 0)) := by simp [World.setCell, Array.getElem?_modify, HG.out]
 have hb3 : Below w.heap.size w (w2.setCell ⟨g, i * 4 + 3, none⟩ (.slice Ai m' ci)) := HB6.out.setCell (p := ⟨g, i * 4 + 3, none⟩) hbg _
 obtain ⟨A', c', e1, e2, e3⟩ := IsR.put (ps' := ps.set i p') H0.out hb3 (v := .slice (some ⟨g, 0, none⟩) ps.length cap) (by
  rw [List.length_set, set_rows HP.out h1 h2 h3, ← HT6.out]
  refine ⟨?_, .inr ⟨g, cap, _, rfl, hbg, hset, HN.out, hm6, ?_, ?_⟩⟩
  ·rw [List.length_set, HT6.out, fm_len (k := 4) (fun _ => rfl)]
  ·simpa using HS6.out
  ·rw [← HV'.out]
   simp [List.take_set]) (fun q hq => by
  rcases List.mem_or_eq_of_mem_set hq with hq | rfl
  ·exact (H0.out.inn q hq).mono hb3.size (fun b hb _ => hb3.block b hb) (fun _ _ z => z)
  ·exact HIN.out.mono hb3.size (fun b hb _ => hb3.block b hb) (fun _ _ z => z))
 exact ⟨A', c', e2, e3⟩
end Go.Proofs.Ytpcjppefopjngaa.C
end
section
/- The document's columns: Set. -/
set_option linter.unusedSimpArgs false
set_option linter.unusedVariables false
namespace Go.Proofs.Ytpcjppefopjngaa.C
open Go.RowKit Go.Proofs.Ytpcjppefopjngaa.Sk Go.Proofs.Ytpcjppefopjngaa.PA Go.Proofs.Ytpcjppefopjngaa.Mp Go.Proofs.YtpcjppefopjngaaW.PrintWords Go.Proofs.YtpcjppefopjngaaW.PrintLast Go.Proofs.YtpcjppefopjngaaW.PrintMore
theorem gr_ofBelow {w w' : World} {r : Nat} (hb : Below w.heap.size w w') : w.grownBy w' (some r) := ⟨hb.os, hb.tape, hb.output, hb.size, fun k hk _ => hb.block k hk⟩
theorem fits_ref {kd : Int} (hk : kd = 1 ∨ kd = 2) (x : Int) : reticuleref04_fits.f kd x = some (fits kd [x]) := by
 unfold reticuleref04_fits.f fits
 rcases hk with rfl | rfl
 ·simp
 ·by_cases h0 : x = 0
  ·simp [h0]
  ·by_cases h1 : x = 1 <;> simp [h0, h1]
theorem upd_row {ps : List Rw} {j : Nat} {p : Rw} {vs : List Int} (hp : ps[j]? = some p) (hgd : (cls ps).getD j z0 = p.1) {v : Value} : cls (ps.set j ({ p.1 with vs := vs }, v)) = upd (cls ps) j vs := by
 unfold upd
 rw [hgd]
 unfold cls
 rw [List.map_set]
theorem R_own {W : World} {base : Nat} {v : Value} {l : List Int} (h : Kd.R (Kd.int .i64) 33 W base (fun _ => True) v l) : W.ownsRow base 33 1 v l.length (l.map I) := by
 obtain ⟨hok, inner, hown, hreps⟩ := h
 have hfm : inner = l.flatMap (fun x => [I x]) := fm_of_reps (enc := fun x => [I x]) (k := 1) (fun _ => rfl) (by decide) (fun x c h => h) hreps
 rw [flat1] at hfm
 subst hfm
 exact hown
theorem own_vals {W : World} {base : Nat} {v : Value} {bad : Nat → Prop} {cl : Cl} {l : List Int} (h : W.ownsRow base 33 1 v l.length (l.map I)) (hc : cl.vs = l) (hbad : ∀ b, bad b → b < base) : InRow bad W (cl, v) := by
 obtain ⟨A, c, h1, h2, h3, _⟩ := own_rowAt h (fun q => by rw [List.map_eq_nil_iff]; exact List.length_eq_zero_iff.1 q) hbad
 subst hc
 exact ⟨A, c, h1, h2, h3⟩
theorem own_set {W : World} {base g m cap : Nat} {l : List Int} (hl : l.length = m) (h : W.ownsRow base 33 1 (.slice (some ⟨g, 0, none⟩) m cap) m (l.map I)) (hm : 0 < m) (q : Nat) (x : Int) : (W.setCell ⟨g, q, none⟩ (I x)).ownsRow base 33 1 (.slice (some ⟨g, 0, none⟩) m cap) m ((l.set q x).map I) := by
 obtain ⟨g', cap', cur, e0, hb, hg, hn, hm6, hs, ht⟩ := own_form h hm
 injection e0 with e1 e2 e3
 injection e1 with e1
 injection e1 with e1
 subst e1; subst e3
 refine ⟨by rw [List.length_map, List.length_set, hl, Nat.mul_one], .inr ⟨g, cap, cur.set! q (I x), rfl, hb, by simp [World.setCell, Array.getElem?_modify, hg], hn, hm6, by simpa using hs, ?_⟩⟩
 rw [List.map_set, ← ht]
 simp [List.take_set]
theorem own_at {W : World} {base g m cap : Nat} {l : List Int} (hl : l.length = m) (h : W.ownsRow base 33 1 (.slice (some ⟨g, 0, none⟩) m cap) m (l.map I)) {q : Nat} (hq : q < m) : base ≤ g ∧ g < W.heap.size ∧ W.frozen? ⟨g, q, none⟩ = false ∧ W.cell? ⟨g, q, none⟩ = some (I (l.getD q 0)) := by
 obtain ⟨g', cap', cur, e0, hb, hg, hn, hm6, hs, ht⟩ := own_form h (by omega)
 injection e0 with e1 e2 e3
 injection e1 with e1
 injection e1 with e1
 subst e1; subst e3
 refine ⟨hb, (Array.getElem?_eq_some_iff.1 hg).1, free_of hg q, ?_⟩
 rw [cell_of hg, ← Array.getElem?_toList]
 have : (l.map I)[q]? = some (I (l.getD q 0)) := by simp [List.getD, hl, hq]
 rw [← ht, List.getElem?_take, if_pos (by omega)] at this
 exact this
set_option maxRecDepth 100000 in
set_option maxHeartbeats 4000000 in
theorem rset_ok (r : Nat) (n e : Int) (ps : List Rw) (A : Option Addr) (c : Nat) (bad : Nat → Prop) (nm : ByteArray) (sd : Int) (i x : Int) (w : World) (h : IsR w r n e ps A c bad) (hlen : ps.length ≤ 1000) (hl : ∀ p ∈ ps, p.1.vs.length ≤ 1000) (hk : ∀ p ∈ ps, p.1.kd = 1 ∨ p.1.kd = 2) :
  Calls Try.prog 49 #[.pointer (some ⟨r, 0, none⟩), .agg #[.string nm, .int .u8 sd], I i, I x] w fun e_ w' => e_ = .returned (I (setv (cls ps) nm sd i x).1) ∧ ∃ ps' A' c', IsR w' r n e ps' A' c' bad ∧ cls ps' = (setv (cls ps) nm sd i x).2 ∧ w.grownBy w' (some r) := by
 have hA : Below w.heap.size w (w.alloc (.cells #[.string nm, .int .u8 sd] 25)) := (Below.refl _ w).alloc (Nat.le_refl _) _
 have H0 := Lib.hid (h.below hA)
 have HT0 := Lib.hid h
 have hat := at_ok r n e ps A c bad nm sd _ H0.out hlen
 have lr := h.rlt
 unfold setv
 cases hf : find (cls ps) nm sd with
 | none =>
  rw [at_none hf] at hat
  have HG := Lib.hid hat
  clear hat h hf hl hk
  go_enter Try.func49, Try.ntmps49
  go_wp2_with fail
  refine HG.out.mono ?_
  rintro e w1 ⟨rfl, hb⟩
  have HB := Lib.hid (below_step hA hb)
  have H1 := Lib.hid (H0.out.below hb)
  clear hb hA
  go_wp2_with fail
  go_ret
  exact ⟨rfl, ⟨ps, _, _, HT0.out.below HB.out, rfl, gr_ofBelow HB.out⟩⟩
 | some j =>
  obtain ⟨p, hp, hgd⟩ := find_row hf
  rw [at_some hf] at hat
  have HG := Lib.hid hat
  have HP := Lib.hid hp
  simp only
  rw [hgd]
  obtain ⟨b, hAb, _⟩ := H0.out.cells hp
  subst hAb
  have hjl : j < ps.length := (List.getElem?_eq_some_iff.1 hp).1
  have hjl2 : (j : Int) < (ps.length : Int) := by omega
  have hmem := List.mem_of_getElem? hp
  obtain ⟨Ai, ci, hsl, hci, hRC⟩ := InRow.C (H0.out.inn p hmem) (hl p hmem)
  have HIN := Lib.hid (H0.out.inn p hmem)
  have hm1000 := hl p hmem
  have HRC := Lib.hid hRC
  obtain ⟨m, hm⟩ : ∃ m, m = p.1.vs.length := ⟨_, rfl⟩
  rw [← hm] at hsl hci hm1000
  try rw [← hm]
  have HM := Lib.hid hm
  have hkd := hk p hmem
  have HU := Lib.hid (fun (vs : List Int) (v : Value) => upd_row (vs := vs) (v := v) hp hgd)
  have hneg : decide ((j : Int) < 0) = false := decide_eq_false (by omega)
  clear hat h hf hgd hp hmem hRC hm hl hk
  obtain ⟨kd, hkdd⟩ : ∃ kd, kd = p.1.kd := ⟨_, rfl⟩
  rw [← hkdd] at hkd ⊢
  have HKD := Lib.hid hkdd
  clear hkdd
  by_cases h0 : i < 0
  ·rw [if_pos (.inl h0)]
   have d0 : decide (i < 0) = true := decide_eq_true h0
   go_enter Try.func49, Try.ntmps49
   go_wp2_with fail
   refine HG.out.mono ?_
   rintro e w1 ⟨rfl, hb⟩
   have HB := Lib.hid (below_step hA hb)
   have H1 := Lib.hid (H0.out.below hb)
   clear hb hA
   go_wp2_with fail
   go_ret
   exact ⟨rfl, ⟨ps, _, _, HT0.out.below HB.out, rfl, gr_ofBelow HB.out⟩⟩
  ·have d0 : decide (i < 0) = false := decide_eq_false h0
   by_cases h2 : (m : Int) ≤ i
   ·rw [if_pos (.inr h2)]
    have d2 : decide (i ≥ (m : Int)) = true := decide_eq_true h2
    go_enter Try.func49, Try.ntmps49
    go_wp2_with fail
    refine HG.out.mono ?_
    rintro e w1 ⟨rfl, hb⟩
    have HB := Lib.hid (below_step hA hb)
    have H1 := Lib.hid (H0.out.below hb)
    have p2 : w1.cell? ⟨r, 2, none⟩ = some (.slice (some ⟨b, 0, none⟩) ps.length c) := by rw [cell_of H1.out.tb]; rfl
    obtain ⟨b', hb', hbl, q0, q1, q2, q3⟩ := H1.out.cells HP.out
    obtain rfl : b = b' := by injection hb' with hb'; injection hb' with hb'
    clear hb'
    rw [hsl] at q3
    clear hb hA
    go_wp2_with fail
    go_ret
    exact ⟨rfl, ⟨ps, _, _, HT0.out.below HB.out, rfl, gr_ofBelow HB.out⟩⟩
   ·rw [if_neg (by omega)]
    have d2 : decide (i ≥ (m : Int)) = false := decide_eq_false h2
    obtain ⟨q, rfl⟩ : ∃ q : Nat, i = (q : Int) := ⟨i.toNat, by omega⟩
    have hqm : q < m := by omega
    have hm0 : 0 < m := by omega
    rw [Int.toNat_natCast]
    have hqm2 : (q : Int) < (m : Int) := by omega
    by_cases hfit : fits kd [x] = true
    ·rw [if_pos hfit]
     go_enter Try.func49, Try.ntmps49
     go_wp2_with fail
     refine HG.out.mono ?_
     rintro e w1 ⟨rfl, hb⟩
     have HB := Lib.hid (below_step hA hb)
     have H1 := Lib.hid (H0.out.below hb)
     have p2 : w1.cell? ⟨r, 2, none⟩ = some (.slice (some ⟨b, 0, none⟩) ps.length c) := by rw [cell_of H1.out.tb]; rfl
     obtain ⟨b', hb', hbl, q0, q1, q2, q3⟩ := H1.out.cells HP.out
     obtain rfl : b = b' := by injection hb' with hb'; injection hb' with hb'
     clear hb'
     rw [← HKD.out] at q2
     rw [hsl] at q3
     have hrc1 := Kd.C_below HRC.out hb
     rw [← HM.out] at hrc1
     have lr1 := H1.out.rlt
     clear hb hA
     go_wp2_with fail
     refine (reticuleref04_fits.calls kd x _ _ (fits_ref hkd x)).mono ?_
     rintro e w2 ⟨rfl, hd2⟩
     rw [hfit]
     have hb2 : Below w1.heap.size w1 w2 := by
      obtain ⟨k, rfl⟩ := hd2
      exact pw_below_drewN (Below.refl _ _) k
     have HB2 := Lib.hid (below_then HB.out HB.out.size hb2)
     have HRC2 := Lib.hid (Kd.C_below hrc1 hb2)
     have lr2 : r < w2.heap.size := Nat.lt_of_lt_of_le lr1 hb2.size
     have hbl2 : b < w2.heap.size := Nat.lt_of_lt_of_le hbl hb2.size
     have p2' : w2.cell? ⟨r, 2, none⟩ = some (.slice (some ⟨b, 0, none⟩) ps.length c) := by rw [cell_of (H1.out.below hb2).tb]; rfl
     have q3' : w2.cell? ⟨b, j * 4 + 3, none⟩ = some (.slice Ai m ci) := pw_cell_below hb2 q3
     have H2 := Lib.hid (H1.out.below hb2)
     clear hrc1 hd2 hb2 p2 q0 q1 q2 q3
     go_wp2_with (at_builtin; go_loud (refine Kd.R_append_rows (Kd.int .i64) (Rr := Kd.K (Kd.int .i64) (w2.alloc (.cells #[] 33))) (w0 := w2) w2.heap.size rfl (.tmp 48) (.tmp 56) 42 33 _ 8 rfl Try.underlying42 info33 rfl (by decide) (by decide) (.slice (some ⟨w2.heap.size, 0, none⟩) 0 0) [] p.1.vs Ai m ci (fun _ => True) (fun _ => False) rfl rfl (R_empty (Kd.int .i64) 33 w2 w2.heap.size (Nat.le_refl _)) ?c1 ?c2 (fun k h => h.elim) (fun _ _ => trivial) ((Below.refl _ _).alloc (Nat.le_refl _) _) (by simp) ?c3 ?_; (case c1 => exact Kd.C_below HRC2.out ((Below.refl _ _).alloc (Nat.le_refl _) _)); (case c2 => (intro x cs h; (exact (show Kd.M (Kd.int .i64) _ _ _ _ _ from h)))); (case c3 => (simp; omega)); intro v1 w3 h1 hb1 _ _; rw [List.nil_append] at h1; have ho := R_own h1; rw [← HM.out] at ho; obtain ⟨g, cap, cur, rfl, hbg, hg, hn6, hm6, hs6, ht6⟩ := own_form ho hm0; obtain ⟨_, _, f3, q9⟩ := own_at HM.out.symm ho hqm; generalize p.1.vs.getD q 0 = y0 at q9; have HO := Lib.hid ho; have HB3 := Lib.hid (below_then HB2.out HB2.out.size hb1); have HG := Lib.hid hbg; clear h1 hb1 ho hbg hg hn6 hm6 hs6 ht6))
     have hb4 : Below w.heap.size w (w3.setCell ⟨g, q, none⟩ (I x)) := HB3.out.setCell (p := ⟨g, q, none⟩) (Nat.le_trans HB2.out.size HG.out) _
     have hos := own_set HM.out.symm HO.out hm0 q x
     have hin : InRow bad (w3.setCell ⟨g, q, none⟩ (I x)) ({ p.1 with vs := p.1.vs.set q x }, .slice (some ⟨g, 0, none⟩) m cap) := own_vals (base := w2.heap.size) (l := p.1.vs.set q x) (by rw [List.length_set, ← HM.out]; exact hos) rfl (fun b hb => H2.out.lt b hb)
     refine (rload_in r n e ps (some ⟨b, 0, none⟩) c bad j p ({ p.1 with vs := p.1.vs.set q x }, .slice (some ⟨g, 0, none⟩) m cap) _ (HT0.out.below hb4) hlen HP.out rfl rfl rfl hin).mono ?_
     rintro e w5 ⟨rfl, A', c', hR, hgr⟩
     have HR := Lib.hid hR
     have HGR := Lib.hid (grown_step hb4 hgr)
     clear hR hgr hin hos hb4
     go_wp2_with fail
     go_ret
     exact ⟨rfl, _, _, _, HR.out, HU.out _ _, HGR.out⟩
    ·have hff : fits kd [x] = false := by simpa using hfit
     rw [if_neg hfit]
     go_enter Try.func49, Try.ntmps49
     go_wp2_with fail
     refine HG.out.mono ?_
     rintro e w1 ⟨rfl, hb⟩
     have HB := Lib.hid (below_step hA hb)
     have H1 := Lib.hid (H0.out.below hb)
     have p2 : w1.cell? ⟨r, 2, none⟩ = some (.slice (some ⟨b, 0, none⟩) ps.length c) := by rw [cell_of H1.out.tb]; rfl
     obtain ⟨b', hb', hbl, q0, q1, q2, q3⟩ := H1.out.cells HP.out
     obtain rfl : b = b' := by injection hb' with hb'; injection hb' with hb'
     clear hb'
     rw [← HKD.out] at q2
     rw [hsl] at q3
     clear hb hA
     go_wp2_with fail
     refine (reticuleref04_fits.calls kd x _ _ (fits_ref hkd x)).mono ?_
     rintro e w2 ⟨rfl, hd2⟩
     rw [hff]
     have hb2 : Below w1.heap.size w1 w2 := by
      obtain ⟨k, rfl⟩ := hd2
      exact pw_below_drewN (Below.refl _ _) k
     have HB2 := Lib.hid (below_then HB.out HB.out.size hb2)
     clear hd2 hb2
     go_wp2_with fail
     go_ret
     exact ⟨rfl, ⟨ps, _, _, HT0.out.below HB2.out, rfl, gr_ofBelow HB2.out⟩⟩
end Go.Proofs.Ytpcjppefopjngaa.C
end
section
/- The document's columns: Fill. -/
set_option linter.unusedSimpArgs false
set_option linter.unusedVariables false
namespace Go.Proofs.Ytpcjppefopjngaa.C
open Go.RowKit Go.Proofs.Ytpcjppefopjngaa.Sk Go.Proofs.Ytpcjppefopjngaa.PA Go.Proofs.Ytpcjppefopjngaa.Mp Go.Proofs.YtpcjppefopjngaaW.PrintWords Go.Proofs.YtpcjppefopjngaaW.PrintLast Go.Proofs.YtpcjppefopjngaaW.PrintMore
set_option maxRecDepth 100000 in
set_option maxHeartbeats 4000000 in
theorem rfill_ok (r : Nat) (n e : Int) (ps : List Rw) (A : Option Addr) (c : Nat) (bad : Nat → Prop) (nm : ByteArray) (sd : Int) (x : Int) (w : World) (h : IsR w r n e ps A c bad) (hlen : ps.length ≤ 1000) (hl : ∀ p ∈ ps, p.1.vs.length ≤ 1000) (hk : ∀ p ∈ ps, p.1.kd = 1 ∨ p.1.kd = 2) :
  Calls Try.prog 50 #[.pointer (some ⟨r, 0, none⟩), .agg #[.string nm, .int .u8 sd], I x] w fun e_ w' => e_ = .returned (I (fillv (cls ps) nm sd x).1) ∧ ∃ ps' A' c', IsR w' r n e ps' A' c' bad ∧ cls ps' = (fillv (cls ps) nm sd x).2 ∧ w.grownBy w' (some r) := by
 have hA : Below w.heap.size w (w.alloc (.cells #[.string nm, .int .u8 sd] 25)) := (Below.refl _ w).alloc (Nat.le_refl _) _
 have H0 := Lib.hid (h.below hA)
 have HT0 := Lib.hid h
 have hat := at_ok r n e ps A c bad nm sd _ H0.out hlen
 have lr := h.rlt
 unfold fillv
 cases hf : find (cls ps) nm sd with
 | none =>
  rw [at_none hf] at hat
  have HG := Lib.hid hat
  clear hat h hf hl hk
  go_enter Try.func50, Try.ntmps50
  go_wp2_with fail
  refine HG.out.mono ?_
  rintro e w1 ⟨rfl, hb⟩
  have HB := Lib.hid (below_step hA hb)
  have H1 := Lib.hid (H0.out.below hb)
  clear hb hA
  go_wp2_with fail
  go_ret
  exact ⟨rfl, ⟨ps, _, _, HT0.out.below HB.out, rfl, gr_ofBelow HB.out⟩⟩
 | some j =>
  obtain ⟨p, hp, hgd⟩ := find_row hf
  rw [at_some hf] at hat
  have HG := Lib.hid hat
  have HP := Lib.hid hp
  simp only
  rw [hgd]
  obtain ⟨b, hAb, _⟩ := H0.out.cells hp
  subst hAb
  have hjl : j < ps.length := (List.getElem?_eq_some_iff.1 hp).1
  have hjl2 : (j : Int) < (ps.length : Int) := by omega
  have hmem := List.mem_of_getElem? hp
  obtain ⟨Ai, ci, hsl, hci, hRC⟩ := InRow.C (H0.out.inn p hmem) (hl p hmem)
  have HIN := Lib.hid (H0.out.inn p hmem)
  have hm1000 := hl p hmem
  have HRC := Lib.hid hRC
  obtain ⟨m, hm⟩ : ∃ m, m = p.1.vs.length := ⟨_, rfl⟩
  rw [← hm] at hsl hci hm1000
  try rw [← hm]
  have HM := Lib.hid hm
  have hkd := hk p hmem
  have HU := Lib.hid (fun (vs : List Int) (v : Value) => upd_row (vs := vs) (v := v) hp hgd)
  have hneg : decide ((j : Int) < 0) = false := decide_eq_false (by omega)
  clear hat h hf hgd hp hmem hRC hm hl hk
  obtain ⟨kd, hkdd⟩ : ∃ kd, kd = p.1.kd := ⟨_, rfl⟩
  rw [← hkdd] at hkd ⊢
  have HKD := Lib.hid hkdd
  clear hkdd
  by_cases hfit : fits kd [x] = true
  ·rw [if_pos hfit]
   go_enter Try.func50, Try.ntmps50
   go_wp2_with fail
   refine HG.out.mono ?_
   rintro e w1 ⟨rfl, hb⟩
   have HB := Lib.hid (below_step hA hb)
   have H1 := Lib.hid (H0.out.below hb)
   have p2 : w1.cell? ⟨r, 2, none⟩ = some (.slice (some ⟨b, 0, none⟩) ps.length c) := by rw [cell_of H1.out.tb]; rfl
   obtain ⟨b', hb', hbl, q0, q1, q2, q3⟩ := H1.out.cells HP.out
   obtain rfl : b = b' := by injection hb' with hb'; injection hb' with hb'
   clear hb'
   rw [← HKD.out] at q2
   rw [hsl] at q3
   clear hb hA
   go_wp2_with fail
   refine (reticuleref04_fits.calls kd x _ _ (fits_ref hkd x)).mono ?_
   rintro e w2 ⟨rfl, hd2⟩
   rw [hfit]
   have hb2 : Below w1.heap.size w1 w2 := by
    obtain ⟨k, rfl⟩ := hd2
    exact pw_below_drewN (Below.refl _ _) k
   have HB2 := Lib.hid (below_then HB.out HB.out.size hb2)
   have H2 := Lib.hid (H1.out.below hb2)
   clear hd2 p2 q0 q1 q2 q3 hbl
   clear hb2
   go_wp2_with fail
   go_loopw [8, 9] (fun v8 v9 wr => ∃ q : Nat, q ≤ m ∧ v9 = I q ∧ Kd.R (Kd.int .i64) 33 wr w2.heap.size (fun _ => True) v8 (List.replicate q x) ∧ Below w2.heap.size w2 wr) (fun _ v9 _ => m - (intOf v9).toNat)
   case atStart => exact ⟨0, Nat.zero_le _, rfl, Kd.R_nil _ _ _ _ _, Below.refl _ _⟩
   case round =>
    obtain ⟨q, hq, rfl, hv, hbr⟩ := hrel
    have HBR := Lib.hid hbr
    have H3 := Lib.hid (H2.out.below hbr)
    have p2 : wr.cell? ⟨r, 2, none⟩ = some (.slice (some ⟨b, 0, none⟩) ps.length c) := by rw [cell_of H3.out.tb]; rfl
    obtain ⟨b', hb', hbl, q0, q1, q2, q3⟩ := H3.out.cells HP.out
    obtain rfl : b = b' := by injection hb' with hb'; injection hb' with hb'
    clear hb' hbr
    rw [hsl] at q3
    by_cases hlt : q < m
    ·have dq : decide ((q : Int) < (m : Int)) = true := decide_eq_true (by omega)
     obtain ⟨A8, c8, rfl⟩ := Kd.R_slice hv
     rw [List.length_replicate] at hv ⊢
     have HV := Lib.hid hv
     clear hv
     go_wp2_with (at_builtin; go_loud (refine Kd.R_append (Kd.int .i64) (w0 := w2) w2.heap.size rfl (.tmp 44) (.tmp 46) 42 33 _ 8 rfl Try.underlying42 info33 rfl (by decide) (by decide) (.slice A8 q c8) (List.replicate q x) x [I x] (fun _ => True) (fun _ => False) rfl ?aX ?aP (fun _ hk => hk.elim) ?aF ?aO ?aB ?aS ?aL ?_; (case aX => rfl); (case aP => exact (show Kd.M (Kd.int .i64) _ _ _ _ _ from rfl)); (case aF => exact (fun _ _ => trivial)); (case aO => exact HV.out); (case aB => exact HBR.out); (case aS => exact HBR.out.size); (case aL => (rw [List.length_replicate]; omega)); intro v1 w4 ho hb4 hg hat; rw [← List.replicate_succ'] at ho; have HO1 := Lib.hid ho; have HB4 := Lib.hid hb4; clear ho hb4 hg hat))
     refine ⟨⟨q + 1, by omega, by go_num, HO1.out, HB4.out⟩, by simp [intOf]; omega⟩
    ·have dq : decide ((q : Int) < (m : Int)) = false := decide_eq_false (by omega)
     obtain rfl : q = m := by omega
     obtain ⟨A8, c8, rfl⟩ := Kd.R_slice hv
     rw [List.length_replicate] at hv ⊢
     have HIN2 := Lib.hid (R_vals (bad := bad) (cl := { p.1 with vs := List.replicate q x }) hv rfl (fun b hb => H2.out.lt b hb))
     clear hlt
     go_wp2_with fail
     refine (rload_in r n e ps (some ⟨b, 0, none⟩) c bad j p ({ p.1 with vs := List.replicate q x }, .slice A8 q c8) _ (HT0.out.below (below_then HB2.out HB2.out.size HBR.out)) hlen HP.out rfl rfl rfl HIN2.out).mono ?_
     rintro e w5 ⟨rfl, A', c', hR, hgr⟩
     have HR := Lib.hid hR
     have HGR := Lib.hid (grown_step (below_then HB2.out HB2.out.size HBR.out) hgr)
     clear hR hgr
     go_wp2_with fail
     go_ret
     exact ⟨rfl, _, _, _, HR.out, HU.out _ _, HGR.out⟩
  ·have hff : fits kd [x] = false := by simpa using hfit
   rw [if_neg hfit]
   go_enter Try.func50, Try.ntmps50
   go_wp2_with fail
   refine HG.out.mono ?_
   rintro e w1 ⟨rfl, hb⟩
   have HB := Lib.hid (below_step hA hb)
   have H1 := Lib.hid (H0.out.below hb)
   have p2 : w1.cell? ⟨r, 2, none⟩ = some (.slice (some ⟨b, 0, none⟩) ps.length c) := by rw [cell_of H1.out.tb]; rfl
   obtain ⟨b', hb', hbl, q0, q1, q2, q3⟩ := H1.out.cells HP.out
   obtain rfl : b = b' := by injection hb' with hb'; injection hb' with hb'
   clear hb'
   rw [← HKD.out] at q2
   rw [hsl] at q3
   clear hb hA
   go_wp2_with fail
   refine (reticuleref04_fits.calls kd x _ _ (fits_ref hkd x)).mono ?_
   rintro e w2 ⟨rfl, hd2⟩
   rw [hff]
   have hb2 : Below w1.heap.size w1 w2 := by
    obtain ⟨k, rfl⟩ := hd2
    exact pw_below_drewN (Below.refl _ _) k
   have HB2 := Lib.hid (below_then HB.out HB.out.size hb2)
   have H2 := Lib.hid (H1.out.below hb2)
   clear hd2 p2 q0 q1 q2 q3 hbl
   clear hb2
   go_wp2_with fail
   go_ret
   exact ⟨rfl, ⟨ps, _, _, HT0.out.below HB2.out, rfl, gr_ofBelow HB2.out⟩⟩
end Go.Proofs.Ytpcjppefopjngaa.C
end
section
/- The document's columns: Load. -/
set_option linter.unusedSimpArgs false
set_option linter.unusedVariables false
namespace Go.Proofs.Ytpcjppefopjngaa.C
open Go.RowKit Go.Proofs.Ytpcjppefopjngaa.Sk Go.Proofs.Ytpcjppefopjngaa.PA Go.Proofs.Ytpcjppefopjngaa.Mp Go.Proofs.YtpcjppefopjngaaW.PrintWords Go.Proofs.YtpcjppefopjngaaW.PrintLast Go.Proofs.YtpcjppefopjngaaW.PrintMore
theorem fits_one {kd : Int} {l : List Int} {i : Nat} (h : i < l.length) : fits kd (l.take (i + 1)) = (fits kd (l.take i) && fits kd [l[i]]) := by
 rw [fits_to h]
 congr 1
 simp [fits]
theorem fits_off {kd : Int} {l : List Int} {i : Nat} (h : i < l.length) (hb : fits kd [l[i]] = false) : fits kd l = false := by
 have : fits kd l = (fits kd (l.take (i + 1)) && fits kd (l.drop (i + 1))) := by unfold fits; rw [← List.all_append, List.take_append_drop]
 rw [this, fits_one h, hb]
 simp
theorem fits_all {kd : Int} {l : List Int} {i : Nat} (h : i < l.length) (hf : fits kd l = true) : fits kd [l[i]] = true := by
 by_cases q : fits kd [l[i]] = true
 ·exact q
 ·rw [fits_off h (by simpa using q)] at hf
  cases hf
set_option maxRecDepth 100000 in
set_option maxHeartbeats 4000000 in
theorem rload_ok (r : Nat) (n e : Int) (ps : List Rw) (A : Option Addr) (c : Nat) (bad : Nat → Prop) (nm : ByteArray) (sd : Int) (A2 : Option Addr) (c2 : Nat) (l : List Int) (w : World) (h : IsR w r n e ps A c bad) (hlen : ps.length ≤ 1000) (hl : ∀ p ∈ ps, p.1.vs.length ≤ 1000) (hk : ∀ p ∈ ps, p.1.kd = 1 ∨ p.1.kd = 2) (hL : Kd.C (Kd.int .i64) w A2 l.length l) :
  Calls Try.prog 51 #[.pointer (some ⟨r, 0, none⟩), .agg #[.string nm, .int .u8 sd], .slice A2 l.length c2] w fun e_ w' => e_ = .returned (I (loadv (cls ps) nm sd l).1) ∧ ∃ ps' A' c', IsR w' r n e ps' A' c' bad ∧ cls ps' = (loadv (cls ps) nm sd l).2 ∧ w.grownBy w' (some r) := by
 have hA : Below w.heap.size w (w.alloc (.cells #[.string nm, .int .u8 sd] 25)) := (Below.refl _ w).alloc (Nat.le_refl _) _
 have H0 := Lib.hid (h.below hA)
 have HT0 := Lib.hid h
 have hat := at_ok r n e ps A c bad nm sd _ H0.out hlen
 have lr := h.rlt
 unfold loadv
 cases hf : find (cls ps) nm sd with
 | none =>
  rw [at_none hf] at hat
  have HG := Lib.hid hat
  clear hat h hf hl hk
  go_enter Try.func51, Try.ntmps51
  go_wp2_with fail
  refine HG.out.mono ?_
  rintro e w1 ⟨rfl, hb⟩
  have HB := Lib.hid (below_step hA hb)
  have H1 := Lib.hid (H0.out.below hb)
  clear hb hA
  go_wp2_with fail
  go_ret
  exact ⟨rfl, ⟨ps, _, _, HT0.out.below HB.out, rfl, gr_ofBelow HB.out⟩⟩
 | some j =>
  obtain ⟨p, hp, hgd⟩ := find_row hf
  rw [at_some hf] at hat
  have HG := Lib.hid hat
  have HP := Lib.hid hp
  simp only
  rw [hgd]
  obtain ⟨b, hAb, _⟩ := H0.out.cells hp
  subst hAb
  have hjl : j < ps.length := (List.getElem?_eq_some_iff.1 hp).1
  have hjl2 : (j : Int) < (ps.length : Int) := by omega
  have hmem := List.mem_of_getElem? hp
  obtain ⟨Ai, ci, hsl, hci, hRC⟩ := InRow.C (H0.out.inn p hmem) (hl p hmem)
  have HIN := Lib.hid (H0.out.inn p hmem)
  have hm1000 := hl p hmem
  have HRC := Lib.hid hRC
  obtain ⟨m, hm⟩ : ∃ m, m = p.1.vs.length := ⟨_, rfl⟩
  rw [← hm] at hsl hci hm1000
  try rw [← hm]
  have HM := Lib.hid hm
  have hkd := hk p hmem
  have HU := Lib.hid (fun (vs : List Int) (v : Value) => upd_row (vs := vs) (v := v) hp hgd)
  have hneg : decide ((j : Int) < 0) = false := decide_eq_false (by omega)
  clear hat h hf hgd hp hmem hRC hm hl hk
  obtain ⟨kd, hkdd⟩ : ∃ kd, kd = p.1.kd := ⟨_, rfl⟩
  rw [← hkdd] at hkd ⊢
  have HKD := Lib.hid hkdd
  clear hkdd
  by_cases hlm : l.length = m
  ·rw [if_neg (by simpa using hlm)]
   subst hlm
   by_cases hfit : fits kd l = true
   ·rw [if_pos hfit]
    have HFIT := Lib.hid hfit
    clear hfit
    go_enter Try.func51, Try.ntmps51
    go_wp2_with fail
    refine HG.out.mono ?_
    rintro e w1 ⟨rfl, hb⟩
    have HB := Lib.hid (below_step hA hb)
    have H1 := Lib.hid (H0.out.below hb)
    have p2 : w1.cell? ⟨r, 2, none⟩ = some (.slice (some ⟨b, 0, none⟩) ps.length c) := by rw [cell_of H1.out.tb]; rfl
    obtain ⟨b', hb', hbl, q0, q1, q2, q3⟩ := H1.out.cells HP.out
    obtain rfl : b = b' := by injection hb' with hb'; injection hb' with hb'
    clear hb'
    rw [← HKD.out] at q2
    rw [hsl] at q3
    have HL1 := Lib.hid (Kd.C_below (Kd.C_below hL hA) hb)
    have lr1 := H1.out.rlt
    clear hb hA hL
    go_wp2_with fail
    go_loopw [8] (fun v8 wr => ∃ i q : Nat, i ≤ l.length ∧ v8 = I i ∧ fits kd (l.take i) = true ∧ wr = w1.drewN q) (fun v8 _ => l.length - (intOf v8).toNat)
    case atStart => exact ⟨0, 0, Nat.zero_le _, rfl, by simp [fits], by simp [World.drewN]⟩
    case round =>
     obtain ⟨i, q, hi, rfl, hf, rfl⟩ := hrel
     have HF := Lib.hid hf
     clear hf
     by_cases hlt : i < l.length
     ·have di : decide ((i : Int) < (l.length : Int)) = true := decide_eq_true (by omega)
      have hlt2 : (i : Int) < (l.length : Int) := by omega
      obtain ⟨ad, hA2, hc⟩ := Kd.at_int HL1.out (i : Int) (by omega) (by omega)
      subst hA2
      have hc' : w1.cell? (ad.add i) = some (I l[i]) := by simpa [rd, List.getD, hlt] using hc
      have HY := Lib.hid ((fits_ref hkd l[i]).trans (congrArg some (fits_all hlt HFIT.out)))
      have HTO := Lib.hid ((fits_one (kd := kd) hlt).trans (by rw [HF.out, fits_all hlt HFIT.out]; first | done | rfl))
      clear hc
      generalize l[i] = y at hc' HY
      go_wp2_with fail
      repeat (go_quiet (first | (go_at_call 66; (refine (reticuleref04_fits.calls kd y true _ HY.out).mono ?_); rintro e w' ⟨rfl, ⟨nd, rfl⟩⟩; (try first | exact ⟨rfl, _, World.drewN_drewN _ _ _⟩ | exact ⟨rfl, _, Eq.trans (World.drewN_drewN _ _ _) (congrArg (World.drewN _) (Nat.add_assoc _ _ _))⟩))); try go_wp2_with fail)
      refine ⟨⟨i + 1, _, by omega, by go_num, HTO.out, rfl⟩, by first | (simp [intOf]; done) | (simp [intOf]; omega)⟩
     ·have hil : i = l.length := by omega
      subst hil
      have di : decide ((l.length : Int) < (l.length : Int)) = false := decide_eq_false (by omega)
      have hbq : Below w1.heap.size w1 (w1.drewN q) := pw_below_drewN (Below.refl _ _) q
      have HBQ := Lib.hid hbq
      have HLQ := Lib.hid (Kd.C_below HL1.out hbq)
      have HHQ := Lib.hid (H1.out.below hbq)
      have HBW := Lib.hid (below_then HB.out HB.out.size hbq)
      clear hlt hbq
      have lrq : r < (w1.drewN q).heap.size := HHQ.out.rlt
      go_wp2_with (at_builtin; go_loud (refine Kd.R_append_rows (Kd.int .i64) (Rr := Kd.K (Kd.int .i64) ((w1.drewN q).alloc (.cells #[] 33))) (w0 := w1.drewN q) (w1.drewN q).heap.size rfl (.tmp 53) (.tmp 54) 42 33 _ 8 rfl Try.underlying42 info33 rfl (by decide) (by decide) (.slice (some ⟨(w1.drewN q).heap.size, 0, none⟩) 0 0) [] l A2 l.length c2 (fun _ => True) (fun _ => False) rfl rfl (R_empty (Kd.int .i64) 33 (w1.drewN q) (w1.drewN q).heap.size (Nat.le_refl _)) ?c1 ?c2 (fun k h => h.elim) (fun _ _ => trivial) ((Below.refl _ _).alloc (Nat.le_refl _) _) (by simp) ?c3 ?_; (case c1 => exact Kd.C_below HLQ.out ((Below.refl _ _).alloc (Nat.le_refl _) _)); (case c2 => (intro x cs h; (exact (show Kd.M (Kd.int .i64) _ _ _ _ _ from h)))); (case c3 => (simp; omega)); intro v1 w3 h1 hb1 _ _; rw [List.nil_append] at h1; have HB3 := Lib.hid (below_then HBW.out HBW.out.size hb1); have HIN2 := Lib.hid (R_vals (bad := bad) (cl := { p.1 with vs := l }) h1 rfl (fun b hb => HHQ.out.lt b hb)); obtain ⟨A8, c8, rfl⟩ := Kd.R_slice h1; have HIN3 := Lib.hid (show InRow bad w3 ({ p.1 with vs := l }, .slice A8 l.length c8) from HIN2.out); clear h1 hb1))
      refine (rload_in r n e ps (some ⟨b, 0, none⟩) c bad j p ({ p.1 with vs := l }, .slice A8 l.length c8) _ (HT0.out.below HB3.out) hlen HP.out rfl rfl rfl HIN3.out).mono ?_
      rintro e w5 ⟨rfl, A', c', hR, hgr⟩
      have HR := Lib.hid hR
      have HGR := Lib.hid (grown_step HB3.out hgr)
      clear hR hgr
      go_wp2_with fail
      go_ret
      exact ⟨rfl, _, _, _, HR.out, HU.out _ _, HGR.out⟩
   ·have hff : fits kd l = false := by simpa using hfit
    rw [if_neg hfit]
    go_enter Try.func51, Try.ntmps51
    go_wp2_with fail
    refine HG.out.mono ?_
    rintro e w1 ⟨rfl, hb⟩
    have HB := Lib.hid (below_step hA hb)
    have H1 := Lib.hid (H0.out.below hb)
    have p2 : w1.cell? ⟨r, 2, none⟩ = some (.slice (some ⟨b, 0, none⟩) ps.length c) := by rw [cell_of H1.out.tb]; rfl
    obtain ⟨b', hb', hbl, q0, q1, q2, q3⟩ := H1.out.cells HP.out
    obtain rfl : b = b' := by injection hb' with hb'; injection hb' with hb'
    clear hb'
    rw [← HKD.out] at q2
    rw [hsl] at q3
    have HL1 := Lib.hid (Kd.C_below (Kd.C_below hL hA) hb)
    clear hb hA hL hfit
    go_wp2_with fail
    go_loopw [8] (fun v8 wr => ∃ i q : Nat, i ≤ l.length ∧ v8 = I i ∧ fits kd (l.take i) = true ∧ wr = w1.drewN q) (fun v8 _ => l.length - (intOf v8).toNat)
    case atStart => exact ⟨0, 0, Nat.zero_le _, rfl, by simp [fits], by simp [World.drewN]⟩
    case round =>
     obtain ⟨i, q, hi, rfl, hf, rfl⟩ := hrel
     have HF := Lib.hid hf
     clear hf
     by_cases hlt : i < l.length
     ·have di : decide ((i : Int) < (l.length : Int)) = true := decide_eq_true (by omega)
      have hlt2 : (i : Int) < (l.length : Int) := by omega
      obtain ⟨ad, hA2, hc⟩ := Kd.at_int HL1.out (i : Int) (by omega) (by omega)
      subst hA2
      have hc' : w1.cell? (ad.add i) = some (I l[i]) := by simpa [rd, List.getD, hlt] using hc
      by_cases hy : fits kd [l[i]] = true
      ·have HY := Lib.hid ((fits_ref hkd l[i]).trans (congrArg some hy))
       have HTO := Lib.hid ((fits_one (kd := kd) hlt).trans (by rw [HF.out, hy]; first | done | rfl))
       clear hc hy
       generalize l[i] = y at hc' HY
       go_wp2_with fail
       repeat (go_quiet (first | (go_at_call 66; (refine (reticuleref04_fits.calls kd y true _ HY.out).mono ?_); rintro e w' ⟨rfl, ⟨nd, rfl⟩⟩; (try first | exact ⟨rfl, _, World.drewN_drewN _ _ _⟩ | exact ⟨rfl, _, Eq.trans (World.drewN_drewN _ _ _) (congrArg (World.drewN _) (Nat.add_assoc _ _ _))⟩))); try go_wp2_with fail)
       refine ⟨⟨i + 1, _, by omega, by go_num, HTO.out, rfl⟩, by first | (simp [intOf]; done) | (simp [intOf]; omega)⟩
      ·have HY := Lib.hid ((fits_ref hkd l[i]).trans (congrArg some (show fits kd [l[i]] = false by simpa using hy)))
       clear hc hy
       generalize l[i] = y at hc' HY
       go_wp2_with fail
       repeat (go_quiet (first | (go_at_call 66; (refine (reticuleref04_fits.calls kd y false _ HY.out).mono ?_); rintro e w' ⟨rfl, ⟨nd, rfl⟩⟩; (try first | exact ⟨rfl, _, World.drewN_drewN _ _ _⟩ | exact ⟨rfl, _, Eq.trans (World.drewN_drewN _ _ _) (congrArg (World.drewN _) (Nat.add_assoc _ _ _))⟩))); try go_wp2_with fail)
       go_ret
       exact ⟨rfl, ⟨ps, _, _, HT0.out.below (pw_below_drewN (pw_below_drewN HB.out _) _), rfl, gr_ofBelow (pw_below_drewN (pw_below_drewN HB.out _) _)⟩⟩
     ·have hil : i = l.length := by omega
      subst hil
      have := HF.out
      rw [List.take_length] at this
      rw [this] at hff
      cases hff
  ·rw [if_pos (by simpa using hlm)]
   have hlb : ((l.length : Int) != (m : Int)) = true := by simp; omega
   go_enter Try.func51, Try.ntmps51
   go_wp2_with fail
   refine HG.out.mono ?_
   rintro e w1 ⟨rfl, hb⟩
   have HB := Lib.hid (below_step hA hb)
   have H1 := Lib.hid (H0.out.below hb)
   have p2 : w1.cell? ⟨r, 2, none⟩ = some (.slice (some ⟨b, 0, none⟩) ps.length c) := by rw [cell_of H1.out.tb]; rfl
   obtain ⟨b', hb', hbl, q0, q1, q2, q3⟩ := H1.out.cells HP.out
   obtain rfl : b = b' := by injection hb' with hb'; injection hb' with hb'
   clear hb'
   rw [← HKD.out] at q2
   rw [hsl] at q3
   clear hb hA hlm
   go_wp2_with fail
   go_ret
   exact ⟨rfl, ⟨ps, _, _, HT0.out.below HB.out, rfl, gr_ofBelow HB.out⟩⟩
end Go.Proofs.Ytpcjppefopjngaa.C
end
