/- A deed on columns and on the document's: both tell the same. -/
import Derived.Test.YtpcjppefopjngaaPz
set_option linter.unusedSimpArgs false
set_option linter.unusedVariables false
namespace Go.Proofs.Ytpcjppefopjngaa.C
open Go.RowKit Go.Proofs.Ytpcjppefopjngaa.Sk Go.Proofs.Ytpcjppefopjngaa.PA Go.Proofs.Ytpcjppefopjngaa.Mp Go.Proofs.YtpcjppefopjngaaW.PrintWords Go.Proofs.YtpcjppefopjngaaW.PrintLast Go.Proofs.YtpcjppefopjngaaW.PrintMore
/-- A deed. -/
structure Dd where
 k : Int
 nm : ByteArray
 sd : Int
 of : Int
 i : Int
 x : Int
 l : List Int
def dov (n e : Int) (rs : List Cl) (d : Dd) : List Cl :=
 if d.k = 0 then (rdeclv n e rs d.nm d.sd d.of).2 else if d.k = 1 then (setv rs d.nm d.sd d.i d.x).2 else if d.k = 2 then (fillv rs d.nm d.sd d.x).2 else if d.k = 3 then (loadv rs d.nm d.sd (d.l.take 40)).2 else rs
theorem Bo.same {W W' : World} {own bad : Nat → Prop} {n e : Int} {g r : Nat} {rs rs' : List Cl} (h : Bo W own bad n e g r rs' W') {b : Nat} (hb : b < W.heap.size) (ho : ¬ own b) : W'.heap[b]? = W.heap[b]? := by
 obtain ⟨_, _, _, h, _⟩ := h
 exact h.keep.block b hb ho
theorem Bo.pre {W0 W W' : World} {own bad : Nat → Prop} {n e : Int} {g r : Nat} {rs' : List Cl} (hb : Below W0.heap.size W0 W) (h : Bo W own bad n e g r rs' W') : Bo W0 own bad n e g r rs' W' := by
 obtain ⟨own', bad', h1, h2, h3⟩ := h
 exact ⟨own', bad', h1, ⟨(Keep.of_below (own := own) hb).trans h2.keep (fun b q => .inl q), fun b q => (h2.new b q).imp id (fun q => Nat.le_trans hb.size q), h2.bad⟩, h3⟩
set_option maxRecDepth 100000 in
set_option maxHeartbeats 4000000 in
theorem do0 (w : World) {bad : Nat → Prop} {n e : Int} {g mb r c : Nat} {cs : List Cl} {cb vb : Nat → Nat} {ps : List Rw} {A : Option Addr} (h : Pt w bad n e g mb cs cb vb r ps A c) (k : Int) (nm : ByteArray) (sd of i x : Int) (B : Option Addr) (cap : Nat) (l : List Int) (hn : nm.size ≤ maxLen) (hs : 0 ≤ sd ∧ sd ≤ 255) (ho : 0 ≤ of ∧ of ≤ 255) (hlc : l.length ≤ cap) (hlm : l.length ≤ 9223372036854775807)
  (hL : ∀ W', Keep (Own mb r cs vb) w W' → Kd.C (Kd.int .i64) W' B l.length l) (hk : k = 0) :
  Calls Try.prog 22 #[.pointer (some ⟨g, 0, none⟩), .pointer (some ⟨r, 0, none⟩), .agg #[I k, .string nm, .int .u8 sd, .int .u8 of, I i, I x, .slice B l.length cap]] w fun e_ w' => e_ = .returned (.bool true) ∧ Bo w (Own mb r cs vb) bad n e g r ((rdeclv n e (cls ps) nm sd of).2) w' := by
 have hbw : Below w.heap.size w (w.alloc (.cells #[I k, .string nm, .int .u8 sd, .int .u8 of, I i, I x, .slice B l.length cap] 52)).drew := below_drew (below_alloc (Below.refl _ w) _)
 have HBW := Lib.hid hbw
 have HP := Lib.hid (h.below hbw)
 have HBX : Hid ((w.alloc (.cells #[I k, .string nm, .int .u8 sd, .int .u8 of, I i, I x, .slice B l.length cap] 52)).drew.heap[w.heap.size]? = some (.cells #[I k, .string nm, .int .u8 sd, .int .u8 of, I i, I x, .slice B l.length cap] 52 (0, 0))) := Lib.hid (heap_alloc_new w _)
 have HNO : Hid (¬ Own mb r cs vb w.heap.size) := Lib.hid fun q => by have := h.lt q; omega
 have HBOX : Hid (∀ rs' W', Bo (w.alloc (.cells #[I k, .string nm, .int .u8 sd, .int .u8 of, I i, I x, .slice B l.length cap] 52)).drew (Own mb r cs vb) bad n e g r rs' W' → W'.heap[w.heap.size]? = (w.alloc (.cells #[I k, .string nm, .int .u8 sd, .int .u8 of, I i, I x, .slice B l.length cap] 52)).drew.heap[w.heap.size]?) := Lib.hid fun rs' W' q => q.same (rs := []) (by simp) HNO.out
 have HL := Lib.hid hL
 have HP0 := Lib.hid h
 clear h hL hbw
 subst hk
 obtain ⟨q0, HQ⟩ : ∃ q0, Hid (((rdeclv n e (cls ps) nm sd of)).1 = q0) := ⟨_, Lib.hid rfl⟩
 have HI : Hid (Calls Try.prog 26 #[.pointer (some ⟨g, 0, none⟩), .agg #[.string nm, .int .u8 sd], .int .u8 of] (w.alloc (.cells #[I (0), .string nm, .int .u8 sd, .int .u8 of, I i, I x, .slice B l.length cap] 52)).drew fun e_ W' => e_ = .returned (I q0) ∧ Im (w.alloc (.cells #[I (0), .string nm, .int .u8 sd, .int .u8 of, I i, I x, .slice B l.length cap] 52)).drew bad n e g mb cs vb r ps A c ((rdeclv n e (cls ps) nm sd of).2) W') := Lib.hid (by
  rw [← HQ.out]
  exact im_decl HP.out hn hs of)
 have HR : Hid (∀ W1, Im (w.alloc (.cells #[I (0), .string nm, .int .u8 sd, .int .u8 of, I i, I x, .slice B l.length cap] 52)).drew bad n e g mb cs vb r ps A c ((rdeclv n e (cls ps) nm sd of).2) W1 → Calls Try.prog 48 #[.pointer (some ⟨r, 0, none⟩), .agg #[.string nm, .int .u8 sd], .int .u8 of] W1 fun e_ W' => e_ = .returned (I q0) ∧ Bo (w.alloc (.cells #[I (0), .string nm, .int .u8 sd, .int .u8 of, I i, I x, .slice B l.length cap] 52)).drew (Own mb r cs vb) bad n e g r ((rdeclv n e (cls ps) nm sd of).2) W') := Lib.hid (fun W1 him => by
  rw [← HQ.out]
  exact re_decl HP.out hs ho him)
 clear HQ
 go_enter Try.func22, Try.ntmps22
 go_wp2_with fail
 have hbx := HBX.out
 have c0 : (w.alloc (.cells #[I (0), .string nm, .int .u8 sd, .int .u8 of, I i, I x, .slice B l.length cap] 52)).drew.cell? ⟨w.heap.size, 0, none⟩ = some (I (0)) := by rw [cell_of hbx]; rfl
 have c1 : (w.alloc (.cells #[I (0), .string nm, .int .u8 sd, .int .u8 of, I i, I x, .slice B l.length cap] 52)).drew.cell? ⟨w.heap.size, 1, none⟩ = some (.string nm) := by rw [cell_of hbx]; rfl
 have c2 : (w.alloc (.cells #[I (0), .string nm, .int .u8 sd, .int .u8 of, I i, I x, .slice B l.length cap] 52)).drew.cell? ⟨w.heap.size, 2, none⟩ = some (.int .u8 sd) := by rw [cell_of hbx]; rfl
 have c3 : (w.alloc (.cells #[I (0), .string nm, .int .u8 sd, .int .u8 of, I i, I x, .slice B l.length cap] 52)).drew.cell? ⟨w.heap.size, 3, none⟩ = some (.int .u8 of) := by rw [cell_of hbx]; rfl
 have c4 : (w.alloc (.cells #[I (0), .string nm, .int .u8 sd, .int .u8 of, I i, I x, .slice B l.length cap] 52)).drew.cell? ⟨w.heap.size, 4, none⟩ = some (I i) := by rw [cell_of hbx]; rfl
 have c5 : (w.alloc (.cells #[I (0), .string nm, .int .u8 sd, .int .u8 of, I i, I x, .slice B l.length cap] 52)).drew.cell? ⟨w.heap.size, 5, none⟩ = some (I x) := by rw [cell_of hbx]; rfl
 have c6 : (w.alloc (.cells #[I (0), .string nm, .int .u8 sd, .int .u8 of, I i, I x, .slice B l.length cap] 52)).drew.cell? ⟨w.heap.size, 6, none⟩ = some (.slice B l.length cap) := by rw [cell_of hbx]; rfl
 clear hbx
 refine start_ (n := 14) (S := fun w' => w'.cell? ⟨w.heap.size, 0, none⟩ = some (I (0)) ∧ w'.cell? ⟨w.heap.size, 1, none⟩ = some (.string nm) ∧ w'.cell? ⟨w.heap.size, 2, none⟩ = some (.int .u8 sd) ∧ w'.cell? ⟨w.heap.size, 3, none⟩ = some (.int .u8 of) ∧ w'.cell? ⟨w.heap.size, 4, none⟩ = some (I i) ∧ w'.cell? ⟨w.heap.size, 5, none⟩ = some (I x) ∧ w'.cell? ⟨w.heap.size, 6, none⟩ = some (.slice B l.length cap)) (ds := []) #[false,false,false,false,false,false,false,false,false,false,false,false,false,false] (by kernel_rfl) rfl rfl ⟨c0, c1, c2, c3, c4, c5, c6⟩ (fun hHeld => ?_)
 refine pure_ (i := 0) (N := some 11) (v := ?_) (a' := ?_) #[true,false,false,false,false,false,false,false,false,false,false,false,false,false] rfl rfl (by kernel_rfl) (fun _ _ _ h => h) (Or.inl ⟨by rfl, ?_⟩) ?_ ?_
 rotate_left
 ·intro w'
  go_simp
  with_reducible rfl
 rotate_left
 ·simp only [Act.put, List.setIfInBounds_toArray, List.set_cons_zero, List.set_cons_succ, i64_w, i32_w]
  rfl
 refine pure_ (i := 1) (N := some 12) (v := ?_) (a' := ?_) #[true,true,false,false,false,false,false,false,false,false,false,false,false,false] rfl rfl (by kernel_rfl) (fun _ _ _ h => h) (Or.inl ⟨by rfl, ?_⟩) ?_ ?_
 rotate_left
 ·intro w'
  go_simp
  with_reducible rfl
 rotate_left
 ·simp only [Act.put, List.setIfInBounds_toArray, List.set_cons_zero, List.set_cons_succ, i64_w, i32_w]
  rfl
 refine pure_ (i := 3) (N := some 14) (v := ?_) (a' := ?_) #[true,true,false,true,false,false,false,false,false,false,false,false,false,false] rfl rfl (by kernel_rfl) (fun _ _ _ h => h) (Or.inl ⟨by rfl, ?_⟩) ?_ ?_
 rotate_left
 ·intro w'
  go_simp
  with_reducible rfl
 rotate_left
 ·simp only [Act.put, List.setIfInBounds_toArray, List.set_cons_zero, List.set_cons_succ, i64_w, i32_w]
  rfl
 refine pure_ (i := 6) (N := some 17) (v := ?_) (a' := ?_) #[true,true,false,true,false,false,true,false,false,false,false,false,false,false] rfl rfl (by kernel_rfl) (fun _ _ _ h => h) (Or.inl ⟨by rfl, ?_⟩) ?_ ?_
 rotate_left
 ·intro w'
  go_simp
  with_reducible rfl
 rotate_left
 ·simp only [Act.put, List.setIfInBounds_toArray, List.set_cons_zero, List.set_cons_succ, i64_w, i32_w]
  rfl
 refine pure_ (i := 7) (N := some 18) (v := ?_) (a' := ?_) #[true,true,false,true,false,false,true,true,false,false,false,false,false,false] rfl rfl (by kernel_rfl) (fun _ _ _ h => h) (Or.inl ⟨by rfl, ?_⟩) ?_ ?_
 rotate_left
 ·intro w'
  go_simp
  with_reducible rfl
 rotate_left
 ·simp only [Act.put, List.setIfInBounds_toArray, List.set_cons_zero, List.set_cons_succ, i64_w, i32_w]
  rfl
 refine pure_ (i := 9) (N := some 20) (v := ?_) (a' := ?_) #[true,true,false,true,false,false,true,true,false,true,false,false,false,false] rfl rfl (by kernel_rfl) (fun _ _ _ h => h) (Or.inl ⟨by rfl, ?_⟩) ?_ ?_
 rotate_left
 ·intro w'
  go_simp
  with_reducible rfl
 rotate_left
 ·simp only [Act.put, List.setIfInBounds_toArray, List.set_cons_zero, List.set_cons_succ, i64_w, i32_w]
  rfl
 refine take_ (i := 2) (N := some 13) (v := ?_) (a' := ?_) #[true,true,true,true,false,false,true,true,false,true,false,false,false,false] rfl rfl (by kernel_rfl) (fun _ _ _ h => h) (Or.inl ⟨by rfl, ?_⟩) hHeld ?_ ?_
 rotate_left
 ·rintro w' ⟨s0, s1, s2, s3, s4, s5, s6⟩
  go_simp
  with_reducible rfl
 rotate_left
 ·simp only [Act.put, List.setIfInBounds_toArray, List.set_cons_zero, List.set_cons_succ, i64_w, i32_w]
  rfl
 refine take_ (i := 4) (N := some 15) (v := ?_) (a' := ?_) #[true,true,true,true,true,false,true,true,false,true,false,false,false,false] rfl rfl (by kernel_rfl) (fun _ _ _ h => h) (Or.inl ⟨by rfl, ?_⟩) hHeld ?_ ?_
 rotate_left
 ·rintro w' ⟨s0, s1, s2, s3, s4, s5, s6⟩
  go_simp
  with_reducible rfl
 rotate_left
 ·simp only [Act.put, List.setIfInBounds_toArray, List.set_cons_zero, List.set_cons_succ, i64_w, i32_w]
  rfl
 refine take_ (i := 8) (N := some 19) (v := ?_) (a' := ?_) #[true,true,true,true,true,false,true,true,true,true,false,false,false,false] rfl rfl (by kernel_rfl) (fun _ _ _ h => h) (Or.inl ⟨by rfl, ?_⟩) hHeld ?_ ?_
 rotate_left
 ·rintro w' ⟨s0, s1, s2, s3, s4, s5, s6⟩
  go_simp
  with_reducible rfl
 rotate_left
 ·simp only [Act.put, List.setIfInBounds_toArray, List.set_cons_zero, List.set_cons_succ, i64_w, i32_w]
  rfl
 refine take_ (i := 10) (N := some 21) (v := ?_) (a' := ?_) #[true,true,true,true,true,false,true,true,true,true,true,false,false,false] rfl rfl (by kernel_rfl) (fun _ _ _ h => h) (Or.inl ⟨by rfl, ?_⟩) hHeld ?_ ?_
 rotate_left
 ·rintro w' ⟨s0, s1, s2, s3, s4, s5, s6⟩
  go_simp
  with_reducible rfl
 rotate_left
 ·simp only [Act.put, List.setIfInBounds_toArray, List.set_cons_zero, List.set_cons_succ, i64_w, i32_w]
  rfl
 refine one_ (i := 5) (N := some 16) #[true,true,true,true,true,true,true,true,true,true,true,false,false,false] rfl rfl (by kernel_rfl) (by decide) (fun K hK => ?_)
 refine goes_ Try.func26 (by kernel_rfl) rfl #[.pointer (some ⟨g, 0, none⟩), .agg #[.string nm, .int .u8 sd], .int .u8 of] (by rfl) rfl rfl (by simp only [List.map_toArray, List.map_cons, List.map_nil]; rfl) ?_
 with_reducible refine (HI.out).mono ?_
 rintro e w1 ⟨rfl, him⟩
 refine ⟨_, rfl, ?_⟩
 have HIM := Lib.hid him
 clear him
 have hx1 := (HIM.out.keep.block w.heap.size (by simp) (HNO.out)).trans HBX.out
 refine hK.out _ _ ⟨(by rw [cell_of hx1]; rfl), (by rw [cell_of hx1]; rfl), (by rw [cell_of hx1]; rfl), (by rw [cell_of hx1]; rfl), (by rw [cell_of hx1]; rfl), (by rw [cell_of hx1]; rfl), (by rw [cell_of hx1]; rfl)⟩ (fun hHeld => ?_)
 clear hK K
 refine norm_ (a' := ?_) ?_ ?_
 rotate_left
 ·show Act.put _ (some 16) _ = _
  simp only [Act.put, List.setIfInBounds_toArray, List.set_cons_zero, List.set_cons_succ, i64_w, i32_w]
  rfl
 refine one_ (i := 11) (N := some 22) #[true,true,true,true,true,true,true,true,true,true,true,true,false,false] rfl rfl (by kernel_rfl) (by decide) (fun K hK => ?_)
 refine goes_ Try.func48 (by kernel_rfl) rfl #[.pointer (some ⟨r, 0, none⟩), .agg #[.string nm, .int .u8 sd], .int .u8 of] (by rfl) rfl rfl (by simp only [List.map_toArray, List.map_cons, List.map_nil]; rfl) ?_
 with_reducible refine ((HR.out _ HIM.out)).mono ?_
 rintro e w2 ⟨rfl, hbo⟩
 refine ⟨_, rfl, ?_⟩
 have HBO := Lib.hid hbo
 clear hbo
 have hx2 := (HBOX.out _ _ HBO.out).trans HBX.out
 refine hK.out _ _ ⟨(by rw [cell_of hx2]; rfl), (by rw [cell_of hx2]; rfl), (by rw [cell_of hx2]; rfl), (by rw [cell_of hx2]; rfl), (by rw [cell_of hx2]; rfl), (by rw [cell_of hx2]; rfl), (by rw [cell_of hx2]; rfl)⟩ (fun hHeld => ?_)
 clear hK K
 refine norm_ (a' := ?_) ?_ ?_
 rotate_left
 ·show Act.put _ (some 22) _ = _
  simp only [Act.put, List.setIfInBounds_toArray, List.set_cons_zero, List.set_cons_succ, i64_w, i32_w]
  rfl
 refine pure_ (i := 12) (N := some 23) (v := ?_) (a' := ?_) #[true,true,true,true,true,true,true,true,true,true,true,true,true,false] rfl rfl (by kernel_rfl) (fun _ _ _ h => h) (Or.inl ⟨by rfl, ?_⟩) ?_ ?_
 rotate_left
 ·intro w'
  go_simp
  with_reducible rfl
 rotate_left
 ·simp only [Act.put, List.setIfInBounds_toArray, List.set_cons_zero, List.set_cons_succ, i64_w, i32_w]
  rfl
 refine pure_ (i := 13) (N := some 6) (v := ?_) (a' := ?_) #[true,true,true,true,true,true,true,true,true,true,true,true,true,true] rfl rfl (by kernel_rfl) (fun _ _ _ h => h) (Or.inl ⟨by rfl, ?_⟩) ?_ ?_
 rotate_left
 ·intro w'
  go_simp
  with_reducible rfl
 rotate_left
 ·simp only [Act.put, List.setIfInBounds_toArray, List.set_cons_zero, List.set_cons_succ, i64_w, i32_w]
  rfl
 refine done_ (by kernel_rfl) ?_
 go_wp2_with fail
 go_ret
 exact ⟨rfl, HBO.out.pre HBW.out⟩
set_option maxRecDepth 100000 in
set_option maxHeartbeats 4000000 in
theorem do1 (w : World) {bad : Nat → Prop} {n e : Int} {g mb r c : Nat} {cs : List Cl} {cb vb : Nat → Nat} {ps : List Rw} {A : Option Addr} (h : Pt w bad n e g mb cs cb vb r ps A c) (k : Int) (nm : ByteArray) (sd of i x : Int) (B : Option Addr) (cap : Nat) (l : List Int) (hn : nm.size ≤ maxLen) (hs : 0 ≤ sd ∧ sd ≤ 255) (ho : 0 ≤ of ∧ of ≤ 255) (hlc : l.length ≤ cap) (hlm : l.length ≤ 9223372036854775807)
  (hL : ∀ W', Keep (Own mb r cs vb) w W' → Kd.C (Kd.int .i64) W' B l.length l) (hk : k = 1) :
  Calls Try.prog 22 #[.pointer (some ⟨g, 0, none⟩), .pointer (some ⟨r, 0, none⟩), .agg #[I k, .string nm, .int .u8 sd, .int .u8 of, I i, I x, .slice B l.length cap]] w fun e_ w' => e_ = .returned (.bool true) ∧ Bo w (Own mb r cs vb) bad n e g r ((setv (cls ps) nm sd i x).2) w' := by
 have hbw : Below w.heap.size w (w.alloc (.cells #[I k, .string nm, .int .u8 sd, .int .u8 of, I i, I x, .slice B l.length cap] 52)).drew := below_drew (below_alloc (Below.refl _ w) _)
 have HBW := Lib.hid hbw
 have HP := Lib.hid (h.below hbw)
 have HBX : Hid ((w.alloc (.cells #[I k, .string nm, .int .u8 sd, .int .u8 of, I i, I x, .slice B l.length cap] 52)).drew.heap[w.heap.size]? = some (.cells #[I k, .string nm, .int .u8 sd, .int .u8 of, I i, I x, .slice B l.length cap] 52 (0, 0))) := Lib.hid (heap_alloc_new w _)
 have HNO : Hid (¬ Own mb r cs vb w.heap.size) := Lib.hid fun q => by have := h.lt q; omega
 have HBOX : Hid (∀ rs' W', Bo (w.alloc (.cells #[I k, .string nm, .int .u8 sd, .int .u8 of, I i, I x, .slice B l.length cap] 52)).drew (Own mb r cs vb) bad n e g r rs' W' → W'.heap[w.heap.size]? = (w.alloc (.cells #[I k, .string nm, .int .u8 sd, .int .u8 of, I i, I x, .slice B l.length cap] 52)).drew.heap[w.heap.size]?) := Lib.hid fun rs' W' q => q.same (rs := []) (by simp) HNO.out
 have HL := Lib.hid hL
 have HP0 := Lib.hid h
 clear h hL hbw
 subst hk
 obtain ⟨q0, HQ⟩ : ∃ q0, Hid (((setv (cls ps) nm sd i x)).1 = q0) := ⟨_, Lib.hid rfl⟩
 have HI : Hid (Calls Try.prog 13 #[.pointer (some ⟨g, 0, none⟩), .agg #[.string nm, .int .u8 sd], I i, I x] (w.alloc (.cells #[I (1), .string nm, .int .u8 sd, .int .u8 of, I i, I x, .slice B l.length cap] 52)).drew fun e_ W' => e_ = .returned (I q0) ∧ Im (w.alloc (.cells #[I (1), .string nm, .int .u8 sd, .int .u8 of, I i, I x, .slice B l.length cap] 52)).drew bad n e g mb cs vb r ps A c ((setv (cls ps) nm sd i x).2) W') := Lib.hid (by
  rw [← HQ.out]
  exact im_set HP.out hn hs i x)
 have HR : Hid (∀ W1, Im (w.alloc (.cells #[I (1), .string nm, .int .u8 sd, .int .u8 of, I i, I x, .slice B l.length cap] 52)).drew bad n e g mb cs vb r ps A c ((setv (cls ps) nm sd i x).2) W1 → Calls Try.prog 49 #[.pointer (some ⟨r, 0, none⟩), .agg #[.string nm, .int .u8 sd], I i, I x] W1 fun e_ W' => e_ = .returned (I q0) ∧ Bo (w.alloc (.cells #[I (1), .string nm, .int .u8 sd, .int .u8 of, I i, I x, .slice B l.length cap] 52)).drew (Own mb r cs vb) bad n e g r ((setv (cls ps) nm sd i x).2) W') := Lib.hid (fun W1 him => by
  rw [← HQ.out]
  exact re_set HP.out him)
 clear HQ
 go_enter Try.func22, Try.ntmps22
 go_wp2_with fail
 have hbx := HBX.out
 have c0 : (w.alloc (.cells #[I (1), .string nm, .int .u8 sd, .int .u8 of, I i, I x, .slice B l.length cap] 52)).drew.cell? ⟨w.heap.size, 0, none⟩ = some (I (1)) := by rw [cell_of hbx]; rfl
 have c1 : (w.alloc (.cells #[I (1), .string nm, .int .u8 sd, .int .u8 of, I i, I x, .slice B l.length cap] 52)).drew.cell? ⟨w.heap.size, 1, none⟩ = some (.string nm) := by rw [cell_of hbx]; rfl
 have c2 : (w.alloc (.cells #[I (1), .string nm, .int .u8 sd, .int .u8 of, I i, I x, .slice B l.length cap] 52)).drew.cell? ⟨w.heap.size, 2, none⟩ = some (.int .u8 sd) := by rw [cell_of hbx]; rfl
 have c3 : (w.alloc (.cells #[I (1), .string nm, .int .u8 sd, .int .u8 of, I i, I x, .slice B l.length cap] 52)).drew.cell? ⟨w.heap.size, 3, none⟩ = some (.int .u8 of) := by rw [cell_of hbx]; rfl
 have c4 : (w.alloc (.cells #[I (1), .string nm, .int .u8 sd, .int .u8 of, I i, I x, .slice B l.length cap] 52)).drew.cell? ⟨w.heap.size, 4, none⟩ = some (I i) := by rw [cell_of hbx]; rfl
 have c5 : (w.alloc (.cells #[I (1), .string nm, .int .u8 sd, .int .u8 of, I i, I x, .slice B l.length cap] 52)).drew.cell? ⟨w.heap.size, 5, none⟩ = some (I x) := by rw [cell_of hbx]; rfl
 have c6 : (w.alloc (.cells #[I (1), .string nm, .int .u8 sd, .int .u8 of, I i, I x, .slice B l.length cap] 52)).drew.cell? ⟨w.heap.size, 6, none⟩ = some (.slice B l.length cap) := by rw [cell_of hbx]; rfl
 clear hbx
 refine start_ (n := 18) (S := fun w' => w'.cell? ⟨w.heap.size, 0, none⟩ = some (I (1)) ∧ w'.cell? ⟨w.heap.size, 1, none⟩ = some (.string nm) ∧ w'.cell? ⟨w.heap.size, 2, none⟩ = some (.int .u8 sd) ∧ w'.cell? ⟨w.heap.size, 3, none⟩ = some (.int .u8 of) ∧ w'.cell? ⟨w.heap.size, 4, none⟩ = some (I i) ∧ w'.cell? ⟨w.heap.size, 5, none⟩ = some (I x) ∧ w'.cell? ⟨w.heap.size, 6, none⟩ = some (.slice B l.length cap)) (ds := []) #[false,false,false,false,false,false,false,false,false,false,false,false,false,false,false,false,false,false] (by kernel_rfl) rfl rfl ⟨c0, c1, c2, c3, c4, c5, c6⟩ (fun hHeld => ?_)
 refine pure_ (i := 0) (N := some 26) (v := ?_) (a' := ?_) #[true,false,false,false,false,false,false,false,false,false,false,false,false,false,false,false,false,false] rfl rfl (by kernel_rfl) (fun _ _ _ h => h) (Or.inl ⟨by rfl, ?_⟩) ?_ ?_
 rotate_left
 ·intro w'
  go_simp
  with_reducible rfl
 rotate_left
 ·simp only [Act.put, List.setIfInBounds_toArray, List.set_cons_zero, List.set_cons_succ, i64_w, i32_w]
  rfl
 refine pure_ (i := 1) (N := some 27) (v := ?_) (a' := ?_) #[true,true,false,false,false,false,false,false,false,false,false,false,false,false,false,false,false,false] rfl rfl (by kernel_rfl) (fun _ _ _ h => h) (Or.inl ⟨by rfl, ?_⟩) ?_ ?_
 rotate_left
 ·intro w'
  go_simp
  with_reducible rfl
 rotate_left
 ·simp only [Act.put, List.setIfInBounds_toArray, List.set_cons_zero, List.set_cons_succ, i64_w, i32_w]
  rfl
 refine pure_ (i := 3) (N := some 29) (v := ?_) (a' := ?_) #[true,true,false,true,false,false,false,false,false,false,false,false,false,false,false,false,false,false] rfl rfl (by kernel_rfl) (fun _ _ _ h => h) (Or.inl ⟨by rfl, ?_⟩) ?_ ?_
 rotate_left
 ·intro w'
  go_simp
  with_reducible rfl
 rotate_left
 ·simp only [Act.put, List.setIfInBounds_toArray, List.set_cons_zero, List.set_cons_succ, i64_w, i32_w]
  rfl
 refine pure_ (i := 5) (N := some 31) (v := ?_) (a' := ?_) #[true,true,false,true,false,true,false,false,false,false,false,false,false,false,false,false,false,false] rfl rfl (by kernel_rfl) (fun _ _ _ h => h) (Or.inl ⟨by rfl, ?_⟩) ?_ ?_
 rotate_left
 ·intro w'
  go_simp
  with_reducible rfl
 rotate_left
 ·simp only [Act.put, List.setIfInBounds_toArray, List.set_cons_zero, List.set_cons_succ, i64_w, i32_w]
  rfl
 refine pure_ (i := 8) (N := some 34) (v := ?_) (a' := ?_) #[true,true,false,true,false,true,false,false,true,false,false,false,false,false,false,false,false,false] rfl rfl (by kernel_rfl) (fun _ _ _ h => h) (Or.inl ⟨by rfl, ?_⟩) ?_ ?_
 rotate_left
 ·intro w'
  go_simp
  with_reducible rfl
 rotate_left
 ·simp only [Act.put, List.setIfInBounds_toArray, List.set_cons_zero, List.set_cons_succ, i64_w, i32_w]
  rfl
 refine pure_ (i := 9) (N := some 35) (v := ?_) (a' := ?_) #[true,true,false,true,false,true,false,false,true,true,false,false,false,false,false,false,false,false] rfl rfl (by kernel_rfl) (fun _ _ _ h => h) (Or.inl ⟨by rfl, ?_⟩) ?_ ?_
 rotate_left
 ·intro w'
  go_simp
  with_reducible rfl
 rotate_left
 ·simp only [Act.put, List.setIfInBounds_toArray, List.set_cons_zero, List.set_cons_succ, i64_w, i32_w]
  rfl
 refine pure_ (i := 11) (N := some 37) (v := ?_) (a' := ?_) #[true,true,false,true,false,true,false,false,true,true,false,true,false,false,false,false,false,false] rfl rfl (by kernel_rfl) (fun _ _ _ h => h) (Or.inl ⟨by rfl, ?_⟩) ?_ ?_
 rotate_left
 ·intro w'
  go_simp
  with_reducible rfl
 rotate_left
 ·simp only [Act.put, List.setIfInBounds_toArray, List.set_cons_zero, List.set_cons_succ, i64_w, i32_w]
  rfl
 refine pure_ (i := 13) (N := some 39) (v := ?_) (a' := ?_) #[true,true,false,true,false,true,false,false,true,true,false,true,false,true,false,false,false,false] rfl rfl (by kernel_rfl) (fun _ _ _ h => h) (Or.inl ⟨by rfl, ?_⟩) ?_ ?_
 rotate_left
 ·intro w'
  go_simp
  with_reducible rfl
 rotate_left
 ·simp only [Act.put, List.setIfInBounds_toArray, List.set_cons_zero, List.set_cons_succ, i64_w, i32_w]
  rfl
 refine take_ (i := 2) (N := some 28) (v := ?_) (a' := ?_) #[true,true,true,true,false,true,false,false,true,true,false,true,false,true,false,false,false,false] rfl rfl (by kernel_rfl) (fun _ _ _ h => h) (Or.inl ⟨by rfl, ?_⟩) hHeld ?_ ?_
 rotate_left
 ·rintro w' ⟨s0, s1, s2, s3, s4, s5, s6⟩
  go_simp
  with_reducible rfl
 rotate_left
 ·simp only [Act.put, List.setIfInBounds_toArray, List.set_cons_zero, List.set_cons_succ, i64_w, i32_w]
  rfl
 refine take_ (i := 4) (N := some 30) (v := ?_) (a' := ?_) #[true,true,true,true,true,true,false,false,true,true,false,true,false,true,false,false,false,false] rfl rfl (by kernel_rfl) (fun _ _ _ h => h) (Or.inl ⟨by rfl, ?_⟩) hHeld ?_ ?_
 rotate_left
 ·rintro w' ⟨s0, s1, s2, s3, s4, s5, s6⟩
  go_simp
  with_reducible rfl
 rotate_left
 ·simp only [Act.put, List.setIfInBounds_toArray, List.set_cons_zero, List.set_cons_succ, i64_w, i32_w]
  rfl
 refine take_ (i := 6) (N := some 32) (v := ?_) (a' := ?_) #[true,true,true,true,true,true,true,false,true,true,false,true,false,true,false,false,false,false] rfl rfl (by kernel_rfl) (fun _ _ _ h => h) (Or.inl ⟨by rfl, ?_⟩) hHeld ?_ ?_
 rotate_left
 ·rintro w' ⟨s0, s1, s2, s3, s4, s5, s6⟩
  go_simp
  with_reducible rfl
 rotate_left
 ·simp only [Act.put, List.setIfInBounds_toArray, List.set_cons_zero, List.set_cons_succ, i64_w, i32_w]
  rfl
 refine take_ (i := 10) (N := some 36) (v := ?_) (a' := ?_) #[true,true,true,true,true,true,true,false,true,true,true,true,false,true,false,false,false,false] rfl rfl (by kernel_rfl) (fun _ _ _ h => h) (Or.inl ⟨by rfl, ?_⟩) hHeld ?_ ?_
 rotate_left
 ·rintro w' ⟨s0, s1, s2, s3, s4, s5, s6⟩
  go_simp
  with_reducible rfl
 rotate_left
 ·simp only [Act.put, List.setIfInBounds_toArray, List.set_cons_zero, List.set_cons_succ, i64_w, i32_w]
  rfl
 refine take_ (i := 12) (N := some 38) (v := ?_) (a' := ?_) #[true,true,true,true,true,true,true,false,true,true,true,true,true,true,false,false,false,false] rfl rfl (by kernel_rfl) (fun _ _ _ h => h) (Or.inl ⟨by rfl, ?_⟩) hHeld ?_ ?_
 rotate_left
 ·rintro w' ⟨s0, s1, s2, s3, s4, s5, s6⟩
  go_simp
  with_reducible rfl
 rotate_left
 ·simp only [Act.put, List.setIfInBounds_toArray, List.set_cons_zero, List.set_cons_succ, i64_w, i32_w]
  rfl
 refine take_ (i := 14) (N := some 40) (v := ?_) (a' := ?_) #[true,true,true,true,true,true,true,false,true,true,true,true,true,true,true,false,false,false] rfl rfl (by kernel_rfl) (fun _ _ _ h => h) (Or.inl ⟨by rfl, ?_⟩) hHeld ?_ ?_
 rotate_left
 ·rintro w' ⟨s0, s1, s2, s3, s4, s5, s6⟩
  go_simp
  with_reducible rfl
 rotate_left
 ·simp only [Act.put, List.setIfInBounds_toArray, List.set_cons_zero, List.set_cons_succ, i64_w, i32_w]
  rfl
 refine one_ (i := 7) (N := some 33) #[true,true,true,true,true,true,true,true,true,true,true,true,true,true,true,false,false,false] rfl rfl (by kernel_rfl) (by decide) (fun K hK => ?_)
 refine goes_ Try.func13 (by kernel_rfl) rfl #[.pointer (some ⟨g, 0, none⟩), .agg #[.string nm, .int .u8 sd], I i, I x] (by rfl) rfl rfl (by simp only [List.map_toArray, List.map_cons, List.map_nil]; rfl) ?_
 with_reducible refine (HI.out).mono ?_
 rintro e w1 ⟨rfl, him⟩
 refine ⟨_, rfl, ?_⟩
 have HIM := Lib.hid him
 clear him
 have hx1 := (HIM.out.keep.block w.heap.size (by simp) (HNO.out)).trans HBX.out
 refine hK.out _ _ ⟨(by rw [cell_of hx1]; rfl), (by rw [cell_of hx1]; rfl), (by rw [cell_of hx1]; rfl), (by rw [cell_of hx1]; rfl), (by rw [cell_of hx1]; rfl), (by rw [cell_of hx1]; rfl), (by rw [cell_of hx1]; rfl)⟩ (fun hHeld => ?_)
 clear hK K
 refine norm_ (a' := ?_) ?_ ?_
 rotate_left
 ·show Act.put _ (some 33) _ = _
  simp only [Act.put, List.setIfInBounds_toArray, List.set_cons_zero, List.set_cons_succ, i64_w, i32_w]
  rfl
 refine one_ (i := 15) (N := some 41) #[true,true,true,true,true,true,true,true,true,true,true,true,true,true,true,true,false,false] rfl rfl (by kernel_rfl) (by decide) (fun K hK => ?_)
 refine goes_ Try.func49 (by kernel_rfl) rfl #[.pointer (some ⟨r, 0, none⟩), .agg #[.string nm, .int .u8 sd], I i, I x] (by rfl) rfl rfl (by simp only [List.map_toArray, List.map_cons, List.map_nil]; rfl) ?_
 with_reducible refine ((HR.out _ HIM.out)).mono ?_
 rintro e w2 ⟨rfl, hbo⟩
 refine ⟨_, rfl, ?_⟩
 have HBO := Lib.hid hbo
 clear hbo
 have hx2 := (HBOX.out _ _ HBO.out).trans HBX.out
 refine hK.out _ _ ⟨(by rw [cell_of hx2]; rfl), (by rw [cell_of hx2]; rfl), (by rw [cell_of hx2]; rfl), (by rw [cell_of hx2]; rfl), (by rw [cell_of hx2]; rfl), (by rw [cell_of hx2]; rfl), (by rw [cell_of hx2]; rfl)⟩ (fun hHeld => ?_)
 clear hK K
 refine norm_ (a' := ?_) ?_ ?_
 rotate_left
 ·show Act.put _ (some 41) _ = _
  simp only [Act.put, List.setIfInBounds_toArray, List.set_cons_zero, List.set_cons_succ, i64_w, i32_w]
  rfl
 refine pure_ (i := 16) (N := some 42) (v := ?_) (a' := ?_) #[true,true,true,true,true,true,true,true,true,true,true,true,true,true,true,true,true,false] rfl rfl (by kernel_rfl) (fun _ _ _ h => h) (Or.inl ⟨by rfl, ?_⟩) ?_ ?_
 rotate_left
 ·intro w'
  go_simp
  with_reducible rfl
 rotate_left
 ·simp only [Act.put, List.setIfInBounds_toArray, List.set_cons_zero, List.set_cons_succ, i64_w, i32_w]
  rfl
 refine pure_ (i := 17) (N := some 6) (v := ?_) (a' := ?_) #[true,true,true,true,true,true,true,true,true,true,true,true,true,true,true,true,true,true] rfl rfl (by kernel_rfl) (fun _ _ _ h => h) (Or.inl ⟨by rfl, ?_⟩) ?_ ?_
 rotate_left
 ·intro w'
  go_simp
  with_reducible rfl
 rotate_left
 ·simp only [Act.put, List.setIfInBounds_toArray, List.set_cons_zero, List.set_cons_succ, i64_w, i32_w]
  rfl
 refine done_ (by kernel_rfl) ?_
 go_wp2_with fail
 go_ret
 exact ⟨rfl, HBO.out.pre HBW.out⟩
set_option maxRecDepth 100000 in
set_option maxHeartbeats 4000000 in
theorem do2 (w : World) {bad : Nat → Prop} {n e : Int} {g mb r c : Nat} {cs : List Cl} {cb vb : Nat → Nat} {ps : List Rw} {A : Option Addr} (h : Pt w bad n e g mb cs cb vb r ps A c) (k : Int) (nm : ByteArray) (sd of i x : Int) (B : Option Addr) (cap : Nat) (l : List Int) (hn : nm.size ≤ maxLen) (hs : 0 ≤ sd ∧ sd ≤ 255) (ho : 0 ≤ of ∧ of ≤ 255) (hlc : l.length ≤ cap) (hlm : l.length ≤ 9223372036854775807)
  (hL : ∀ W', Keep (Own mb r cs vb) w W' → Kd.C (Kd.int .i64) W' B l.length l) (hk : k = 2) :
  Calls Try.prog 22 #[.pointer (some ⟨g, 0, none⟩), .pointer (some ⟨r, 0, none⟩), .agg #[I k, .string nm, .int .u8 sd, .int .u8 of, I i, I x, .slice B l.length cap]] w fun e_ w' => e_ = .returned (.bool true) ∧ Bo w (Own mb r cs vb) bad n e g r ((fillv (cls ps) nm sd x).2) w' := by
 have hbw : Below w.heap.size w (w.alloc (.cells #[I k, .string nm, .int .u8 sd, .int .u8 of, I i, I x, .slice B l.length cap] 52)).drew := below_drew (below_alloc (Below.refl _ w) _)
 have HBW := Lib.hid hbw
 have HP := Lib.hid (h.below hbw)
 have HBX : Hid ((w.alloc (.cells #[I k, .string nm, .int .u8 sd, .int .u8 of, I i, I x, .slice B l.length cap] 52)).drew.heap[w.heap.size]? = some (.cells #[I k, .string nm, .int .u8 sd, .int .u8 of, I i, I x, .slice B l.length cap] 52 (0, 0))) := Lib.hid (heap_alloc_new w _)
 have HNO : Hid (¬ Own mb r cs vb w.heap.size) := Lib.hid fun q => by have := h.lt q; omega
 have HBOX : Hid (∀ rs' W', Bo (w.alloc (.cells #[I k, .string nm, .int .u8 sd, .int .u8 of, I i, I x, .slice B l.length cap] 52)).drew (Own mb r cs vb) bad n e g r rs' W' → W'.heap[w.heap.size]? = (w.alloc (.cells #[I k, .string nm, .int .u8 sd, .int .u8 of, I i, I x, .slice B l.length cap] 52)).drew.heap[w.heap.size]?) := Lib.hid fun rs' W' q => q.same (rs := []) (by simp) HNO.out
 have HL := Lib.hid hL
 have HP0 := Lib.hid h
 clear h hL hbw
 subst hk
 obtain ⟨q0, HQ⟩ : ∃ q0, Hid (((fillv (cls ps) nm sd x)).1 = q0) := ⟨_, Lib.hid rfl⟩
 have HI : Hid (Calls Try.prog 27 #[.pointer (some ⟨g, 0, none⟩), .agg #[.string nm, .int .u8 sd], I x] (w.alloc (.cells #[I (2), .string nm, .int .u8 sd, .int .u8 of, I i, I x, .slice B l.length cap] 52)).drew fun e_ W' => e_ = .returned (I q0) ∧ Im (w.alloc (.cells #[I (2), .string nm, .int .u8 sd, .int .u8 of, I i, I x, .slice B l.length cap] 52)).drew bad n e g mb cs vb r ps A c ((fillv (cls ps) nm sd x).2) W') := Lib.hid (by
  rw [← HQ.out]
  exact im_fill HP.out hn hs x)
 have HR : Hid (∀ W1, Im (w.alloc (.cells #[I (2), .string nm, .int .u8 sd, .int .u8 of, I i, I x, .slice B l.length cap] 52)).drew bad n e g mb cs vb r ps A c ((fillv (cls ps) nm sd x).2) W1 → Calls Try.prog 50 #[.pointer (some ⟨r, 0, none⟩), .agg #[.string nm, .int .u8 sd], I x] W1 fun e_ W' => e_ = .returned (I q0) ∧ Bo (w.alloc (.cells #[I (2), .string nm, .int .u8 sd, .int .u8 of, I i, I x, .slice B l.length cap] 52)).drew (Own mb r cs vb) bad n e g r ((fillv (cls ps) nm sd x).2) W') := Lib.hid (fun W1 him => by
  rw [← HQ.out]
  exact re_fill HP.out him)
 clear HQ
 go_enter Try.func22, Try.ntmps22
 go_wp2_with fail
 have hbx := HBX.out
 have c0 : (w.alloc (.cells #[I (2), .string nm, .int .u8 sd, .int .u8 of, I i, I x, .slice B l.length cap] 52)).drew.cell? ⟨w.heap.size, 0, none⟩ = some (I (2)) := by rw [cell_of hbx]; rfl
 have c1 : (w.alloc (.cells #[I (2), .string nm, .int .u8 sd, .int .u8 of, I i, I x, .slice B l.length cap] 52)).drew.cell? ⟨w.heap.size, 1, none⟩ = some (.string nm) := by rw [cell_of hbx]; rfl
 have c2 : (w.alloc (.cells #[I (2), .string nm, .int .u8 sd, .int .u8 of, I i, I x, .slice B l.length cap] 52)).drew.cell? ⟨w.heap.size, 2, none⟩ = some (.int .u8 sd) := by rw [cell_of hbx]; rfl
 have c3 : (w.alloc (.cells #[I (2), .string nm, .int .u8 sd, .int .u8 of, I i, I x, .slice B l.length cap] 52)).drew.cell? ⟨w.heap.size, 3, none⟩ = some (.int .u8 of) := by rw [cell_of hbx]; rfl
 have c4 : (w.alloc (.cells #[I (2), .string nm, .int .u8 sd, .int .u8 of, I i, I x, .slice B l.length cap] 52)).drew.cell? ⟨w.heap.size, 4, none⟩ = some (I i) := by rw [cell_of hbx]; rfl
 have c5 : (w.alloc (.cells #[I (2), .string nm, .int .u8 sd, .int .u8 of, I i, I x, .slice B l.length cap] 52)).drew.cell? ⟨w.heap.size, 5, none⟩ = some (I x) := by rw [cell_of hbx]; rfl
 have c6 : (w.alloc (.cells #[I (2), .string nm, .int .u8 sd, .int .u8 of, I i, I x, .slice B l.length cap] 52)).drew.cell? ⟨w.heap.size, 6, none⟩ = some (.slice B l.length cap) := by rw [cell_of hbx]; rfl
 clear hbx
 refine start_ (n := 14) (S := fun w' => w'.cell? ⟨w.heap.size, 0, none⟩ = some (I (2)) ∧ w'.cell? ⟨w.heap.size, 1, none⟩ = some (.string nm) ∧ w'.cell? ⟨w.heap.size, 2, none⟩ = some (.int .u8 sd) ∧ w'.cell? ⟨w.heap.size, 3, none⟩ = some (.int .u8 of) ∧ w'.cell? ⟨w.heap.size, 4, none⟩ = some (I i) ∧ w'.cell? ⟨w.heap.size, 5, none⟩ = some (I x) ∧ w'.cell? ⟨w.heap.size, 6, none⟩ = some (.slice B l.length cap)) (ds := []) #[false,false,false,false,false,false,false,false,false,false,false,false,false,false] (by kernel_rfl) rfl rfl ⟨c0, c1, c2, c3, c4, c5, c6⟩ (fun hHeld => ?_)
 refine pure_ (i := 0) (N := some 45) (v := ?_) (a' := ?_) #[true,false,false,false,false,false,false,false,false,false,false,false,false,false] rfl rfl (by kernel_rfl) (fun _ _ _ h => h) (Or.inl ⟨by rfl, ?_⟩) ?_ ?_
 rotate_left
 ·intro w'
  go_simp
  with_reducible rfl
 rotate_left
 ·simp only [Act.put, List.setIfInBounds_toArray, List.set_cons_zero, List.set_cons_succ, i64_w, i32_w]
  rfl
 refine pure_ (i := 1) (N := some 46) (v := ?_) (a' := ?_) #[true,true,false,false,false,false,false,false,false,false,false,false,false,false] rfl rfl (by kernel_rfl) (fun _ _ _ h => h) (Or.inl ⟨by rfl, ?_⟩) ?_ ?_
 rotate_left
 ·intro w'
  go_simp
  with_reducible rfl
 rotate_left
 ·simp only [Act.put, List.setIfInBounds_toArray, List.set_cons_zero, List.set_cons_succ, i64_w, i32_w]
  rfl
 refine pure_ (i := 3) (N := some 48) (v := ?_) (a' := ?_) #[true,true,false,true,false,false,false,false,false,false,false,false,false,false] rfl rfl (by kernel_rfl) (fun _ _ _ h => h) (Or.inl ⟨by rfl, ?_⟩) ?_ ?_
 rotate_left
 ·intro w'
  go_simp
  with_reducible rfl
 rotate_left
 ·simp only [Act.put, List.setIfInBounds_toArray, List.set_cons_zero, List.set_cons_succ, i64_w, i32_w]
  rfl
 refine pure_ (i := 6) (N := some 51) (v := ?_) (a' := ?_) #[true,true,false,true,false,false,true,false,false,false,false,false,false,false] rfl rfl (by kernel_rfl) (fun _ _ _ h => h) (Or.inl ⟨by rfl, ?_⟩) ?_ ?_
 rotate_left
 ·intro w'
  go_simp
  with_reducible rfl
 rotate_left
 ·simp only [Act.put, List.setIfInBounds_toArray, List.set_cons_zero, List.set_cons_succ, i64_w, i32_w]
  rfl
 refine pure_ (i := 7) (N := some 52) (v := ?_) (a' := ?_) #[true,true,false,true,false,false,true,true,false,false,false,false,false,false] rfl rfl (by kernel_rfl) (fun _ _ _ h => h) (Or.inl ⟨by rfl, ?_⟩) ?_ ?_
 rotate_left
 ·intro w'
  go_simp
  with_reducible rfl
 rotate_left
 ·simp only [Act.put, List.setIfInBounds_toArray, List.set_cons_zero, List.set_cons_succ, i64_w, i32_w]
  rfl
 refine pure_ (i := 9) (N := some 54) (v := ?_) (a' := ?_) #[true,true,false,true,false,false,true,true,false,true,false,false,false,false] rfl rfl (by kernel_rfl) (fun _ _ _ h => h) (Or.inl ⟨by rfl, ?_⟩) ?_ ?_
 rotate_left
 ·intro w'
  go_simp
  with_reducible rfl
 rotate_left
 ·simp only [Act.put, List.setIfInBounds_toArray, List.set_cons_zero, List.set_cons_succ, i64_w, i32_w]
  rfl
 refine take_ (i := 2) (N := some 47) (v := ?_) (a' := ?_) #[true,true,true,true,false,false,true,true,false,true,false,false,false,false] rfl rfl (by kernel_rfl) (fun _ _ _ h => h) (Or.inl ⟨by rfl, ?_⟩) hHeld ?_ ?_
 rotate_left
 ·rintro w' ⟨s0, s1, s2, s3, s4, s5, s6⟩
  go_simp
  with_reducible rfl
 rotate_left
 ·simp only [Act.put, List.setIfInBounds_toArray, List.set_cons_zero, List.set_cons_succ, i64_w, i32_w]
  rfl
 refine take_ (i := 4) (N := some 49) (v := ?_) (a' := ?_) #[true,true,true,true,true,false,true,true,false,true,false,false,false,false] rfl rfl (by kernel_rfl) (fun _ _ _ h => h) (Or.inl ⟨by rfl, ?_⟩) hHeld ?_ ?_
 rotate_left
 ·rintro w' ⟨s0, s1, s2, s3, s4, s5, s6⟩
  go_simp
  with_reducible rfl
 rotate_left
 ·simp only [Act.put, List.setIfInBounds_toArray, List.set_cons_zero, List.set_cons_succ, i64_w, i32_w]
  rfl
 refine take_ (i := 8) (N := some 53) (v := ?_) (a' := ?_) #[true,true,true,true,true,false,true,true,true,true,false,false,false,false] rfl rfl (by kernel_rfl) (fun _ _ _ h => h) (Or.inl ⟨by rfl, ?_⟩) hHeld ?_ ?_
 rotate_left
 ·rintro w' ⟨s0, s1, s2, s3, s4, s5, s6⟩
  go_simp
  with_reducible rfl
 rotate_left
 ·simp only [Act.put, List.setIfInBounds_toArray, List.set_cons_zero, List.set_cons_succ, i64_w, i32_w]
  rfl
 refine take_ (i := 10) (N := some 55) (v := ?_) (a' := ?_) #[true,true,true,true,true,false,true,true,true,true,true,false,false,false] rfl rfl (by kernel_rfl) (fun _ _ _ h => h) (Or.inl ⟨by rfl, ?_⟩) hHeld ?_ ?_
 rotate_left
 ·rintro w' ⟨s0, s1, s2, s3, s4, s5, s6⟩
  go_simp
  with_reducible rfl
 rotate_left
 ·simp only [Act.put, List.setIfInBounds_toArray, List.set_cons_zero, List.set_cons_succ, i64_w, i32_w]
  rfl
 refine one_ (i := 5) (N := some 50) #[true,true,true,true,true,true,true,true,true,true,true,false,false,false] rfl rfl (by kernel_rfl) (by decide) (fun K hK => ?_)
 refine goes_ Try.func27 (by kernel_rfl) rfl #[.pointer (some ⟨g, 0, none⟩), .agg #[.string nm, .int .u8 sd], I x] (by rfl) rfl rfl (by simp only [List.map_toArray, List.map_cons, List.map_nil]; rfl) ?_
 with_reducible refine (HI.out).mono ?_
 rintro e w1 ⟨rfl, him⟩
 refine ⟨_, rfl, ?_⟩
 have HIM := Lib.hid him
 clear him
 have hx1 := (HIM.out.keep.block w.heap.size (by simp) (HNO.out)).trans HBX.out
 refine hK.out _ _ ⟨(by rw [cell_of hx1]; rfl), (by rw [cell_of hx1]; rfl), (by rw [cell_of hx1]; rfl), (by rw [cell_of hx1]; rfl), (by rw [cell_of hx1]; rfl), (by rw [cell_of hx1]; rfl), (by rw [cell_of hx1]; rfl)⟩ (fun hHeld => ?_)
 clear hK K
 refine norm_ (a' := ?_) ?_ ?_
 rotate_left
 ·show Act.put _ (some 50) _ = _
  simp only [Act.put, List.setIfInBounds_toArray, List.set_cons_zero, List.set_cons_succ, i64_w, i32_w]
  rfl
 refine one_ (i := 11) (N := some 56) #[true,true,true,true,true,true,true,true,true,true,true,true,false,false] rfl rfl (by kernel_rfl) (by decide) (fun K hK => ?_)
 refine goes_ Try.func50 (by kernel_rfl) rfl #[.pointer (some ⟨r, 0, none⟩), .agg #[.string nm, .int .u8 sd], I x] (by rfl) rfl rfl (by simp only [List.map_toArray, List.map_cons, List.map_nil]; rfl) ?_
 with_reducible refine ((HR.out _ HIM.out)).mono ?_
 rintro e w2 ⟨rfl, hbo⟩
 refine ⟨_, rfl, ?_⟩
 have HBO := Lib.hid hbo
 clear hbo
 have hx2 := (HBOX.out _ _ HBO.out).trans HBX.out
 refine hK.out _ _ ⟨(by rw [cell_of hx2]; rfl), (by rw [cell_of hx2]; rfl), (by rw [cell_of hx2]; rfl), (by rw [cell_of hx2]; rfl), (by rw [cell_of hx2]; rfl), (by rw [cell_of hx2]; rfl), (by rw [cell_of hx2]; rfl)⟩ (fun hHeld => ?_)
 clear hK K
 refine norm_ (a' := ?_) ?_ ?_
 rotate_left
 ·show Act.put _ (some 56) _ = _
  simp only [Act.put, List.setIfInBounds_toArray, List.set_cons_zero, List.set_cons_succ, i64_w, i32_w]
  rfl
 refine pure_ (i := 12) (N := some 57) (v := ?_) (a' := ?_) #[true,true,true,true,true,true,true,true,true,true,true,true,true,false] rfl rfl (by kernel_rfl) (fun _ _ _ h => h) (Or.inl ⟨by rfl, ?_⟩) ?_ ?_
 rotate_left
 ·intro w'
  go_simp
  with_reducible rfl
 rotate_left
 ·simp only [Act.put, List.setIfInBounds_toArray, List.set_cons_zero, List.set_cons_succ, i64_w, i32_w]
  rfl
 refine pure_ (i := 13) (N := some 6) (v := ?_) (a' := ?_) #[true,true,true,true,true,true,true,true,true,true,true,true,true,true] rfl rfl (by kernel_rfl) (fun _ _ _ h => h) (Or.inl ⟨by rfl, ?_⟩) ?_ ?_
 rotate_left
 ·intro w'
  go_simp
  with_reducible rfl
 rotate_left
 ·simp only [Act.put, List.setIfInBounds_toArray, List.set_cons_zero, List.set_cons_succ, i64_w, i32_w]
  rfl
 refine done_ (by kernel_rfl) ?_
 go_wp2_with fail
 go_ret
 exact ⟨rfl, HBO.out.pre HBW.out⟩
theorem hC_take {W : World} {B : Option Addr} {l : List Int} (h : Kd.C (Kd.int .i64) W B l.length l) : Kd.C (Kd.int .i64) W B (l.take 40).length (l.take 40) := by
 refine ⟨rfl, by have := h.2.1; simp only [List.length_take]; omega, fun hp => ?_⟩
 obtain ⟨ad, h1, h2⟩ := h.2.2 (by simp only [List.length_take] at hp; omega)
 refine ⟨ad, h1, fun j p hj => h2 j p ?_⟩
 have hlt := (List.getElem?_eq_some_iff.1 hj).1
 rw [List.getElem?_take] at hj
 split at hj
 ·exact hj
 ·cases hj
set_option maxRecDepth 100000 in
set_option maxHeartbeats 4000000 in
theorem do3 (w : World) {bad : Nat → Prop} {n e : Int} {g mb r c : Nat} {cs : List Cl} {cb vb : Nat → Nat} {ps : List Rw} {A : Option Addr} (h : Pt w bad n e g mb cs cb vb r ps A c) (k : Int) (nm : ByteArray) (sd of i x : Int) (B : Option Addr) (cap : Nat) (l : List Int) (hn : nm.size ≤ maxLen) (hs : 0 ≤ sd ∧ sd ≤ 255) (ho : 0 ≤ of ∧ of ≤ 255) (hlc : l.length ≤ cap) (hlm : l.length ≤ 9223372036854775807)
  (hL : ∀ W', Keep (Own mb r cs vb) w W' → Kd.C (Kd.int .i64) W' B l.length l) (hk : k = 3) :
  Calls Try.prog 22 #[.pointer (some ⟨g, 0, none⟩), .pointer (some ⟨r, 0, none⟩), .agg #[I k, .string nm, .int .u8 sd, .int .u8 of, I i, I x, .slice B l.length cap]] w fun e_ w' => e_ = .returned (.bool true) ∧ Bo w (Own mb r cs vb) bad n e g r ((loadv (cls ps) nm sd (l.take 40)).2) w' := by
 have hbw : Below w.heap.size w (w.alloc (.cells #[I k, .string nm, .int .u8 sd, .int .u8 of, I i, I x, .slice B l.length cap] 52)).drew := below_drew (below_alloc (Below.refl _ w) _)
 have HBW := Lib.hid hbw
 have HP := Lib.hid (h.below hbw)
 have HBX : Hid ((w.alloc (.cells #[I k, .string nm, .int .u8 sd, .int .u8 of, I i, I x, .slice B l.length cap] 52)).drew.heap[w.heap.size]? = some (.cells #[I k, .string nm, .int .u8 sd, .int .u8 of, I i, I x, .slice B l.length cap] 52 (0, 0))) := Lib.hid (heap_alloc_new w _)
 have HNO : Hid (¬ Own mb r cs vb w.heap.size) := Lib.hid fun q => by have := h.lt q; omega
 have HBOX : Hid (∀ rs' W', Bo (w.alloc (.cells #[I k, .string nm, .int .u8 sd, .int .u8 of, I i, I x, .slice B l.length cap] 52)).drew (Own mb r cs vb) bad n e g r rs' W' → W'.heap[w.heap.size]? = (w.alloc (.cells #[I k, .string nm, .int .u8 sd, .int .u8 of, I i, I x, .slice B l.length cap] 52)).drew.heap[w.heap.size]?) := Lib.hid fun rs' W' q => q.same (rs := []) (by simp) HNO.out
 have HL := Lib.hid hL
 have HP0 := Lib.hid h
 clear h hL hbw
 subst hk
 obtain ⟨q0, HQ⟩ : ∃ q0, Hid (((loadv (cls ps) nm sd (l.take 40))).1 = q0) := ⟨_, Lib.hid rfl⟩
 have HI : Hid (Calls Try.prog 28 #[.pointer (some ⟨g, 0, none⟩), .agg #[.string nm, .int .u8 sd], .slice B (l.take 40).length cap] (w.alloc (.cells #[I (3), .string nm, .int .u8 sd, .int .u8 of, I i, I x, .slice B l.length cap] 52)).drew fun e_ W' => e_ = .returned (I q0) ∧ Im (w.alloc (.cells #[I (3), .string nm, .int .u8 sd, .int .u8 of, I i, I x, .slice B l.length cap] 52)).drew bad n e g mb cs vb r ps A c ((loadv (cls ps) nm sd (l.take 40)).2) W') := Lib.hid (by
  rw [← HQ.out]
  exact im_load HP.out hn hs (hC_take (HL.out _ (Keep.of_below HBW.out))))
 have HR : Hid (∀ W1, Im (w.alloc (.cells #[I (3), .string nm, .int .u8 sd, .int .u8 of, I i, I x, .slice B l.length cap] 52)).drew bad n e g mb cs vb r ps A c ((loadv (cls ps) nm sd (l.take 40)).2) W1 → Calls Try.prog 51 #[.pointer (some ⟨r, 0, none⟩), .agg #[.string nm, .int .u8 sd], .slice B (l.take 40).length cap] W1 fun e_ W' => e_ = .returned (I q0) ∧ Bo (w.alloc (.cells #[I (3), .string nm, .int .u8 sd, .int .u8 of, I i, I x, .slice B l.length cap] 52)).drew (Own mb r cs vb) bad n e g r ((loadv (cls ps) nm sd (l.take 40)).2) W') := Lib.hid (fun W1 him => by
  rw [← HQ.out]
  exact re_load HP.out (hC_take (HL.out _ ((Keep.of_below (own := Own mb r cs vb) HBW.out).trans him.keep (fun b q => .inl q)))) him)
 clear HQ
 go_enter Try.func22, Try.ntmps22
 go_wp2_with fail
 have hbx := HBX.out
 have c0 : (w.alloc (.cells #[I (3), .string nm, .int .u8 sd, .int .u8 of, I i, I x, .slice B l.length cap] 52)).drew.cell? ⟨w.heap.size, 0, none⟩ = some (I (3)) := by rw [cell_of hbx]; rfl
 have c1 : (w.alloc (.cells #[I (3), .string nm, .int .u8 sd, .int .u8 of, I i, I x, .slice B l.length cap] 52)).drew.cell? ⟨w.heap.size, 1, none⟩ = some (.string nm) := by rw [cell_of hbx]; rfl
 have c2 : (w.alloc (.cells #[I (3), .string nm, .int .u8 sd, .int .u8 of, I i, I x, .slice B l.length cap] 52)).drew.cell? ⟨w.heap.size, 2, none⟩ = some (.int .u8 sd) := by rw [cell_of hbx]; rfl
 have c3 : (w.alloc (.cells #[I (3), .string nm, .int .u8 sd, .int .u8 of, I i, I x, .slice B l.length cap] 52)).drew.cell? ⟨w.heap.size, 3, none⟩ = some (.int .u8 of) := by rw [cell_of hbx]; rfl
 have c4 : (w.alloc (.cells #[I (3), .string nm, .int .u8 sd, .int .u8 of, I i, I x, .slice B l.length cap] 52)).drew.cell? ⟨w.heap.size, 4, none⟩ = some (I i) := by rw [cell_of hbx]; rfl
 have c5 : (w.alloc (.cells #[I (3), .string nm, .int .u8 sd, .int .u8 of, I i, I x, .slice B l.length cap] 52)).drew.cell? ⟨w.heap.size, 5, none⟩ = some (I x) := by rw [cell_of hbx]; rfl
 have c6 : (w.alloc (.cells #[I (3), .string nm, .int .u8 sd, .int .u8 of, I i, I x, .slice B l.length cap] 52)).drew.cell? ⟨w.heap.size, 6, none⟩ = some (.slice B l.length cap) := by rw [cell_of hbx]; rfl
 clear hbx
 refine start_ (n := 16) (S := fun w' => w'.cell? ⟨w.heap.size, 0, none⟩ = some (I (3)) ∧ w'.cell? ⟨w.heap.size, 1, none⟩ = some (.string nm) ∧ w'.cell? ⟨w.heap.size, 2, none⟩ = some (.int .u8 sd) ∧ w'.cell? ⟨w.heap.size, 3, none⟩ = some (.int .u8 of) ∧ w'.cell? ⟨w.heap.size, 4, none⟩ = some (I i) ∧ w'.cell? ⟨w.heap.size, 5, none⟩ = some (I x) ∧ w'.cell? ⟨w.heap.size, 6, none⟩ = some (.slice B l.length cap)) (ds := []) #[false,false,false,false,false,false,false,false,false,false,false,false,false,false,false,false] (by kernel_rfl) rfl rfl ⟨c0, c1, c2, c3, c4, c5, c6⟩ (fun hHeld => ?_)
 refine pure_ (i := 0) (N := some 60) (v := ?_) (a' := ?_) #[true,false,false,false,false,false,false,false,false,false,false,false,false,false,false,false] rfl rfl (by kernel_rfl) (fun _ _ _ h => h) (Or.inl ⟨by rfl, ?_⟩) ?_ ?_
 rotate_left
 ·intro w'
  go_simp
  with_reducible rfl
 rotate_left
 ·simp only [Act.put, List.setIfInBounds_toArray, List.set_cons_zero, List.set_cons_succ, i64_w, i32_w]
  rfl
 refine pure_ (i := 1) (N := some 61) (v := ?_) (a' := ?_) #[true,true,false,false,false,false,false,false,false,false,false,false,false,false,false,false] rfl rfl (by kernel_rfl) (fun _ _ _ h => h) (Or.inl ⟨by rfl, ?_⟩) ?_ ?_
 rotate_left
 ·intro w'
  go_simp
  with_reducible rfl
 rotate_left
 ·simp only [Act.put, List.setIfInBounds_toArray, List.set_cons_zero, List.set_cons_succ, i64_w, i32_w]
  rfl
 refine pure_ (i := 3) (N := some 63) (v := ?_) (a' := ?_) #[true,true,false,true,false,false,false,false,false,false,false,false,false,false,false,false] rfl rfl (by kernel_rfl) (fun _ _ _ h => h) (Or.inl ⟨by rfl, ?_⟩) ?_ ?_
 rotate_left
 ·intro w'
  go_simp
  with_reducible rfl
 rotate_left
 ·simp only [Act.put, List.setIfInBounds_toArray, List.set_cons_zero, List.set_cons_succ, i64_w, i32_w]
  rfl
 refine pure_ (i := 7) (N := some 67) (v := ?_) (a' := ?_) #[true,true,false,true,false,false,false,true,false,false,false,false,false,false,false,false] rfl rfl (by kernel_rfl) (fun _ _ _ h => h) (Or.inl ⟨by rfl, ?_⟩) ?_ ?_
 rotate_left
 ·intro w'
  go_simp
  with_reducible rfl
 rotate_left
 ·simp only [Act.put, List.setIfInBounds_toArray, List.set_cons_zero, List.set_cons_succ, i64_w, i32_w]
  rfl
 refine pure_ (i := 8) (N := some 68) (v := ?_) (a' := ?_) #[true,true,false,true,false,false,false,true,true,false,false,false,false,false,false,false] rfl rfl (by kernel_rfl) (fun _ _ _ h => h) (Or.inl ⟨by rfl, ?_⟩) ?_ ?_
 rotate_left
 ·intro w'
  go_simp
  with_reducible rfl
 rotate_left
 ·simp only [Act.put, List.setIfInBounds_toArray, List.set_cons_zero, List.set_cons_succ, i64_w, i32_w]
  rfl
 refine pure_ (i := 10) (N := some 70) (v := ?_) (a' := ?_) #[true,true,false,true,false,false,false,true,true,false,true,false,false,false,false,false] rfl rfl (by kernel_rfl) (fun _ _ _ h => h) (Or.inl ⟨by rfl, ?_⟩) ?_ ?_
 rotate_left
 ·intro w'
  go_simp
  with_reducible rfl
 rotate_left
 ·simp only [Act.put, List.setIfInBounds_toArray, List.set_cons_zero, List.set_cons_succ, i64_w, i32_w]
  rfl
 refine take_ (i := 2) (N := some 62) (v := ?_) (a' := ?_) #[true,true,true,true,false,false,false,true,true,false,true,false,false,false,false,false] rfl rfl (by kernel_rfl) (fun _ _ _ h => h) (Or.inl ⟨by rfl, ?_⟩) hHeld ?_ ?_
 rotate_left
 ·rintro w' ⟨s0, s1, s2, s3, s4, s5, s6⟩
  go_simp
  with_reducible rfl
 rotate_left
 ·simp only [Act.put, List.setIfInBounds_toArray, List.set_cons_zero, List.set_cons_succ, i64_w, i32_w]
  rfl
 refine take_ (i := 4) (N := some 64) (v := ?_) (a' := ?_) #[true,true,true,true,true,false,false,true,true,false,true,false,false,false,false,false] rfl rfl (by kernel_rfl) (fun _ _ _ h => h) (Or.inl ⟨by rfl, ?_⟩) hHeld ?_ ?_
 rotate_left
 ·rintro w' ⟨s0, s1, s2, s3, s4, s5, s6⟩
  go_simp
  with_reducible rfl
 rotate_left
 ·simp only [Act.put, List.setIfInBounds_toArray, List.set_cons_zero, List.set_cons_succ, i64_w, i32_w]
  rfl
 refine take_ (i := 9) (N := some 69) (v := ?_) (a' := ?_) #[true,true,true,true,true,false,false,true,true,true,true,false,false,false,false,false] rfl rfl (by kernel_rfl) (fun _ _ _ h => h) (Or.inl ⟨by rfl, ?_⟩) hHeld ?_ ?_
 rotate_left
 ·rintro w' ⟨s0, s1, s2, s3, s4, s5, s6⟩
  go_simp
  with_reducible rfl
 rotate_left
 ·simp only [Act.put, List.setIfInBounds_toArray, List.set_cons_zero, List.set_cons_succ, i64_w, i32_w]
  rfl
 refine take_ (i := 11) (N := some 71) (v := ?_) (a' := ?_) #[true,true,true,true,true,false,false,true,true,true,true,true,false,false,false,false] rfl rfl (by kernel_rfl) (fun _ _ _ h => h) (Or.inl ⟨by rfl, ?_⟩) hHeld ?_ ?_
 rotate_left
 ·rintro w' ⟨s0, s1, s2, s3, s4, s5, s6⟩
  go_simp
  with_reducible rfl
 rotate_left
 ·simp only [Act.put, List.setIfInBounds_toArray, List.set_cons_zero, List.set_cons_succ, i64_w, i32_w]
  rfl
 refine one_ (i := 5) (N := some 65) #[true,true,true,true,true,true,false,true,true,true,true,true,false,false,false,false] rfl rfl (by kernel_rfl) (by decide) (fun K hK => ?_)
 refine goes_ Try.func29 (by kernel_rfl) rfl #[.slice B l.length cap] (by rfl) rfl rfl (by simp only [List.map_toArray, List.map_cons, List.map_nil]; rfl) ?_
 with_reducible refine (few_ok B cap l _ (HL.out _ (Keep.of_below (own := Own mb r cs vb) (below_drew (below_alloc (Below.refl _ w) _)))) hlc hlm).mono ?_
 rintro e w1 ⟨rfl, rfl⟩
 refine ⟨_, rfl, ?_⟩
 refine hK.out _ _ ⟨c0, c1, c2, c3, c4, c5, c6⟩ (fun hHeld => ?_)
 clear hK K
 refine norm_ (a' := ?_) ?_ ?_
 rotate_left
 ·show Act.put _ (some 65) _ = _
  simp only [Act.put, List.setIfInBounds_toArray, List.set_cons_zero, List.set_cons_succ, i64_w, i32_w]
  rfl
 refine one_ (i := 6) (N := some 66) #[true,true,true,true,true,true,true,true,true,true,true,true,false,false,false,false] rfl rfl (by kernel_rfl) (by decide) (fun K hK => ?_)
 refine goes_ Try.func28 (by kernel_rfl) rfl #[.pointer (some ⟨g, 0, none⟩), .agg #[.string nm, .int .u8 sd], .slice B (l.take 40).length cap] (by rfl) rfl rfl (by simp only [List.map_toArray, List.map_cons, List.map_nil]; rfl) ?_
 with_reducible refine (HI.out).mono ?_
 rintro e w1 ⟨rfl, him⟩
 refine ⟨_, rfl, ?_⟩
 have HIM := Lib.hid him
 clear him
 have hx1 := (HIM.out.keep.block w.heap.size (by simp) (HNO.out)).trans HBX.out
 refine hK.out _ _ ⟨(by rw [cell_of hx1]; rfl), (by rw [cell_of hx1]; rfl), (by rw [cell_of hx1]; rfl), (by rw [cell_of hx1]; rfl), (by rw [cell_of hx1]; rfl), (by rw [cell_of hx1]; rfl), (by rw [cell_of hx1]; rfl)⟩ (fun hHeld => ?_)
 clear hK K
 refine norm_ (a' := ?_) ?_ ?_
 rotate_left
 ·show Act.put _ (some 66) _ = _
  simp only [Act.put, List.setIfInBounds_toArray, List.set_cons_zero, List.set_cons_succ, i64_w, i32_w]
  rfl
 refine one_ (i := 12) (N := some 72) #[true,true,true,true,true,true,true,true,true,true,true,true,true,false,false,false] rfl rfl (by kernel_rfl) (by decide) (fun K hK => ?_)
 refine goes_ Try.func29 (by kernel_rfl) rfl #[.slice B l.length cap] (by rfl) rfl rfl (by simp only [List.map_toArray, List.map_cons, List.map_nil]; rfl) ?_
 with_reducible refine (few_ok B cap l _ (HL.out _ ((Keep.of_below (own := Own mb r cs vb) (below_drew (below_alloc (Below.refl _ w) _))).trans HIM.out.keep (fun b q => .inl q))) hlc hlm).mono ?_
 rintro e w2 ⟨rfl, rfl⟩
 refine ⟨_, rfl, ?_⟩
 refine hK.out _ _ ⟨(by rw [cell_of hx1]; rfl), (by rw [cell_of hx1]; rfl), (by rw [cell_of hx1]; rfl), (by rw [cell_of hx1]; rfl), (by rw [cell_of hx1]; rfl), (by rw [cell_of hx1]; rfl), (by rw [cell_of hx1]; rfl)⟩ (fun hHeld => ?_)
 clear hK K
 refine norm_ (a' := ?_) ?_ ?_
 rotate_left
 ·show Act.put _ (some 72) _ = _
  simp only [Act.put, List.setIfInBounds_toArray, List.set_cons_zero, List.set_cons_succ, i64_w, i32_w]
  rfl
 refine one_ (i := 13) (N := some 73) #[true,true,true,true,true,true,true,true,true,true,true,true,true,true,false,false] rfl rfl (by kernel_rfl) (by decide) (fun K hK => ?_)
 refine goes_ Try.func51 (by kernel_rfl) rfl #[.pointer (some ⟨r, 0, none⟩), .agg #[.string nm, .int .u8 sd], .slice B (l.take 40).length cap] (by rfl) rfl rfl (by simp only [List.map_toArray, List.map_cons, List.map_nil]; rfl) ?_
 with_reducible refine ((HR.out _ HIM.out)).mono ?_
 rintro e w2 ⟨rfl, hbo⟩
 refine ⟨_, rfl, ?_⟩
 have HBO := Lib.hid hbo
 clear hbo
 have hx2 := (HBOX.out _ _ HBO.out).trans HBX.out
 refine hK.out _ _ ⟨(by rw [cell_of hx2]; rfl), (by rw [cell_of hx2]; rfl), (by rw [cell_of hx2]; rfl), (by rw [cell_of hx2]; rfl), (by rw [cell_of hx2]; rfl), (by rw [cell_of hx2]; rfl), (by rw [cell_of hx2]; rfl)⟩ (fun hHeld => ?_)
 clear hK K
 refine norm_ (a' := ?_) ?_ ?_
 rotate_left
 ·show Act.put _ (some 73) _ = _
  simp only [Act.put, List.setIfInBounds_toArray, List.set_cons_zero, List.set_cons_succ, i64_w, i32_w]
  rfl
 refine pure_ (i := 14) (N := some 74) (v := ?_) (a' := ?_) #[true,true,true,true,true,true,true,true,true,true,true,true,true,true,true,false] rfl rfl (by kernel_rfl) (fun _ _ _ h => h) (Or.inl ⟨by rfl, ?_⟩) ?_ ?_
 rotate_left
 ·intro w'
  go_simp
  with_reducible rfl
 rotate_left
 ·simp only [Act.put, List.setIfInBounds_toArray, List.set_cons_zero, List.set_cons_succ, i64_w, i32_w]
  rfl
 refine pure_ (i := 15) (N := some 6) (v := ?_) (a' := ?_) #[true,true,true,true,true,true,true,true,true,true,true,true,true,true,true,true] rfl rfl (by kernel_rfl) (fun _ _ _ h => h) (Or.inl ⟨by rfl, ?_⟩) ?_ ?_
 rotate_left
 ·intro w'
  go_simp
  with_reducible rfl
 rotate_left
 ·simp only [Act.put, List.setIfInBounds_toArray, List.set_cons_zero, List.set_cons_succ, i64_w, i32_w]
  rfl
 refine done_ (by kernel_rfl) ?_
 go_wp2_with fail
 go_ret
 exact ⟨rfl, HBO.out.pre HBW.out⟩
set_option maxRecDepth 100000 in
set_option maxHeartbeats 4000000 in
theorem do4 (w : World) {bad : Nat → Prop} {n e : Int} {g mb r c : Nat} {cs : List Cl} {cb vb : Nat → Nat} {ps : List Rw} {A : Option Addr} (h : Pt w bad n e g mb cs cb vb r ps A c) (k : Int) (nm : ByteArray) (sd of i x : Int) (B : Option Addr) (cap : Nat) (l : List Int) (hn : nm.size ≤ maxLen) (hs : 0 ≤ sd ∧ sd ≤ 255) (ho : 0 ≤ of ∧ of ≤ 255) (hlc : l.length ≤ cap) (hlm : l.length ≤ 9223372036854775807)
  (hL : ∀ W', Keep (Own mb r cs vb) w W' → Kd.C (Kd.int .i64) W' B l.length l) (hk : k ≠ 0 ∧ k ≠ 1 ∧ k ≠ 2 ∧ k ≠ 3) :
  Calls Try.prog 22 #[.pointer (some ⟨g, 0, none⟩), .pointer (some ⟨r, 0, none⟩), .agg #[I k, .string nm, .int .u8 sd, .int .u8 of, I i, I x, .slice B l.length cap]] w fun e_ w' => e_ = .returned (.bool true) ∧ Bo w (Own mb r cs vb) bad n e g r (cls ps) w' := by
 have hbw : Below w.heap.size w (w.alloc (.cells #[I k, .string nm, .int .u8 sd, .int .u8 of, I i, I x, .slice B l.length cap] 52)).drew := below_drew (below_alloc (Below.refl _ w) _)
 have HBW := Lib.hid hbw
 have HP := Lib.hid (h.below hbw)
 have HBX : Hid ((w.alloc (.cells #[I k, .string nm, .int .u8 sd, .int .u8 of, I i, I x, .slice B l.length cap] 52)).drew.heap[w.heap.size]? = some (.cells #[I k, .string nm, .int .u8 sd, .int .u8 of, I i, I x, .slice B l.length cap] 52 (0, 0))) := Lib.hid (heap_alloc_new w _)
 have HNO : Hid (¬ Own mb r cs vb w.heap.size) := Lib.hid fun q => by have := h.lt q; omega
 have HBOX : Hid (∀ rs' W', Bo (w.alloc (.cells #[I k, .string nm, .int .u8 sd, .int .u8 of, I i, I x, .slice B l.length cap] 52)).drew (Own mb r cs vb) bad n e g r rs' W' → W'.heap[w.heap.size]? = (w.alloc (.cells #[I k, .string nm, .int .u8 sd, .int .u8 of, I i, I x, .slice B l.length cap] 52)).drew.heap[w.heap.size]?) := Lib.hid fun rs' W' q => q.same (rs := []) (by simp) HNO.out
 have HL := Lib.hid hL
 have HP0 := Lib.hid h
 clear h hL hbw
 have b0 : (k == 0) = false := by simpa using hk.1
 have b1 : (k == 1) = false := by simpa using hk.2.1
 have b2 : (k == 2) = false := by simpa using hk.2.2.1
 have b3 : (k == 3) = false := by simpa using hk.2.2.2
 clear hk
 go_enter Try.func22, Try.ntmps22
 go_wp2_with fail
 go_ret
 refine ⟨rfl, ?_⟩
 have hb := below_alloc (Below.refl _ w) (.cells #[I k, .string nm, .int .u8 sd, .int .u8 of, I i, I x, .slice B l.length cap] 52)
 exact ⟨_, _, ⟨_, _, _, _, _, _, _, HP0.out.below hb, rfl, rfl⟩, ⟨Keep.of_below hb, fun b q => .inl q, fun b q => .inl q⟩, fun b q => q⟩
/-- A deed on both: they tell the same, and stay beside each other. -/
theorem do_ok (w : World) {own bad : Nat → Prop} {n e : Int} {g r : Nat} {rs : List Cl} (h : Sys w own bad n e g r rs) (d : Dd) (B : Option Addr) (cap : Nat) (hn : d.nm.size ≤ maxLen) (hs : 0 ≤ d.sd ∧ d.sd ≤ 255) (ho : 0 ≤ d.of ∧ d.of ≤ 255) (hlc : d.l.length ≤ cap) (hlm : d.l.length ≤ 9223372036854775807)
  (hL : ∀ W', Keep own w W' → Kd.C (Kd.int .i64) W' B d.l.length d.l) :
  Calls Try.prog 22 #[.pointer (some ⟨g, 0, none⟩), .pointer (some ⟨r, 0, none⟩), .agg #[I d.k, .string d.nm, .int .u8 d.sd, .int .u8 d.of, I d.i, I d.x, .slice B d.l.length cap]] w fun e_ w' => e_ = .returned (.bool true) ∧ Bo w own bad n e g r (dov n e rs d) w' := by
 obtain ⟨mb, cs, cb, vb, ps, A, c, hp, rfl, rfl⟩ := h
 unfold dov
 by_cases h0 : d.k = 0
 ·rw [if_pos h0]; exact do0 w hp d.k d.nm d.sd d.of d.i d.x B cap d.l hn hs ho hlc hlm hL h0
 ·rw [if_neg h0]
  by_cases h1 : d.k = 1
  ·rw [if_pos h1]; exact do1 w hp d.k d.nm d.sd d.of d.i d.x B cap d.l hn hs ho hlc hlm hL h1
  ·rw [if_neg h1]
   by_cases h2 : d.k = 2
   ·rw [if_pos h2]; exact do2 w hp d.k d.nm d.sd d.of d.i d.x B cap d.l hn hs ho hlc hlm hL h2
   ·rw [if_neg h2]
    by_cases h3 : d.k = 3
    ·rw [if_pos h3]; exact do3 w hp d.k d.nm d.sd d.of d.i d.x B cap d.l hn hs ho hlc hlm hL h3
    ·rw [if_neg h3]; exact do4 w hp d.k d.nm d.sd d.of d.i d.x B cap d.l hn hs ho hlc hlm hL ⟨h0, h1, h2, h3⟩
end Go.Proofs.Ytpcjppefopjngaa.C
