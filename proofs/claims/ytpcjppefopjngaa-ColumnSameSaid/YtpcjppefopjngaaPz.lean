/- Pl, Sy, Sz -/
import Derived.Test.YtpcjppefopjngaaRg
section
/- Columns, plainly: the program's, in the order in which they came, beside the document's, sorted. -/
set_option linter.unusedSimpArgs false
set_option linter.unusedVariables false
namespace Go.Proofs.Ytpcjppefopjngaa.C
open Go.RowKit Go.Proofs.Ytpcjppefopjngaa.Sk Go.Proofs.Ytpcjppefopjngaa.PA Go.Proofs.Ytpcjppefopjngaa.Mp Go.Proofs.YtpcjppefopjngaaW.PrintWords Go.Proofs.YtpcjppefopjngaaW.PrintLast Go.Proofs.YtpcjppefopjngaaW.PrintMore
/-- A column that may be. -/
structure Okc (n e : Int) (c : Cl) : Prop where
 nm : nmok c.nm = true
 s1 : 1 ≤ c.sd
 s3 : c.sd ≤ 3
 kd : c.kd = 1 ∨ c.kd = 2
 ln : (c.vs.length : Int) = len n e c.sd
 ft : fits c.kd c.vs = true
/-- The document's columns. -/
structure Wf (n e : Int) (rs : List Cl) : Prop where
 ok : ∀ c ∈ rs, Okc n e c
 so : (rs.map Cl.k25).Pairwise klt
 n24 : rs.length ≤ 24
section
variable {n e : Int} {cs rs : List Cl} {nm : ByteArray} {sd : Int} {vs : List Int}
theorem Wf.nd (h : Wf n e rs) : (rs.map Cl.k25).Nodup := h.so.imp (fun {a b} q => fun (e : a = b) => klt_irr b (by rw [e] at q; exact q))
theorem perm_nd (h : Wf n e rs) (hp : cs.Perm rs) : (cs.map Cl.k25).Nodup := (hp.map Cl.k25).nodup_iff.2 h.nd
theorem nd_idx {l : List S25} (hn : l.Nodup) {i j : Nat} (hi : i < l.length) (hj : j < l.length) (h : l[i] = l[j]) : i = j := by
 rw [List.Nodup, List.pairwise_iff_getElem] at hn
 rcases Nat.lt_trichotomy i j with q | q | q
 ·exact absurd h (hn i j hi hj q)
 ·exact q
 ·exact absurd h.symm (hn j i hj hi q)
/-- The column of a key. -/
def get? (cs : List Cl) (nm : ByteArray) (sd : Int) : Option Cl := cs.find? fun c => decide (c.nm = nm ∧ c.sd = sd)
theorem find_get : ∀ (cs : List Cl) (nm : ByteArray) (sd : Int), get? cs nm sd = match find cs nm sd with | none => none | some j => some (cs.getD j z0)
 | [], nm, sd => by simp [get?, find]
 | c :: cs, nm, sd => by
  have ih := find_get cs nm sd
  unfold get? find at ih ⊢
  rw [List.find?_cons, List.findIdx?_cons]
  by_cases h : c.nm = nm ∧ c.sd = sd
  ·simp [h]
  ·rw [decide_eq_false h]
   simp only [Bool.false_eq_true, if_false]
   rw [ih]
   cases List.findIdx? (fun c => decide (c.nm = nm ∧ c.sd = sd)) cs with
   | none => rfl
   | some j => simp
theorem get_some {c : Cl} (h : get? cs nm sd = some c) : c ∈ cs ∧ c.nm = nm ∧ c.sd = sd := by
 unfold get? at h
 exact ⟨List.mem_of_find?_eq_some h, by simpa using List.find?_some h⟩
theorem nd_inj {c d : Cl} (hn : (cs.map Cl.k25).Nodup) (hc : c ∈ cs) (hd : d ∈ cs) (h1 : c.nm = d.nm) (h2 : c.sd = d.sd) : c = d := by
 obtain ⟨i, hi, rfl⟩ := List.getElem_of_mem hc
 obtain ⟨j, hj, rfl⟩ := List.getElem_of_mem hd
 have : i = j := by
  refine nd_idx hn (i := i) (j := j) (by simpa using hi) (by simpa using hj) ?_
  rw [List.getElem_map, List.getElem_map]
  unfold Cl.k25
  rw [h1, h2]
 subst this
 rfl
theorem get_iff (hn : (cs.map Cl.k25).Nodup) {c : Cl} : get? cs nm sd = some c ↔ c ∈ cs ∧ c.nm = nm ∧ c.sd = sd := by
 refine ⟨get_some, fun ⟨h1, h2, h3⟩ => ?_⟩
 cases hg : get? cs nm sd with
 | none =>
  unfold get? at hg
  rw [List.find?_eq_none] at hg
  have := hg c h1
  simp [h2, h3] at this
 | some d =>
  obtain ⟨d1, d2, d3⟩ := get_some hg
  rw [nd_inj hn d1 h1 (d2.trans h2.symm) (d3.trans h3.symm)]
theorem get_perm (h : Wf n e rs) (hp : cs.Perm rs) (nm : ByteArray) (sd : Int) : get? cs nm sd = get? rs nm sd := by
 ext c
 rw [get_iff (perm_nd h hp), get_iff h.nd, hp.mem_iff]
theorem getv_get (cs : List Cl) (nm : ByteArray) (sd i : Int) : getv cs nm sd i = match get? cs nm sd with | none => (0, 5) | some c => if i < 0 ∨ (c.vs.length : Int) ≤ i then (0, 2) else (c.vs.getD i.toNat 0, 0) := by
 rw [find_get]; unfold getv
 cases find cs nm sd <;> rfl
theorem list_get (cs : List Cl) (nm : ByteArray) (sd : Int) : list cs nm sd = match get? cs nm sd with | none => [] | some c => c.vs := by
 rw [find_get]; unfold list
 cases find cs nm sd <;> rfl
theorem kind_get (cs : List Cl) (nm : ByteArray) (sd : Int) : kind cs nm sd = match get? cs nm sd with | none => 0 | some c => c.kd := by
 rw [find_get]; unfold kind
 cases find cs nm sd <;> rfl
/-- The column of a key with other values. -/
def updm (cs : List Cl) (nm : ByteArray) (sd : Int) (vs : List Int) : List Cl := cs.map fun c => if c.nm = nm ∧ c.sd = sd then { c with vs := vs } else c
theorem upd_updm (hn : (cs.map Cl.k25).Nodup) {j : Nat} (hf : find cs nm sd = some j) (vs : List Int) : upd cs j vs = updm cs nm sd vs := by
 obtain ⟨hj, h1, h2⟩ := find_some hf
 refine List.ext_getElem (by simp [upd, updm]) fun i hi hi' => ?_
 have hi0 : i < cs.length := by simpa [upd] using hi
 rw [upd_at hj hi0]
 have hm : (updm cs nm sd vs)[i] = if cs[i].nm = nm ∧ cs[i].sd = sd then { cs[i] with vs := vs } else cs[i] := by simp only [updm, List.getElem_map]
 rw [hm]
 by_cases he : i = j
 ·subst he
  rw [if_pos rfl, if_pos ⟨h1, h2⟩]
 ·rw [if_neg he, if_neg]
  intro ⟨q1, q2⟩
  refine he (nd_idx hn (i := i) (j := j) (by simpa using hi0) (by simpa using hj) ?_)
  rw [List.getElem_map, List.getElem_map]
  unfold Cl.k25
  rw [q1, q2, h1, h2]
theorem updm_keys (cs : List Cl) (nm : ByteArray) (sd : Int) (vs : List Int) : (updm cs nm sd vs).map Cl.k25 = cs.map Cl.k25 := by
 unfold updm
 rw [List.map_map]
 refine List.map_congr_left fun c _ => ?_
 show Cl.k25 (if c.nm = nm ∧ c.sd = sd then { c with vs := vs } else c) = _
 split <;> rfl
theorem Wf.updm (h : Wf n e rs) {c : Cl} (hg : get? rs nm sd = some c) (hl : vs.length = c.vs.length) (hf : fits c.kd vs = true) : Wf n e (updm rs nm sd vs) := by
 refine ⟨fun d hd => ?_, by rw [updm_keys]; exact h.so, by unfold C.updm; rw [List.length_map]; exact h.n24⟩
 obtain ⟨c1, c2, c3⟩ := get_some hg
 obtain ⟨d0, h0, rfl⟩ := List.mem_map.1 hd
 have hd0 := h.ok d0 h0
 split
 ·rename_i q
  obtain rfl : d0 = c := nd_inj h.nd h0 c1 (q.1.trans c2.symm) (q.2.trans c3.symm)
  exact ⟨hd0.nm, hd0.s1, hd0.s3, hd0.kd, by show (vs.length : Int) = _; rw [hl]; exact hd0.ln, hf⟩
 ·exact hd0
theorem updm_perm (hp : cs.Perm rs) : (updm cs nm sd vs).Perm (updm rs nm sd vs) := hp.map _
/-- What a deed on a column comes to: the error, other values. -/
def deed (cs : List Cl) (nm : ByteArray) (sd : Int) (f : Cl → Int × List Int) : Int × List Cl := match get? cs nm sd with | none => (5, cs) | some c => if (f c).1 = 0 then (0, updm cs nm sd (f c).2) else ((f c).1, cs)
def fset (i x : Int) (c : Cl) : Int × List Int := if i < 0 ∨ (c.vs.length : Int) ≤ i then (2, []) else if fits c.kd [x] = true then (0, c.vs.set i.toNat x) else (3, [])
def ffill (x : Int) (c : Cl) : Int × List Int := if fits c.kd [x] = true then (0, List.replicate c.vs.length x) else (3, [])
def fload (l : List Int) (c : Cl) : Int × List Int := if l.length ≠ c.vs.length then (2, []) else if fits c.kd l = true then (0, l) else (3, [])
theorem setv_deed (hn : (cs.map Cl.k25).Nodup) (i x : Int) : setv cs nm sd i x = deed cs nm sd (fset i x) := by
 unfold setv deed
 rw [find_get]
 cases hf : find cs nm sd with
 | none => rfl
 | some j =>
  show (if _ then _ else _) = if _ then _ else _
  unfold fset
  by_cases h1 : i < 0 ∨ ((cs.getD j z0).vs.length : Int) ≤ i
  ·rw [if_pos h1, if_pos h1]; rfl
  ·rw [if_neg h1, if_neg h1]
   by_cases h2 : fits (cs.getD j z0).kd [x] = true
   ·rw [if_pos h2, if_pos h2, if_pos rfl, upd_updm hn hf]
   ·rw [if_neg h2, if_neg h2]; rfl
theorem fillv_deed (hn : (cs.map Cl.k25).Nodup) (x : Int) : fillv cs nm sd x = deed cs nm sd (ffill x) := by
 unfold fillv deed
 rw [find_get]
 cases hf : find cs nm sd with
 | none => rfl
 | some j =>
  show (if _ then _ else _) = if _ then _ else _
  unfold ffill
  by_cases h2 : fits (cs.getD j z0).kd [x] = true
  ·rw [if_pos h2, if_pos h2, if_pos rfl, upd_updm hn hf]
  ·rw [if_neg h2, if_neg h2]; rfl
theorem loadv_deed (hn : (cs.map Cl.k25).Nodup) (l : List Int) : loadv cs nm sd l = deed cs nm sd (fload l) := by
 unfold loadv deed
 rw [find_get]
 cases hf : find cs nm sd with
 | none => rfl
 | some j =>
  show (if _ then _ else _) = if _ then _ else _
  unfold fload
  by_cases h1 : l.length ≠ (cs.getD j z0).vs.length
  ·rw [if_pos h1, if_pos h1]; rfl
  ·rw [if_neg h1, if_neg h1]
   by_cases h2 : fits (cs.getD j z0).kd l = true
   ·rw [if_pos h2, if_pos h2, if_pos rfl, upd_updm hn hf]
   ·rw [if_neg h2, if_neg h2]; rfl
theorem fits_all' {kd : Int} {l : List Int} : fits kd l = true ↔ ∀ x ∈ l, kd ≠ 2 ∨ x = 0 ∨ x = 1 := by unfold fits; simp
/-- New values are as many, and fit. -/
def Goodf (f : Cl → Int × List Int) : Prop := ∀ c, fits c.kd c.vs = true → (f c).1 = 0 → (f c).2.length = c.vs.length ∧ fits c.kd (f c).2 = true
theorem good_fset (i x : Int) : Goodf (fset i x) := fun c hc h => by
 unfold fset at h ⊢
 split at h
 ·cases h
 ·rename_i q
  rw [if_neg q]
  split at h
  ·rename_i q2
   rw [if_pos q2]
   refine ⟨by simp, fits_all'.2 fun y hy => ?_⟩
   rcases List.mem_or_eq_of_mem_set hy with hy | rfl
   ·exact fits_all'.1 hc y hy
   ·exact fits_all'.1 q2 _ (by simp)
  ·cases h
theorem good_ffill (x : Int) : Goodf (ffill x) := fun c hc h => by
 unfold ffill at h ⊢
 split at h
 ·rename_i q2
  rw [if_pos q2]
  refine ⟨by simp, fits_all'.2 fun y hy => ?_⟩
  obtain rfl := (List.mem_replicate.1 hy).2
  exact fits_all'.1 q2 _ (by simp)
 ·cases h
theorem good_fload (l : List Int) : Goodf (fload l) := fun c hc h => by
 unfold fload at h ⊢
 split at h
 ·cases h
 ·rename_i q
  rw [if_neg q]
  split at h
  ·rename_i q2
   rw [if_pos q2]
   exact ⟨by show l.length = _; omega, q2⟩
  ·cases h
theorem deed_rel (h : Wf n e rs) (hp : cs.Perm rs) {f : Cl → Int × List Int} (hf : Goodf f) : (deed cs nm sd f).1 = (deed rs nm sd f).1 ∧ Wf n e (deed rs nm sd f).2 ∧ (deed cs nm sd f).2.Perm (deed rs nm sd f).2 := by
 unfold deed
 rw [get_perm h hp]
 cases hg : get? rs nm sd with
 | none => exact ⟨rfl, h, hp⟩
 | some c =>
  obtain ⟨c1, c2, c3⟩ := get_some hg
  show (if _ then _ else _ : Int × List Cl).1 = (if _ then _ else _ : Int × List Cl).1 ∧ Wf n e (if _ then _ else _ : Int × List Cl).2 ∧ (if _ then _ else _ : Int × List Cl).2.Perm (if _ then _ else _ : Int × List Cl).2
  by_cases h0 : (f c).1 = 0
  ·rw [if_pos h0, if_pos h0]
   obtain ⟨q1, q2⟩ := hf c (h.ok c c1).ft h0
   exact ⟨rfl, h.updm hg q1 q2, updm_perm hp⟩
  ·rw [if_neg h0, if_neg h0]
   exact ⟨rfl, h, hp⟩
theorem find_isSome (cs : List Cl) (nm : ByteArray) (sd : Int) : (find cs nm sd).isSome = (get? cs nm sd).isSome := by
 rw [find_get]
 cases find cs nm sd <;> rfl
theorem ins_perm (rs : List Cl) (x : Cl) : (insk rs x).Perm (x :: rs) := by
 unfold insk
 refine List.perm_middle.trans ?_
 rw [List.takeWhile_append_dropWhile]
theorem ins_so : ∀ (rs : List Cl) (x : Cl), (rs.map Cl.k25).Pairwise klt → (∀ c ∈ rs, c.k25 ≠ x.k25) → ((insk rs x).map Cl.k25).Pairwise klt
 | [], x, _, _ => by simp [insk]
 | c :: rs, x, h, hx => by
  rw [List.map_cons, List.pairwise_cons] at h
  obtain ⟨h1, h2⟩ := h
  have ih := ins_so rs x h2 (fun d hd => hx d (List.mem_cons_of_mem _ hd))
  unfold insk at ih ⊢
  by_cases hc : klt c.k25 x.k25
  ·rw [List.takeWhile_cons, List.dropWhile_cons, decide_eq_true hc, if_pos rfl, if_pos rfl, List.cons_append, List.map_cons, List.pairwise_cons]
   refine ⟨fun y hy => ?_, ih⟩
   obtain ⟨d, hd, rfl⟩ := List.mem_map.1 hy
   have := (ins_perm rs x).mem_iff.1 hd
   rcases List.mem_cons.1 this with rfl | hd
   ·exact hc
   ·exact h1 _ (List.mem_map_of_mem hd)
  ·rw [List.takeWhile_cons, List.dropWhile_cons, decide_eq_false hc, if_neg (by simp), if_neg (by simp), List.nil_append, List.map_cons, List.pairwise_cons]
   have hxc : klt x.k25 c.k25 := by
    refine Classical.byContradiction fun q => hx c (by simp) (klt_tri _ _ hc q)
   refine ⟨fun y hy => ?_, by rw [List.map_cons, List.pairwise_cons]; exact ⟨h1, h2⟩⟩
   rw [List.map_cons, List.mem_cons] at hy
   rcases hy with rfl | hy
   ·exact hxc
   ·exact klt_trans hxc (h1 _ hy)
theorem len_fit (kd : Int) (m : Nat) : fits kd (List.replicate m 0) = true := fits_all'.2 fun x hx => .inr (.inl (List.mem_replicate.1 hx).2)
theorem decl_rel (hN : inN n e) (h : Wf n e rs) (hp : cs.Perm rs) (nm : ByteArray) (sd kd : Int) : (declv n e cs nm sd kd).1 = (rdeclv n e rs nm sd kd).1 ∧ Wf n e (rdeclv n e rs nm sd kd).2 ∧ (declv n e cs nm sd kd).2.Perm (rdeclv n e rs nm sd kd).2 := by
 unfold declv rdeclv
 rw [find_isSome, find_isSome, get_perm h hp, hp.length_eq]
 by_cases h1 : nmok nm = false
 ·rw [if_pos h1, if_pos h1]; exact ⟨rfl, h, hp⟩
 ·rw [if_neg h1, if_neg h1]
  by_cases h2 : sd < 1 ∨ 3 < sd ∨ kd < 1 ∨ 2 < kd
  ·rw [if_pos h2, if_pos h2]; exact ⟨rfl, h, hp⟩
  ·rw [if_neg h2, if_neg h2]
   by_cases h3 : (get? rs nm sd).isSome = true
   ·rw [if_pos h3, if_pos h3]; exact ⟨rfl, h, hp⟩
   ·rw [if_neg h3, if_neg h3]
    by_cases h4 : 24 ≤ rs.length
    ·rw [if_pos h4, if_pos h4]; exact ⟨rfl, h, hp⟩
    ·rw [if_neg h4, if_neg h4]
     have hno : ∀ c ∈ rs, c.k25 ≠ (⟨nm, sd, kd, List.replicate (len n e sd).toNat 0⟩ : Cl).k25 := fun c hc q => by
      have q1 : c.nm = nm := congrArg S25.f0 q
      have q2 : c.sd = sd := congrArg S25.f1 q
      rw [(get_iff h.nd).2 ⟨hc, q1, q2⟩] at h3
      exact h3 rfl
     refine ⟨rfl, ⟨fun c hc => ?_, ins_so _ _ h.so hno, by rw [(ins_perm _ _).length_eq, List.length_cons]; omega⟩, ?_⟩
     ·rcases List.mem_cons.1 ((ins_perm _ _).mem_iff.1 hc) with rfl | hc
      ·obtain ⟨m, hm, _⟩ := len_nat n e sd hN
       exact ⟨by simpa using h1, by show 1 ≤ sd; omega, by show sd ≤ 3; omega, by show kd = 1 ∨ kd = 2; omega, by show ((List.replicate (len n e sd).toNat (0 : Int)).length : Int) = len n e sd; rw [List.length_replicate]; omega, len_fit _ _⟩
      ·exact h.ok c hc
     ·refine (hp.append_right _).trans ?_
      exact (List.perm_append_singleton _ _).trans (ins_perm _ _).symm
theorem keys_rel (h : Wf n e rs) (hp : cs.Perm rs) : skeys cs = rs.map Cl.k25 := by
 unfold skeys
 rw [sort_perm (hp.map Cl.k25)]
 refine List.mergeSort_of_pairwise (h.so.imp fun {a b} q => ?_)
 unfold le
 rw [ltOc, decide_eq_false (fun q' => klt_irr a (klt_trans q q'))]
 rfl
end
end Go.Proofs.Ytpcjppefopjngaa.C
end
section
/- Columns beside the document's: what lies where, and what a deed leaves alone. -/
set_option linter.unusedSimpArgs false
set_option linter.unusedVariables false
namespace Go.Proofs.Ytpcjppefopjngaa.C
open Go.RowKit Go.Proofs.Ytpcjppefopjngaa.Sk Go.Proofs.Ytpcjppefopjngaa.PA Go.Proofs.Ytpcjppefopjngaa.Mp Go.Proofs.YtpcjppefopjngaaW.PrintWords Go.Proofs.YtpcjppefopjngaaW.PrintLast Go.Proofs.YtpcjppefopjngaaW.PrintMore
/-- All but some blocks is kept. -/
structure Keep (own : Nat → Prop) (W W' : World) : Prop where
 os : W'.os = W.os
 tape : W'.tape = W.tape
 output : W'.output = W.output
 size : W.heap.size ≤ W'.heap.size
 block : ∀ b, b < W.heap.size → ¬ own b → W'.heap[b]? = W.heap[b]?
section
variable {own own1 own2 bad : Nat → Prop} {W W1 W2 W' : World}
theorem Keep.of_below (h : Below W.heap.size W W') : Keep own W W' := ⟨h.os, h.tape, h.output, h.size, fun b hb _ => h.block b hb⟩
theorem Keep.of_grown {r : Option Nat} (h : W.grownBy W' r) (hr : ∀ k, r = some k → own k) : Keep own W W' := ⟨h.os, h.tape, h.output, h.size, fun b hb ho => h.block b hb (fun e => ho (hr b e.symm))⟩
theorem Keep.trans (h : Keep own W W1) (h2 : Keep own1 W1 W2) (ho : ∀ b, own1 b → own b ∨ W.heap.size ≤ b) : Keep own W W2 :=
 ⟨h2.os.trans h.os, h2.tape.trans h.tape, h2.output.trans h.output, Nat.le_trans h.size h2.size, fun b hb hn => (h2.block b (Nat.lt_of_lt_of_le hb h.size) (fun q => (ho b q).elim hn (fun q => by omega))).trans (h.block b hb hn)⟩
theorem Keep.below {W0 : World} {B : Nat} (h : Keep own W W') (hb : Below B W0 W) (hB : B ≤ W.heap.size) (ho : ∀ b, own b → B ≤ b) : Below B W0 W' :=
 ⟨h.os.trans hb.os, h.tape.trans hb.tape, h.output.trans hb.output, Nat.le_trans hb.size h.size, fun b hl => (h.block b (by omega) (fun q => by have := ho b q; omega)).trans (hb.block b hl)⟩
theorem Keep.mono (h : Keep own W W') (ho : ∀ b, own b → own1 b) : Keep own1 W W' := ⟨h.os, h.tape, h.output, h.size, fun b hb hn => h.block b hb (fun q => hn (ho b q))⟩
theorem MapIs.same {mb : Nat} {m : List (Value × Value)} (h : MapIs Try.prog 25 W mb m) (he : W'.heap[mb]? = W.heap[mb]?) : MapIs Try.prog 25 W' mb m := by
 obtain ⟨⟨es, h1, h2, h3⟩, h4, h5⟩ := h
 exact ⟨⟨es, he.trans h1, h2, h3⟩, h4, h5⟩
end
section
variable {own own2 bad bad' : Nat → Prop} {W W' : World} {g mb r c : Nat} {n e : Int} {cs cs' : List Cl} {cb vb cb' vb' : Nat → Nat} {ps : List Rw} {A : Option Addr}
theorem IsT.frame (h : IsT W g mb n e cs cb vb) (hs : W.heap.size ≤ W'.heap.size) (h1 : W'.heap[g]? = W.heap[g]?) (h2 : W'.heap[mb]? = W.heap[mb]?) (h3 : ∀ i, i < cs.length → W'.heap[cb i]? = W.heap[cb i]?) (h4 : ∀ i, i < cs.length → W'.heap[vb i]? = W.heap[vb i]?) : IsT W' g mb n e cs cb vb :=
 ⟨h1.trans h.tb, MapIs.same h.mp h2, fun i hi => (h.ct i hi).imp fun c q => ⟨q.1, (h3 i hi).trans q.2⟩, fun i hi => (h.vt i hi).imp fun ex q => (h4 i hi).trans q, h.ne⟩
/-- The blocks that a deed may write. -/
def Own (mb r : Nat) (cs : List Cl) (vb : Nat → Nat) (b : Nat) : Prop := b = mb ∨ (∃ i, i < cs.length ∧ b = vb i) ∨ b = r
/-- Columns beside the document's. -/
structure Pt (W : World) (bad : Nat → Prop) (n e : Int) (g mb : Nat) (cs : List Cl) (cb vb : Nat → Nat) (r : Nat) (ps : List Rw) (A : Option Addr) (c : Nat) : Prop where
 t : IsT W g mb n e cs cb vb
 d : IsR W r n e ps A c bad
 pm : cs.Perm (cls ps)
 wf : Wf n e (cls ps)
 nn : inN n e
 ob : ∀ b, Own mb r cs vb b → bad b
/-- A block of a deed's: a map, values, or the document's head. -/
def Kind (W : World) (b : Nat) : Prop := (∃ m k, W.heap[b]? = some (.map m k)) ∨ ∃ c t, W.heap[b]? = some (.cells c t (0, 0)) ∧ (t = 33 ∨ t = 86)
theorem Pt.kind (h : Pt W bad n e g mb cs cb vb r ps A c) {b : Nat} (hb : Own mb r cs vb b) : Kind W b := by
 rcases hb with rfl | ⟨i, hi, rfl⟩ | rfl
 ·obtain ⟨es, h1, _⟩ := h.t.mp.ex
  exact .inl ⟨es, _, h1⟩
 ·exact .inr ⟨_, 33, h.t.vx i hi, .inl rfl⟩
 ·exact .inr ⟨_, 86, h.d.tb, .inr rfl⟩
theorem Kind.not {b : Nat} {c : Array Value} {t : TypeId} (h : Kind W b) (hb : W.heap[b]? = some (.cells c t (0, 0))) (h1 : t ≠ 33) (h2 : t ≠ 86) : False := by
 rcases h with ⟨m, k, h⟩ | ⟨c', t', h, ht⟩
 ·rw [hb] at h; cases h
 ·rw [hb] at h
  injection h with h
  injection h with _ h
  subst h
  rcases ht with rfl | rfl
  ·exact h1 rfl
  ·exact h2 rfl
theorem Pt.lt (h : Pt W bad n e g mb cs cb vb r ps A c) {b : Nat} (hb : Own mb r cs vb b) : b < W.heap.size := h.d.lt b (h.ob b hb)
/-- What another pair's deed leaves alone. -/
theorem Pt.frame (h : Pt W bad n e g mb cs cb vb r ps A c) (hk : Keep own W W') (hkd : ∀ b, own b → b < W.heap.size → Kind W b) (hd : ∀ b, own b → ¬ Own mb r cs vb b) (ho : ∀ b, own b → bad b) (hb1 : ∀ b, b < W.heap.size → bad' b → bad b) (hb2 : ∀ b, Own mb r cs vb b → bad' b) (hlt : ∀ b, bad' b → b < W'.heap.size) : Pt W' bad' n e g mb cs cb vb r ps A c := by
 have hcell : ∀ {b : Nat} {c : Array Value} {t : TypeId}, W.heap[b]? = some (.cells c t (0, 0)) → t ≠ 33 → t ≠ 86 → W'.heap[b]? = W.heap[b]? := fun {b c t} hb h1 h2 => by
  have hl := (Array.getElem?_eq_some_iff.1 hb).1
  exact hk.block b hl (fun q => (hkd b q hl).not hb h1 h2)
 have hown : ∀ {b : Nat}, Own mb r cs vb b → W'.heap[b]? = W.heap[b]? := fun {b} hb => hk.block b (h.lt hb) (fun q => hd b q hb)
 refine ⟨h.t.frame hk.size (hcell h.t.tb (by decide) (by decide)) (hown (.inl rfl)) (fun i hi => hcell (h.t.cx i hi) (by decide) (by decide)) (fun i hi => hown (.inr (.inl ⟨i, hi, rfl⟩))), ?_, h.pm, h.wf, h.nn, hb2⟩
 exact h.d.mono hk.size (hown (.inr (.inr rfl))) (fun b hb hn => hk.block b hb (fun q => hn (ho b q))) hb1 (hb2 r (.inr (.inr rfl))) hlt
theorem Pt.below (h : Pt W bad n e g mb cs cb vb r ps A c) (hb : Below W.heap.size W W') : Pt W' bad n e g mb cs cb vb r ps A c :=
 ⟨h.t.below hb, h.d.below hb, h.pm, h.wf, h.nn, h.ob⟩
/-- Behind the program's deed the document's columns are as they were. -/
theorem Pt.impl (h : Pt W bad n e g mb cs cb vb r ps A c) (ht : IsT W' g mb n e cs' cb' vb') (hf : Fr W W' mb cs vb) (hv : ∀ i, i < cs.length → vb' i = vb i) (hn : ∀ i, cs.length ≤ i → i < cs'.length → W.heap.size ≤ vb' i) :
  IsR W' r n e ps A c (fun b => bad b ∨ Own mb r cs' vb' b) ∧ Keep (Own mb r cs vb) W W' := by
 obtain ⟨row, hg, hr⟩ := hf
 have hk : Keep (Own mb r cs vb) W W' := Keep.of_grown hg (fun k e => by
  rcases hr k e with h | h
  ·exact .inl h
  ·exact .inr (.inl h))
 refine ⟨?_, hk⟩
 have hrk : W'.heap[r]? = W.heap[r]? := by
  refine hg.block r h.d.rlt (fun e => ?_)
  rcases hr r e.symm with rfl | ⟨i, hi, rfl⟩
  ·exact h.t.mp.ne h.d.tb rfl
  ·exact blk_ne (h.t.vx i hi) h.d.tb (by decide) rfl
 refine h.d.mono hk.size hrk (fun b hb hn => hk.block b hb (fun q => hn (h.ob b q))) (fun b hb hq => ?_) (.inr (.inr (.inr rfl))) (fun b hq => ?_)
 ·rcases hq with hq | hq | ⟨i, hi, rfl⟩ | hq
  ·exact hq
  ·exact h.ob b (.inl hq)
  ·by_cases q : i < cs.length
   ·rw [hv i q]
    exact h.ob _ (.inr (.inl ⟨i, q, rfl⟩))
   ·have := hn i (by omega) hi
    omega
  ·exact h.ob b (.inr (.inr hq))
 ·rcases hq with hq | rfl | ⟨i, hi, rfl⟩ | rfl
  ·exact Nat.lt_of_lt_of_le (h.d.lt b hq) hk.size
  ·exact ht.mp.lt
  ·exact (Array.getElem?_eq_some_iff.1 (ht.vx i hi)).1
  ·exact Nat.lt_of_lt_of_le h.d.rlt hk.size
/-- Behind both deeds. -/
theorem Pt.both {W2 : World} {ps' : List Rw} {A' : Option Addr} {c' : Nat} (h : Pt W bad n e g mb cs cb vb r ps A c) (ht : IsT W' g mb n e cs' cb' vb') (hk : Keep (Own mb r cs vb) W W') (hn : ∀ i, cs.length ≤ i → i < cs'.length → W.heap.size ≤ vb' i) (hv : ∀ i, i < cs.length → vb' i = vb i)
  (hr : IsR W2 r n e ps' A' c' (fun b => bad b ∨ Own mb r cs' vb' b)) (hg : W'.grownBy W2 (some r)) (hp : cs'.Perm (cls ps')) (hw : Wf n e (cls ps')) (hd : W'.heap[r]? = W.heap[r]?) :
  Pt W2 (fun b => bad b ∨ Own mb r cs' vb' b) n e g mb cs' cb' vb' r ps' A' c' ∧ Keep (Own mb r cs vb) W W2 ∧ ∀ b, Own mb r cs' vb' b → Own mb r cs vb b ∨ W.heap.size ≤ b := by
 have hrb := hd.trans h.d.tb
 refine ⟨⟨ht.frame hg.size (grown_row hg ht.tb (blk_ne ht.tb hrb (by decide)) |>.trans ht.tb.symm) (hg.block mb ht.mp.lt (by have := ht.mp.ne hrb; simpa using this)) (fun i hi => (grown_row hg (ht.cx i hi) (blk_ne (ht.cx i hi) hrb (by decide))).trans (ht.cx i hi).symm) (fun i hi => (grown_row hg (ht.vx i hi) (blk_ne (ht.vx i hi) hrb (by decide))).trans (ht.vx i hi).symm), hr, hp, hw, h.nn, fun b hb => .inr hb⟩, ?_, fun b hb => ?_⟩
 ·exact hk.trans (Keep.of_grown (own := Own mb r cs vb) hg (fun k e => by injection e with e; exact .inr (.inr e.symm))) (fun b hb => .inl hb)
 ·rcases hb with hb | ⟨i, hi, rfl⟩ | hb
  ·exact .inl (.inl hb)
  ·by_cases q : i < cs.length
   ·exact .inl (.inr (.inl ⟨i, q, hv i q⟩))
   ·exact .inr (hn i (by omega) hi)
  ·exact .inl (.inr (.inr hb))
end
/-- A pair, by what it tells alone. -/
def Sys (W : World) (own bad : Nat → Prop) (n e : Int) (g r : Nat) (rs : List Cl) : Prop :=
 ∃ mb cs cb vb ps A c, Pt W bad n e g mb cs cb vb r ps A c ∧ cls ps = rs ∧ own = Own mb r cs vb
/-- What a step does. -/
structure Stp (own own' bad bad' : Nat → Prop) (W W' : World) : Prop where
 keep : Keep own W W'
 new : ∀ b, own' b → own b ∨ W.heap.size ≤ b
 bad : ∀ b, bad' b → bad b ∨ own' b
section
variable {own own' own2 bad bad' : Nat → Prop} {W W' : World} {n e : Int} {g r : Nat} {rs : List Cl}
theorem Sys.below (h : Sys W own bad n e g r rs) (hb : Below W.heap.size W W') : Sys W' own bad n e g r rs := by
 obtain ⟨mb, cs, cb, vb, ps, A, c, hp, h1, h2⟩ := h
 exact ⟨mb, cs, cb, vb, ps, A, c, hp.below hb, h1, h2⟩
theorem Sys.wf (h : Sys W own bad n e g r rs) : Wf n e rs ∧ inN n e := by
 obtain ⟨mb, cs, cb, vb, ps, A, c, hp, h1, h2⟩ := h
 rw [← h1]
 exact ⟨hp.wf, hp.nn⟩
theorem Sys.ob (h : Sys W own bad n e g r rs) : (∀ b, own b → bad b ∧ b < W.heap.size ∧ Kind W b) ∧ ∀ b, bad b → b < W.heap.size := by
 obtain ⟨mb, cs, cb, vb, ps, A, c, hp, h1, h2⟩ := h
 subst h2
 exact ⟨fun b hb => ⟨hp.ob b hb, hp.lt hb, hp.kind hb⟩, hp.d.lt⟩
theorem Sys.frame {n2 e2 : Int} {g2 r2 : Nat} {rs2 rs' : List Cl} (h2 : Sys W own2 bad n2 e2 g2 r2 rs2) (h1 : Sys W own bad n e g r rs) (h1' : Sys W' own' bad' n e g r rs') (hs : Stp own own' bad bad' W W') (hbb : ∀ b, bad b → bad' b) (hd : ∀ b, own b → ¬ own2 b) : Sys W' own2 bad' n2 e2 g2 r2 rs2 ∧ ∀ b, own' b → ¬ own2 b := by
 have ho2 := h2.ob.1
 obtain ⟨mb, cs, cb, vb, ps, A, c, hp, e1, e2⟩ := h2
 subst e2
 refine ⟨⟨mb, cs, cb, vb, ps, A, c, hp.frame hs.keep (fun b hb _ => (h1.ob.1 b hb).2.2) hd (fun b hb => (h1.ob.1 b hb).1) (fun b hb hq => ?_) (fun b hb => hbb b (hp.ob b hb)) h1'.ob.2, e1, rfl⟩, fun b hb hq => ?_⟩
 ·rcases hs.bad b hq with q | q
  ·exact q
  ·rcases hs.new b q with q | q
   ·exact (h1.ob.1 b q).1
   ·omega
 ·rcases hs.new b hb with q | q
  ·exact hd b q hq
  ·have := (ho2 b hq).2.1
   omega
end
end Go.Proofs.Ytpcjppefopjngaa.C
end
section
/- A deed on columns and the document's: one behind the other. -/
set_option linter.unusedSimpArgs false
set_option linter.unusedVariables false
namespace Go.Proofs.Ytpcjppefopjngaa.C
open Go.RowKit Go.Proofs.Ytpcjppefopjngaa.Sk Go.Proofs.Ytpcjppefopjngaa.PA Go.Proofs.Ytpcjppefopjngaa.Mp Go.Proofs.YtpcjppefopjngaaW.PrintWords Go.Proofs.YtpcjppefopjngaaW.PrintLast Go.Proofs.YtpcjppefopjngaaW.PrintMore
/-- Behind the program's deed. -/
def Im (W : World) (bad : Nat → Prop) (n e : Int) (g mb : Nat) (cs : List Cl) (vb : Nat → Nat) (r : Nat) (ps : List Rw) (A : Option Addr) (c : Nat) (rs' : List Cl) (W' : World) : Prop :=
 ∃ cs' cb' vb', IsT W' g mb n e cs' cb' vb' ∧ cs'.Perm rs' ∧ Wf n e rs' ∧ (∀ i, i < cs.length → vb' i = vb i) ∧ (∀ i, cs.length ≤ i → i < cs'.length → W.heap.size ≤ vb' i) ∧
  IsR W' r n e ps A c (fun b => bad b ∨ Own mb r cs' vb' b) ∧ Keep (Own mb r cs vb) W W' ∧ W'.heap[r]? = W.heap[r]?
/-- Behind both. -/
def Bo (W : World) (own bad : Nat → Prop) (n e : Int) (g r : Nat) (rs' : List Cl) (W' : World) : Prop := ∃ own' bad', Sys W' own' bad' n e g r rs' ∧ Stp own own' bad bad' W W' ∧ ∀ b, bad b → bad' b
section
variable {own bad : Nat → Prop} {W W' W2 : World} {g mb r c : Nat} {n e : Int} {cs cs' : List Cl} {cb vb cb' vb' : Nat → Nat} {ps : List Rw} {A : Option Addr} {rs' : List Cl}
theorem Pt.im (h : Pt W bad n e g mb cs cb vb r ps A c) (ht : IsT W' g mb n e cs' cb' vb') (hf : Fr W W' mb cs vb) (hp : cs'.Perm rs') (hw : Wf n e rs') (hv : ∀ i, i < cs.length → vb' i = vb i) (hn : ∀ i, cs.length ≤ i → i < cs'.length → W.heap.size ≤ vb' i) : Im W bad n e g mb cs vb r ps A c rs' W' := by
 obtain ⟨h1, h2⟩ := h.impl ht hf hv hn
 refine ⟨cs', cb', vb', ht, hp, hw, hv, hn, h1, h2, ?_⟩
 obtain ⟨row, hg, hr⟩ := hf
 refine hg.block r h.d.rlt (fun e => ?_)
 rcases hr r e.symm with rfl | ⟨i, hi, rfl⟩
 ·exact h.t.mp.ne h.d.tb rfl
 ·exact blk_ne (h.t.vx i hi) h.d.tb (by decide) rfl
theorem Im.below (h : Im W bad n e g mb cs vb r ps A c rs' W') (hb : Below W'.heap.size W' W2) : Im W bad n e g mb cs vb r ps A c rs' W2 := by
 obtain ⟨cs', cb', vb', h1, h2, h3, h4, h5, h6, h7, h8⟩ := h
 exact ⟨cs', cb', vb', h1.below hb, h2, h3, h4, h5, h6.below hb, h7.trans (Keep.of_below (own := Own mb r cs vb) hb) (fun b q => .inl q), (hb.block r h6.rlt).trans h8⟩
theorem Im.keep (h : Im W bad n e g mb cs vb r ps A c rs' W') : Keep (Own mb r cs vb) W W' := by
 obtain ⟨cs', cb', vb', h1, h2, h3, h4, h5, h6, h7, h8⟩ := h
 exact h7
theorem Im.bo {ps' : List Rw} {A' : Option Addr} {c' : Nat} (h0 : Pt W bad n e g mb cs cb vb r ps A c) (h : Im W bad n e g mb cs vb r ps A c rs' W') (hr : ∀ bad', IsR W' r n e ps A c bad' → IsR W2 r n e ps' A' c' bad') (hc : cls ps' = rs') (hg : W'.grownBy W2 (some r)) :
  Bo W (Own mb r cs vb) bad n e g r rs' W2 := by
 obtain ⟨cs', cb', vb', h1, h2, h3, h4, h5, h6, h7, h8⟩ := h
 subst hc
 obtain ⟨q1, q2, q3⟩ := h0.both h1 h7 h5 h4 (hr _ h6) hg h2 h3 h8
 exact ⟨_, _, ⟨mb, cs', cb', vb', ps', A', c', q1, rfl, rfl⟩, ⟨q2, q3, fun b hb => hb⟩, fun b hb => .inl hb⟩
end
section
variable {bad : Nat → Prop} {W W1 : World} {g mb r c : Nat} {n e : Int} {cs : List Cl} {cb vb : Nat → Nat} {ps : List Rw} {A : Option Addr} {nm : ByteArray} {sd : Int}
theorem Pt.few (h : Pt W bad n e g mb cs cb vb r ps A c) : cs.length ≤ 24 ∧ ps.length ≤ 24 := by
 have h1 := h.wf.n24
 have h2 := h.pm.length_eq
 unfold cls at h1 h2
 rw [List.length_map] at h1 h2
 omega
theorem okc_len {k : Cl} (hN : inN n e) (h : Okc n e k) : k.vs.length ≤ 1000 := by
 obtain ⟨m, h1, h2⟩ := len_nat n e k.sd hN
 have := h.ln
 omega
theorem Pt.lens (h : Pt W bad n e g mb cs cb vb r ps A c) : (∀ k ∈ cs, k.vs.length ≤ 1000) ∧ (∀ p ∈ ps, p.1.vs.length ≤ 1000) ∧ (∀ p ∈ ps, p.1.kd = 1 ∨ p.1.kd = 2) :=
 ⟨fun k hk => okc_len h.nn (h.wf.ok k (h.pm.mem_iff.1 hk)), fun p hp => okc_len h.nn (h.wf.ok p.1 (List.mem_map_of_mem hp)), fun p hp => (h.wf.ok p.1 (List.mem_map_of_mem hp)).kd⟩
theorem Pt.nd (h : Pt W bad n e g mb cs cb vb r ps A c) : (cs.map Cl.k25).Nodup ∧ ((cls ps).map Cl.k25).Nodup := ⟨perm_nd h.wf h.pm, h.wf.nd⟩
theorem im_decl (h : Pt W bad n e g mb cs cb vb r ps A c) (hn : nm.size ≤ maxLen) (hs : 0 ≤ sd ∧ sd ≤ 255) (kd : Int) :
  Calls Try.prog 26 #[.pointer (some ⟨g, 0, none⟩), .agg #[.string nm, .int .u8 sd], .int .u8 kd] W fun e_ W' => e_ = .returned (I (rdeclv n e (cls ps) nm sd kd).1) ∧ Im W bad n e g mb cs vb r ps A c (rdeclv n e (cls ps) nm sd kd).2 W' := by
 obtain ⟨q1, q2, q3⟩ := decl_rel h.nn h.wf h.pm nm sd kd
 refine (decl_ok g mb n e cs cb vb nm sd kd W h.t h.nn hn hs h.few.1).mono ?_
 rintro e_ W' ⟨rfl, ⟨cb', vb', hT, h1, h2⟩, hF⟩
 rw [q1]
 exact ⟨rfl, h.im hT hF q3 q2 (fun i hi => (h1 i hi).2) h2⟩
theorem re_decl (h0 : Pt W bad n e g mb cs cb vb r ps A c) (hs : 0 ≤ sd ∧ sd ≤ 255) {kd : Int} (hk : 0 ≤ kd ∧ kd ≤ 255) (h : Im W bad n e g mb cs vb r ps A c (rdeclv n e (cls ps) nm sd kd).2 W1) :
  Calls Try.prog 48 #[.pointer (some ⟨r, 0, none⟩), .agg #[.string nm, .int .u8 sd], .int .u8 kd] W1 fun e_ W' => e_ = .returned (I (rdeclv n e (cls ps) nm sd kd).1) ∧ Bo W (Own mb r cs vb) bad n e g r (rdeclv n e (cls ps) nm sd kd).2 W' := by
 have hh := h
 obtain ⟨cs', cb', vb', h1, h2, h3, h4, h5, h6, h7, h8⟩ := h
 refine (rdecl_ok r n e ps A c _ nm sd kd W1 h6 h0.nn hs hk h0.few.2).mono ?_
 rintro e_ W' ⟨rfl, ps', A', c', q1, q2, q3⟩
 refine ⟨rfl, ?_⟩
 rw [← q2] at h2 h3 ⊢
 obtain ⟨p1, p2, p3⟩ := h0.both h1 h7 h5 h4 q1 q3 h2 h3 h8
 exact ⟨_, _, ⟨mb, cs', cb', vb', ps', A', c', p1, rfl, rfl⟩, ⟨p2, p3, fun b hb => hb⟩, fun b hb => .inl hb⟩
theorem deed_len {f : Cl → Int × List Int} : ∀ (cs : List Cl), (deed cs nm sd f).2.length = cs.length := fun cs => by
 unfold deed
 split
 ·rfl
 ·split
  ·unfold updm; rw [List.length_map]
  ·rfl
theorem im_set (h : Pt W bad n e g mb cs cb vb r ps A c) (hn : nm.size ≤ maxLen) (hs : 0 ≤ sd ∧ sd ≤ 255) (i x : Int) :
  Calls Try.prog 13 #[.pointer (some ⟨g, 0, none⟩), .agg #[.string nm, .int .u8 sd], I i, I x] W fun e_ W' => e_ = .returned (I (setv (cls ps) nm sd i x).1) ∧ Im W bad n e g mb cs vb r ps A c (setv (cls ps) nm sd i x).2 W' := by
 have q := deed_rel (nm := nm) (sd := sd) h.wf h.pm (good_fset i x)
 have e1 := setv_deed (nm := nm) (sd := sd) h.nd.1 i x
 have hl := deed_len (nm := nm) (sd := sd) (f := fset i x) cs
 rw [← e1, ← setv_deed h.nd.2] at q
 rw [← e1] at hl
 refine (set_ok g mb n e cs cb vb nm sd i x W h.t hn hs h.lens.1).mono ?_
 rintro e_ W' ⟨rfl, hT, hF⟩
 rw [q.1]
 exact ⟨rfl, h.im hT hF q.2.2 q.2.1 (fun _ _ => rfl) (fun i h1 h2 => absurd h2 (by omega))⟩
theorem re_set (h0 : Pt W bad n e g mb cs cb vb r ps A c) {i x : Int} (h : Im W bad n e g mb cs vb r ps A c (setv (cls ps) nm sd i x).2 W1) :
  Calls Try.prog 49 #[.pointer (some ⟨r, 0, none⟩), .agg #[.string nm, .int .u8 sd], I i, I x] W1 fun e_ W' => e_ = .returned (I (setv (cls ps) nm sd i x).1) ∧ Bo W (Own mb r cs vb) bad n e g r (setv (cls ps) nm sd i x).2 W' := by
 obtain ⟨cs', cb', vb', h1, h2, h3, h4, h5, h6, h7, h8⟩ := h
 refine (rset_ok r n e ps A c _ nm sd i x W1 h6 (by have := h0.few.2; omega) h0.lens.2.1 h0.lens.2.2).mono ?_
 rintro e_ W' ⟨rfl, ps', A', c', q1, q2, q3⟩
 refine ⟨rfl, ?_⟩
 rw [← q2] at h2 h3 ⊢
 obtain ⟨p1, p2, p3⟩ := h0.both h1 h7 h5 h4 q1 q3 h2 h3 h8
 exact ⟨_, _, ⟨mb, cs', cb', vb', ps', A', c', p1, rfl, rfl⟩, ⟨p2, p3, fun b hb => hb⟩, fun b hb => .inl hb⟩
theorem im_fill (h : Pt W bad n e g mb cs cb vb r ps A c) (hn : nm.size ≤ maxLen) (hs : 0 ≤ sd ∧ sd ≤ 255) (x : Int) :
  Calls Try.prog 27 #[.pointer (some ⟨g, 0, none⟩), .agg #[.string nm, .int .u8 sd], I x] W fun e_ W' => e_ = .returned (I (fillv (cls ps) nm sd x).1) ∧ Im W bad n e g mb cs vb r ps A c (fillv (cls ps) nm sd x).2 W' := by
 have q := deed_rel (nm := nm) (sd := sd) h.wf h.pm (good_ffill x)
 have e1 := fillv_deed (nm := nm) (sd := sd) h.nd.1 x
 have hl := deed_len (nm := nm) (sd := sd) (f := ffill x) cs
 rw [← e1, ← fillv_deed h.nd.2] at q
 rw [← e1] at hl
 refine (fill_ok g mb n e cs cb vb nm sd x W h.t hn hs h.lens.1).mono ?_
 rintro e_ W' ⟨rfl, hT, hF⟩
 rw [q.1]
 exact ⟨rfl, h.im hT hF q.2.2 q.2.1 (fun _ _ => rfl) (fun i h1 h2 => absurd h2 (by omega))⟩
theorem re_fill (h0 : Pt W bad n e g mb cs cb vb r ps A c) {x : Int} (h : Im W bad n e g mb cs vb r ps A c (fillv (cls ps) nm sd x).2 W1) :
  Calls Try.prog 50 #[.pointer (some ⟨r, 0, none⟩), .agg #[.string nm, .int .u8 sd], I x] W1 fun e_ W' => e_ = .returned (I (fillv (cls ps) nm sd x).1) ∧ Bo W (Own mb r cs vb) bad n e g r (fillv (cls ps) nm sd x).2 W' := by
 obtain ⟨cs', cb', vb', h1, h2, h3, h4, h5, h6, h7, h8⟩ := h
 refine (rfill_ok r n e ps A c _ nm sd x W1 h6 (by have := h0.few.2; omega) h0.lens.2.1 h0.lens.2.2).mono ?_
 rintro e_ W' ⟨rfl, ps', A', c', q1, q2, q3⟩
 refine ⟨rfl, ?_⟩
 rw [← q2] at h2 h3 ⊢
 obtain ⟨p1, p2, p3⟩ := h0.both h1 h7 h5 h4 q1 q3 h2 h3 h8
 exact ⟨_, _, ⟨mb, cs', cb', vb', ps', A', c', p1, rfl, rfl⟩, ⟨p2, p3, fun b hb => hb⟩, fun b hb => .inl hb⟩
theorem im_load (h : Pt W bad n e g mb cs cb vb r ps A c) (hn : nm.size ≤ maxLen) (hs : 0 ≤ sd ∧ sd ≤ 255) {B : Option Addr} {k : Nat} {l : List Int} (hL : Kd.C (Kd.int .i64) W B l.length l) :
  Calls Try.prog 28 #[.pointer (some ⟨g, 0, none⟩), .agg #[.string nm, .int .u8 sd], .slice B l.length k] W fun e_ W' => e_ = .returned (I (loadv (cls ps) nm sd l).1) ∧ Im W bad n e g mb cs vb r ps A c (loadv (cls ps) nm sd l).2 W' := by
 have q := deed_rel (nm := nm) (sd := sd) h.wf h.pm (good_fload l)
 have e1 := loadv_deed (nm := nm) (sd := sd) h.nd.1 l
 have hl := deed_len (nm := nm) (sd := sd) (f := fload l) cs
 rw [← e1, ← loadv_deed h.nd.2] at q
 rw [← e1] at hl
 refine (load_ok g mb n e cs cb vb nm sd B k l W h.t hn hs h.lens.1 hL).mono ?_
 rintro e_ W' ⟨rfl, hT, hF⟩
 rw [q.1]
 exact ⟨rfl, h.im hT hF q.2.2 q.2.1 (fun _ _ => rfl) (fun i h1 h2 => absurd h2 (by omega))⟩
theorem re_load (h0 : Pt W bad n e g mb cs cb vb r ps A c) {B : Option Addr} {k : Nat} {l : List Int} (hL : Kd.C (Kd.int .i64) W1 B l.length l) (h : Im W bad n e g mb cs vb r ps A c (loadv (cls ps) nm sd l).2 W1) :
  Calls Try.prog 51 #[.pointer (some ⟨r, 0, none⟩), .agg #[.string nm, .int .u8 sd], .slice B l.length k] W1 fun e_ W' => e_ = .returned (I (loadv (cls ps) nm sd l).1) ∧ Bo W (Own mb r cs vb) bad n e g r (loadv (cls ps) nm sd l).2 W' := by
 obtain ⟨cs', cb', vb', h1, h2, h3, h4, h5, h6, h7, h8⟩ := h
 refine (rload_ok r n e ps A c _ nm sd B k l W1 h6 (by have := h0.few.2; omega) h0.lens.2.1 h0.lens.2.2 hL).mono ?_
 rintro e_ W' ⟨rfl, ps', A', c', q1, q2, q3⟩
 refine ⟨rfl, ?_⟩
 rw [← q2] at h2 h3 ⊢
 obtain ⟨p1, p2, p3⟩ := h0.both h1 h7 h5 h4 q1 q3 h2 h3 h8
 exact ⟨_, _, ⟨mb, cs', cb', vb', ps', A', c', p1, rfl, rfl⟩, ⟨p2, p3, fun b hb => hb⟩, fun b hb => .inl hb⟩
end
/-- The first forty. -/
theorem few_ok (A : Option Addr) (c : Nat) (l : List Int) (w : World) (hC : Kd.C (Kd.int .i64) w A l.length l) (hl : l.length ≤ c) (hm : l.length ≤ 9223372036854775807) :
  Calls Try.prog 29 #[.slice A l.length c] w fun e w' => e = .returned (.slice A (l.take 40).length c) ∧ w' = w := by
 by_cases h : 40 < l.length
 ·have d1 : decide (40 < (l.length : Int)) = true := decide_eq_true (by omega)
  have d2 : decide (40 < l.length) = true := decide_eq_true (by omega)
  have h40 : 40 ≤ c := by omega
  have h41 : 40 ≤ l.length := by omega
  have hz : (l.take 40).length = 40 := by rw [List.length_take]; omega
  rw [hz]
  obtain ⟨m, hm⟩ : ∃ m, m = l.length := ⟨_, rfl⟩
  rw [← hm] at d1 d2 h41 hl ⊢
  clear hC hm h hz
  go_enter Try.func29, Try.ntmps29
  go_wp2
  go_ret
  exact ⟨rfl, rfl⟩
 ·have d1 : decide (40 < (l.length : Int)) = false := decide_eq_false (by omega)
  have d2 : decide (40 < l.length) = false := decide_eq_false (by omega)
  rw [List.take_of_length_le (by omega)]
  obtain ⟨m, hm⟩ : ∃ m, m = l.length := ⟨_, rfl⟩
  rw [← hm] at d1 d2 hl ⊢
  clear hC hm h
  go_enter Try.func29, Try.ntmps29
  go_wp2
  go_ret
  exact ⟨rfl, rfl⟩
end Go.Proofs.Ytpcjppefopjngaa.C
end
