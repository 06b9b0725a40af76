/- strconv.FormatInt at base 10, out of the shelf. -/
import Derived.Shelf.Strconv.Itoa4
import Derived.Test.YtmjnepficndpfaaDoorShelf
import Derived.Test.YtmjnepficndpfaaDoorPs
namespace Go.Proofs.YtmjnepficndpfaaDoor.Dig
open Go.RowKit Go.Shelf Go.Proofs

theorem fint_ok (n : Int) (h : W64 n) (w : World) (htab : Lib.TabIs Tryd.prog w "internal/strconv.uint64pow10" .u64 Lib.pow10Tab) :
    Calls Tryd.prog 16 #[.int .i64 n, .int .i64 10] w fun e w' => e = .returned (.string ⟨(text n).toArray⟩) ∧ ∃ k os, w' = Sort.grow (w.drewN k) os := by
  have := Any.strconv_FormatInt_10 lays173 n h.1 h.2 w htab
  rw [itoa_text] at this
  exact this
theorem grow_below (w : World) (k : Nat) (os : Array Obj) : Below w.heap.size w (Sort.grow (w.drewN k) os) :=
  ⟨rfl, rfl, rfl, by show w.heap.size ≤ (w.heap ++ os).size; simp, fun q hq => by show (w.heap ++ os)[q]? = _; rw [Array.getElem?_append_left hq]⟩
theorem rdigits_ok (n : Int) (h : W64 n) (w : World) (htab : Lib.TabIs Tryd.prog w "internal/strconv.uint64pow10" .u64 Lib.pow10Tab) :
    Calls Tryd.prog 8 #[.int .i64 n] w fun e w' => e = .returned (.string ⟨(text n).toArray⟩) ∧ Below w.heap.size w w' := by
  have HT := Lib.hid htab
  have HW := Lib.hid h
  clear htab h
  go_enter Tryd.func8, Tryd.ntmps8
  go_wp2_with fail
  with_reducible refine (fint_ok n HW.out _ HT.out).mono ?_
  rintro e w' ⟨rfl, k, os, rfl⟩
  have HB := Lib.hid (grow_below w k os)
  generalize Sort.grow (w.drewN k) os = W at HB ⊢
  go_wp2
  go_ret
  exact ⟨rfl, HB.out⟩
end Go.Proofs.YtmjnepficndpfaaDoor.Dig
