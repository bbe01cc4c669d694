/- A row of bytes of the call's own, and strings. -/
import Derived.Test.YtkfekgmdjemkbaaRows2
import Derived.Lib.AppendStr
namespace Go.Proofs.Ytkfekgmdjemkbaa
set_option linter.unusedSimpArgs false
set_option linter.unusedVariables false
open Go.RowKit Go.ChangeShapes Go.WideShapes
open Go.Lib (strCells strCells_length strCells_oneCell)
theorem strCells_append (a b : ByteArray) : strCells (a ++ b) = strCells a ++ strCells b := by
  simp [Go.Lib.strCells]
theorem info_u8' : (Try.prog.info? 5).map (fun i => (i.zero, i.size, i.bytes)) = some (some (.int .u8 0), 1, 1) := by kernel_rfl
def numsB (s : ByteArray) : List Int := s.data.toList.map fun x => (x.toNat : Int)
theorem u8_back (x : UInt8) : UInt8.ofNat ((x.toNat : Int)).toNat = x := by
  rw [Int.toNat_natCast]; exact UInt8.ofNat_toNat
theorem numsB_str (t : ByteArray) : strOfNums (numsB t) = t := by
  have h : (strOfNums (numsB t)).data = t.data := by
    apply Array.ext'
    rw [strOfNums_data, numsB, List.map_map]
    have : ((fun n : Int => UInt8.ofNat n.toNat) ∘ fun x : UInt8 => (x.toNat : Int)) = id := funext u8_back
    rw [this, List.map_id]
  have e : ∀ a b : ByteArray, a.data = b.data → a = b := by
    intro a b hh
    cases a; cases b; cases hh; rfl
  exact e _ _ h
theorem numsB_len (t : ByteArray) : (numsB t).length = t.size := by simp [numsB]
theorem strCells_nums (t : ByteArray) : strCells t = (numsB t).map (Value.int .u8) := by simp [Go.Lib.strCells, numsB]
/-- A row of bytes, converted to a string. -/
theorem own_to_string {w : World} {base n : Nat} {v : Value} {B : ByteArray} (h : w.ownsRow base 5 1 v n (strCells B)) :
    (convert 22 9 v).run Try.prog w = .ok (.string B) w := by
  have hl := h.1
  rw [strCells_length] at hl
  rcases h.2 with ⟨rfl, hn⟩ | ⟨g, cap, cur, rfl, hg, hh, hnc, hcm, hsz, ht⟩
  · subst hn
    have hB : B = ByteArray.empty := by
      have h0 : B.data = #[] := Array.eq_empty_of_size_eq_zero hl
      cases B; cases h0; rfl
    rw [hB]
    exact run_convert_bytes_nil (P := Try.prog) w 22 5 Try.underlying22 Try.underlying5 0 0 9 Try.underlying9
  · have := run_convert_bytes_arg (P := Try.prog) w 22 5 Try.underlying22 Try.underlying5 g 0 n cap (numsB B) (by rw [numsB_len]; omega) (fun i hi => by
      have hc := h.cells (g := g) rfl i (.int .u8 ((numsB B).getD i 0)) (by
        rw [strCells_nums, List.getElem?_map]
        have hi2 : i < (numsB B).length := by rw [numsB_len]; omega
        simp [List.getD, List.getElem?_eq_getElem hi2])
      by_cases h0 : i = 0
      · subst h0; simpa [Addr.add] using hc
      · simpa [Addr.add, h0] using hc) 9 Try.underlying9
    rwa [numsB_str] at this
end Go.Proofs.Ytkfekgmdjemkbaa
