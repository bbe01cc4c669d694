/- Contracts of the laws' helpers on texts. -/
import Derived.Test.YtnnlagmgdfhaiaaRows2
import Derived.Test.YtnnlagmgdfhaiaaOpen
namespace Go.Proofs.Ytnnlagmgdfhaiaa
set_option linter.unusedSimpArgs false
set_option linter.unusedVariables false
open Go.RowKit Go.ChangeShapes Go.WideShapes
/-- How many bytes the texts hold together. -/
def totS (l : List ByteArray) : Int := (l.map fun s => (s.size : Int)).sum
theorem totS_nonneg (l : List ByteArray) : 0 ≤ totS l := by
  induction l with
  | nil => simp [totS]
  | cons s l ih => simp [totS] at *; omega
theorem totS_append (a b : List ByteArray) : totS (a ++ b) = totS a + totS b := by simp [totS]
theorem totS_next {l : List ByteArray} {k : Nat} {x : ByteArray} (hx : l[k]? = some x) : totS (l.take (k + 1)) = totS (l.take k) + x.size := by
  rw [take_next hx, totS_append]; simp [totS]
theorem totS_le (l : List ByteArray) (k : Nat) : totS (l.take k) ≤ totS l := by
  have h := totS_append (l.take k) (l.drop k)
  rw [List.take_append_drop] at h
  have := totS_nonneg (l.drop k)
  omega
theorem info_string : (Try.prog.info? 9).map (fun i => (i.zero, i.size, i.bytes)) = some (some (.string ByteArray.empty), 1, 16) := by kernel_rfl
def mdig : Nat → Int → ByteArray → ByteArray
  | 0, _, out => out
  | f + 1, k, out => if 0 < k then mdig f (k / 10) (strOfNums [48 + k % 10] ++ out) else out
def mInit : ByteArray := ⟨#[109]⟩
/-- The text that the laws write for a number. -/
def mtxt (q : Int) : ByteArray := if q ≤ 0 then ⟨#[109, 48]⟩ else mInit ++ mdig (q.toNat + 1) q ⟨#[]⟩
theorem bytesLit1 (W : World) (x0 : Int) : (convert 22 9 (.slice (some ⟨W.heap.size, 0, none⟩) 1 1)).run Try.prog (W.alloc (.cells #[.int .u8 x0] 5)) = .ok (.string (strOfNums [x0])) (W.alloc (.cells #[.int .u8 x0] 5)) :=
  run_convert_bytes_arg _ 22 5 Try.underlying22 Try.underlying5 W.heap.size 0 1 1 [x0] rfl (fun i hi => by
    match i, hi with
    | 0, _ => simp [go_sem]) 9 Try.underlying9
end Go.Proofs.Ytnnlagmgdfhaiaa
