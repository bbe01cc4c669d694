/- Contracts of the laws' toIntS, szIntS. -/
import Derived.Test.YtnkcomclhmlefaaRows2
import Derived.Test.YtnkcomclhmlefaaOpen
namespace Go.Proofs.Ytnkcomclhmlefaa
set_option linter.unusedSimpArgs false
set_option linter.unusedVariables false
open Go.RowKit Go.ChangeShapes Go.WideShapes
theorem info_int : (Try.prog.info? 3).map (fun i => (i.zero, i.size, i.bytes)) = some (some (.int .i64 0), 1, 8) := by kernel_rfl
set_option maxHeartbeats 2000000 in
/-- A slice that came in is copied into a row of the call's own. -/
theorem toIntS_c (A : Option Addr) (n c : Nat) (l : List Int) (w : World) (hn : l.length = n) (hm : n ≤ 1048576) (hr : Reads w w.heap.size 1 A n (l.flatMap (fun x : Int => [Value.int .i64 x]))) :
    Calls Try.prog 45 #[.slice A n c] w fun e w' => ∃ g, e = .returned (.slice (some ⟨g, 0, none⟩) n n) ∧ w.heap.size ≤ g ∧ Blk w' g 3 (l.flatMap (fun x : Int => [Value.int .i64 x])) ∧ Below w.heap.size w w' := by
  obtain ⟨i0, hi, hz0, hz1, hz2⟩ := info_parts info_int
  have hmk := fun W => run_make_rowN (P := Try.prog) 24 3 i0 _ 1 8 Try.underlying24 hi hz0 hz1 hz2 n n (Nat.le_refl _) (by omega) (by omega) W
  have HN := Lib.hid hn
  clear hn hi hz0 hz1 hz2
  have hsz0 := madeCells_len (.int .i64 0 : Value).cells (n * 1)
  have HZ := Lib.hid hsz0
  generalize (madeCells (.int .i64 0 : Value).cells (n * 1)).toList = z at *
  clear hsz0
  go_enter Try.func45, Try.ntmps45
  go_wp2
  go_loopw [4] (fun i wr => ∃ k : Nat, ∃ cs : List Value, k ≤ n ∧ i = .int .i64 k ∧ Below w.heap.size w wr ∧ Blk wr w.heap.size 3 cs ∧ Hid (cs.length = n * 1) ∧ Hid (cs.take (k * 1) = (l.take k).flatMap (fun x : Int => [Value.int .i64 x]))) (fun i _ => n - (intOf i).toNat)
  case atStart => exact ⟨0, z, Nat.zero_le _, rfl, by go_grown, Blk.new _ _ _, HZ, by simp [Hid]⟩
  case round =>
    obtain ⟨k, cs, hk, rfl, hbw, hblk, hcl, htk⟩ := hrel
    have hsz := hbw.size
    have hgl := hblk.lt
    by_cases hlt : k < n
    · obtain ⟨b, o, x, rfl, hb, hxx, hcx⟩ := hr.el (fun _ => rfl) (by decide) HN.out hlt
      have c0 := (hbw.cell (p := ⟨b, o + k, none⟩) hb).trans (by simpa using hcx 0 _ rfl)
      have HXx := Lib.hid hxx
      clear hxx hcx
      obtain ⟨v0, g0⟩ := hblk.get (i := k) (by rw [hcl.out]; omega)
      have f0 := hblk.frozen (k)
      have hk1 := hbw
      have hbk := hblk
      go_wp2
      go_roundw
      case rel => exact ⟨k + 1, setsAt cs (k * 1) ((fun x : Int => [Value.int .i64 x]) x), by omega, by go_num, (Below.setCell hk1 (by simp) _), by rw [Nat.mul_one]; exact (hbk.set_ _ _), by rw [Hid, setsAt_len]; exact hcl.out, take_elem (cells := (fun x : Int => [Value.int .i64 x])) (fun _ => rfl) HXx.out hcl.out hlt htk.out⟩
      case measure => simp [intOf]; omega
    · go_wp2
      go_ret
      refine ⟨_, rfl, Nat.le_refl _, ?_, hbw⟩
      have h1 := htk.out
      rw [take_all HN.out hlt, List.take_of_length_le (by rw [hcl.out]; exact Nat.mul_le_mul_right _ (by omega))] at h1
      rw [← h1]
      exact hblk
set_option maxHeartbeats 1000000 in
theorem szIntS_c (A : Option Addr) (n c : Nat) (left : Int) (w : World) (h0 : 0 ≤ left) (h1 : left ≤ 1048576) (hm : n ≤ 9223372036854775807) :
    Calls Try.prog 40 #[.slice A n c, .int .i64 left] w fun e w' => e = .returned (.int .i64 (if left - n < 0 then -1 else left - n)) ∧ w = w' := by
  by_cases h : left - n < 0
  · go_enter Try.func40, Try.ntmps40
    go_wp2
    go_ret
    exact ⟨ret_int (by first | omega | (split <;> omega)), rfl⟩
  · go_enter Try.func40, Try.ntmps40
    go_wp2
    go_ret
    exact ⟨ret_int (by first | omega | (split <;> omega)), rfl⟩
theorem szIntS_c2 (A : Option Addr) (n c : Nat) (left : Int) (w : World) (h0 : 0 ≤ left) (h1 : left ≤ 1048576) (hm : n ≤ 9223372036854775807) :
    Calls Try.prog 40 #[.slice A n c, .int .i64 left] w fun e w' => e = .returned (.int .i64 (szI (left - n))) ∧ w = w' := szIntS_c A n c left w h0 h1 hm
end Go.Proofs.Ytnkcomclhmlefaa
