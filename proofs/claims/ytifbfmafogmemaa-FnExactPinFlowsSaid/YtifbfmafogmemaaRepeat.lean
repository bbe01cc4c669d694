/- Contracts of impl.repeat and spec.l01Long: equal bytes. -/
import Derived.Test.YtifbfmafogmemaaRows2
namespace Go.Proofs.Ytifbfmafogmemaa
set_option linter.unusedSimpArgs false
set_option linter.unusedVariables false
open Go.RowKit Go.ChangeShapes Go.WideShapes
/-- n equal bytes. -/
def repB (x : Int) (n : Nat) : ByteArray := strOfNums (List.replicate n x)
theorem repB_size (x : Int) (n : Nat) : (repB x n).size = n := by rw [repB, strOfNums_size]; simp
theorem info_u8 : (Try.prog.info? 5).map (fun i => (i.zero, i.size, i.bytes)) = some (some (.int .u8 0), 1, 1) := by kernel_rfl
theorem take_set_rep {x : Int} {cs : List Value} {k n : Nat} (hl : cs.length = n) (hk : k < n) (h : cs.take k = List.replicate k (.int .u8 x)) : (cs.set k (.int .u8 x)).take (k + 1) = List.replicate (k + 1) (.int .u8 x) := by
  rw [List.take_add_one, List.take_set_of_le (Nat.le_refl _), h, List.getElem?_set_self (by omega), List.replicate_succ']
  rfl
set_option maxHeartbeats 2000000 in
theorem repeat_c (x : Int) (n : Nat) (w : World) (hm : n ≤ 1048576) :
    Calls Try.prog 140 #[.int .u8 x, .int .i64 n] w fun e w' => e = .returned (.string (repB x n)) ∧ Below w.heap.size w w' := by
  obtain ⟨i0, hi, hz0, hz1, hz2⟩ := info_parts info_u8
  have hmk := fun W => run_make_rowN (P := Try.prog) 36 5 i0 _ 1 1 Try.underlying36 hi hz0 hz1 hz2 n n (Nat.le_refl _) (by omega) (by omega) W
  clear hi hz0 hz1 hz2
  have hsz0 := madeCells_len (.int .u8 0 : Value).cells (n * 1)
  have HZ := Lib.hid hsz0
  generalize (madeCells (.int .u8 0 : Value).cells (n * 1)).toList = z at *
  clear hsz0
  go_enter Try.func140, Try.ntmps140
  go_wp2
  go_loopw [6, 11] (fun _ i wr => ∃ k : Nat, ∃ cs : List Value, k ≤ n ∧ i = .int .i64 k ∧ Below w.heap.size w wr ∧ Blk wr w.heap.size 5 cs ∧ Hid (cs.length = n) ∧ Hid (cs.take k = List.replicate k (.int .u8 x))) (fun _ i _ => n - (intOf i).toNat)
  case atStart => exact ⟨0, z, Nat.zero_le _, rfl, by go_grown, Blk.new _ _ _, by have := HZ.out; simpa [Hid] using this, by simp [Hid]⟩
  case round =>
    obtain ⟨k, cs, hk, rfl, hbw, hblk, hcl, htk⟩ := hrel
    have hsz := hbw.size
    have hgl := hblk.lt
    by_cases hlt : k < n
    · obtain ⟨v0, g0⟩ := hblk.get (i := k) (by rw [hcl.out]; omega)
      have f0 := hblk.frozen k
      go_wp2
      go_roundw
      case rel => exact ⟨k + 1, cs.set k (.int .u8 x), by omega, by go_num, by go_grown, hblk.set_ _ _, by rw [Hid, List.length_set]; exact hcl.out, take_set_rep hcl.out hlt htk.out⟩
      case measure => simp [intOf]; omega
    · have hkn : k = n := by omega
      subst hkn
      have h1 := htk.out
      rw [List.take_of_length_le (by rw [hcl.out]; exact Nat.le_refl _)] at h1
      subst h1
      have hcv := run_convert_bytes_arg wr 36 5 Try.underlying36 Try.underlying5 w.heap.size 0 k k (List.replicate k x) (by simp) (fun i hi => by
        rw [Nat.zero_add, hblk.cell]
        simp [hi]) 9 Try.underlying9
      clear htk hcl
      go_wp2
      go_ret
      exact ⟨rfl, hbw⟩
theorem repeat_c128 (w : World) :
    Calls Try.prog 140 #[.int .u8 0, .int .i64 128] w fun e w' => e = .returned (.string (repB 0 128)) ∧ Below w.heap.size w w' :=
  repeat_c 0 128 w (by omega)
set_option maxHeartbeats 2000000 in
theorem l01Long_c (x : Int) (n : Nat) (w : World) (hm : n ≤ 1048576) :
    Calls Try.prog 178 #[.int .i64 n, .int .u8 x] w fun e w' => e = .returned (.string (repB x n)) ∧ Below w.heap.size w w' := by
  obtain ⟨i0, hi, hz0, hz1, hz2⟩ := info_parts info_u8
  have hmk := fun W => run_make_rowN (P := Try.prog) 36 5 i0 _ 1 1 Try.underlying36 hi hz0 hz1 hz2 n n (Nat.le_refl _) (by omega) (by omega) W
  clear hi hz0 hz1 hz2
  have hsz0 := madeCells_len (.int .u8 0 : Value).cells (n * 1)
  have HZ := Lib.hid hsz0
  generalize (madeCells (.int .u8 0 : Value).cells (n * 1)).toList = z at *
  clear hsz0
  go_enter Try.func178, Try.ntmps178
  go_wp2
  go_loopw [6] (fun i wr => ∃ k : Nat, ∃ cs : List Value, k ≤ n ∧ i = .int .i64 k ∧ Below w.heap.size w wr ∧ Blk wr w.heap.size 5 cs ∧ Hid (cs.length = n) ∧ Hid (cs.take k = List.replicate k (.int .u8 x))) (fun i _ => n - (intOf i).toNat)
  case atStart => exact ⟨0, z, Nat.zero_le _, rfl, by go_grown, Blk.new _ _ _, by have := HZ.out; simpa [Hid] using this, by simp [Hid]⟩
  case round =>
    obtain ⟨k, cs, hk, rfl, hbw, hblk, hcl, htk⟩ := hrel
    have hsz := hbw.size
    have hgl := hblk.lt
    by_cases hlt : k < n
    · obtain ⟨v0, g0⟩ := hblk.get (i := k) (by rw [hcl.out]; omega)
      have f0 := hblk.frozen k
      go_wp2
      go_roundw
      case rel => exact ⟨k + 1, cs.set k (.int .u8 x), by omega, by go_num, by go_grown, hblk.set_ _ _, by rw [Hid, List.length_set]; exact hcl.out, take_set_rep hcl.out hlt htk.out⟩
      case measure => simp [intOf]; omega
    · have hkn : k = n := by omega
      subst hkn
      have h1 := htk.out
      rw [List.take_of_length_le (by rw [hcl.out]; exact Nat.le_refl _)] at h1
      subst h1
      have hcv := run_convert_bytes_arg wr 36 5 Try.underlying36 Try.underlying5 w.heap.size 0 k k (List.replicate k x) (by simp) (fun i hi => by
        rw [Nat.zero_add, hblk.cell]
        simp [hi]) 9 Try.underlying9
      clear htk hcl
      go_wp2
      go_ret
      exact ⟨rfl, hbw⟩
theorem l01Long_c128 (w : World) :
    Calls Try.prog 178 #[.int .i64 128, .int .u8 0] w fun e w' => e = .returned (.string (repB 0 128)) ∧ Below w.heap.size w w' :=
  l01Long_c 0 128 w (by omega)
end Go.Proofs.Ytifbfmafogmemaa
