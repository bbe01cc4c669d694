/- Contracts of MemoryOk: impl and spec. -/
import Derived.Test.YtnnlagmgdfhaiaaIn
import Derived.Test.YtnnlagmgdfhaiaaRows2
import Derived.Test.YtnnlagmgdfhaiaaOpen
namespace Go.Proofs.Ytnnlagmgdfhaiaa
set_option linter.unusedSimpArgs false
set_option linter.unusedVariables false
open Go.RowKit Go.ChangeShapes Go.WideShapes
def memB (l : List ByteArray) : Bool := l.all (fun s => decide (s.size = 128)) && decide (l.length ≤ 64)
set_option maxHeartbeats 1000000 in
theorem implMemoryOk_c (A : Option Addr) (n c : Nat) (l : List ByteArray) (w : World) (hn : l.length = n) (hm : n ≤ 140737488355328) (hr : Reads w w.heap.size 1 A n (l.flatMap fun x : ByteArray => [Value.string x])) :
    Calls Try.prog 28 #[.agg #[.slice A n c]] w fun e w' => e = .returned (.bool (memB l)) ∧ Below w.heap.size w w' := by
  have HN := Lib.hid hn
  clear hn
  have kb : (w.alloc (.cells #[.slice A n c] 39)).cell? ⟨w.heap.size, 0, none⟩ = some (.slice A n c) := by simp [go_sem]
  go_enter Try.func28, Try.ntmps28
  go_wp2
  go_loopw [4, 8] (fun _ i wr => ∃ k : Nat, k ≤ n ∧ i = .int .i64 k ∧ Below w.heap.size w wr ∧ wr.cell? ⟨w.heap.size, 0, none⟩ = some (.slice A n c) ∧ Hid ((l.take k).all (fun s => decide (s.size = 128)) = true)) (fun _ i _ => n - (intOf i).toNat)
  case atStart => exact ⟨0, Nat.zero_le _, rfl, by go_grown, kb, rfl⟩
  case round =>
    obtain ⟨k, hk, rfl, hbw, hbox, hall⟩ := hrel
    have hsz := hbw.size
    by_cases hlt : k < n
    · obtain ⟨b, o, x, rfl, hb, hxx, hcx⟩ := hr.el (fun _ => rfl) (by decide) HN.out hlt
      have c0 := (hbw.cell (p := ⟨b, o + k, none⟩) hb).trans (by simpa using hcx 0 _ rfl)
      have HXx := Lib.hid hxx
      clear hxx hcx
      by_cases e1 : x.size = 128
      · have e2 : ((x.size : Int) != 128) = false := by simp; omega
        have E1 := Lib.hid e1
        clear e1
        go_wp2
        go_roundw
        case rel => exact ⟨k + 1, by omega, by go_num, hbw, hbox, all_take hall HXx.out (by simpa using E1.out)⟩
        case measure => simp [intOf]; omega
      · have e2 : ((x.size : Int) != 128) = true := by simp; omega
        go_wp2
        go_ret
        exact ⟨ret_bool (by simp [memB, all_at (p := fun s : ByteArray => decide (s.size = 128)) HXx.out (by simpa using e1)]), hbw⟩
    · go_wp2
      go_ret
      exact ⟨ret_bool (by have h := hall.out; rw [take_all HN.out hlt] at h; have h2 := HN.out; simp [memB, h]; omega), hbw⟩
set_option maxHeartbeats 1000000 in
theorem specMemoryOk_c (A : Option Addr) (n c : Nat) (l : List ByteArray) (w : World) (hn : l.length = n) (hm : n ≤ 140737488355328) (hr : Reads w w.heap.size 1 A n (l.flatMap fun x : ByteArray => [Value.string x])) :
    Calls Try.prog 138 #[.agg #[.slice A n c]] w fun e w' => e = .returned (.bool (memB l)) ∧ Below w.heap.size w w' := by
  have HN := Lib.hid hn
  clear hn
  have kb : (w.alloc (.cells #[.slice A n c] 39)).cell? ⟨w.heap.size, 0, none⟩ = some (.slice A n c) := by simp [go_sem]
  go_enter Try.func138, Try.ntmps138
  go_wp2
  go_loopw [3] (fun i wr => ∃ k : Nat, k ≤ n ∧ i = .int .i64 k ∧ Below w.heap.size w wr ∧ wr.cell? ⟨w.heap.size, 0, none⟩ = some (.slice A n c) ∧ Hid ((l.take k).all (fun s => decide (s.size = 128)) = true)) (fun i _ => n - (intOf i).toNat)
  case atStart => exact ⟨0, Nat.zero_le _, rfl, by go_grown, kb, rfl⟩
  case round =>
    obtain ⟨k, hk, rfl, hbw, hbox, hall⟩ := hrel
    have hsz := hbw.size
    by_cases hlt : k < n
    · obtain ⟨b, o, x, rfl, hb, hxx, hcx⟩ := hr.el (fun _ => rfl) (by decide) HN.out hlt
      have c0 := (hbw.cell (p := ⟨b, o + k, none⟩) hb).trans (by simpa using hcx 0 _ rfl)
      have HXx := Lib.hid hxx
      clear hxx hcx
      by_cases e1 : x.size = 128
      · have e2 : ((x.size : Int) != 128) = false := by simp; omega
        have E1 := Lib.hid e1
        clear e1
        go_wp2
        go_roundw
        case rel => exact ⟨k + 1, by omega, by go_num, hbw, hbox, all_take hall HXx.out (by simpa using E1.out)⟩
        case measure => simp [intOf]; omega
      · have e2 : ((x.size : Int) != 128) = true := by simp; omega
        go_wp2
        go_ret
        exact ⟨ret_bool (by simp [memB, all_at (p := fun s : ByteArray => decide (s.size = 128)) HXx.out (by simpa using e1)]), hbw⟩
    · go_wp2
      go_ret
      exact ⟨ret_bool (by have h := hall.out; rw [take_all HN.out hlt] at h; have h2 := HN.out; simp [memB, h]; omega), hbw⟩
end Go.Proofs.Ytnnlagmgdfhaiaa
