/- Contracts of the reference's draws: l01New, l01Once, l01Text. -/
import Derived.Test.YtifbfmafogmemaaDraw
import Derived.Test.YtifbfmafogmemaaBytes
namespace Go.Proofs.Ytifbfmafogmemaa
set_option linter.unusedSimpArgs false
set_option linter.unusedVariables false
open Go.RowKit Go.ChangeShapes Go.WideShapes
def DrawB (g : Nat) (A : Option Addr) (n c : Nat) (w : World) (e : Ending) (w' : World) : Prop := ∃ x : Bool, e = .returned (.bool x) ∧ Cur w' g A n c ∧ w.grownBy w' (some g)
set_option maxHeartbeats 1000000 in
theorem l01Once_c (g : Nat) (A : Option Addr) (n c : Nat) (l : List Int) (w : World) (hcur : Cur w g A n c) (hn : l.length = n) (hm : n ≤ 1048576) (hr : Reads w g 1 A n (l.flatMap fun x : Int => [Value.int .u8 x])) (hb : ∀ x ∈ l, 0 ≤ x ∧ x ≤ 255) (k : Int) (hk0 : 0 < k) (hk1 : k ≤ 4611686018427387904) :
    Calls Try.prog 132 #[.pointer (some ⟨g, 0, none⟩), .int .i64 k] w (DrawB g A n c w) := by
  go_enter Try.func132, Try.ntmps132
  go_wp2_with fail
  refine (l01Below_c g A n c l _ hcur hn hm hr hb k hk0 hk1).mono ?_
  rintro e w1 ⟨x1, ⟨a1, b1⟩, rfl, q1, g1⟩
  go_wp2
  go_ret
  exact ⟨_, rfl, q1, g1⟩
def DrawC (A : Option Addr) (n c : Nat) (w : World) (e : Ending) (w' : World) : Prop := ∃ g : Nat, e = .returned (.pointer (some ⟨g, 0, none⟩)) ∧ w.heap.size ≤ g ∧ Cur w' g A n c ∧ Below w.heap.size w w'
set_option maxRecDepth 100000 in
set_option maxHeartbeats 2000000 in
theorem l01New_c (A : Option Addr) (n c : Nat) (l : List Int) (w : World) (hn : l.length = n) (hm : n ≤ 1048576) (hr : Reads w w.heap.size 1 A n (l.flatMap fun x : Int => [Value.int .u8 x])) (hb : ∀ x ∈ l, 0 ≤ x ∧ x ≤ 255) :
    Calls Try.prog 68 #[.slice A n c] w (DrawC A n c w) := by
  have HN := Lib.hid hn
  have HB := Lib.hid hb
  clear hn hb
  go_enter Try.func68, Try.ntmps68
  go_wp2
  go_loop [3, 4] (fun v i => ∃ (k : Nat) (h : Int), k ≤ n ∧ i = .int .i64 (k : Int) ∧ v = .int .i64 h ∧ 0 ≤ h ∧ h ≤ 1073741823) (fun _ i => n - (intOf i).toNat)
  case atStart => exact ⟨0, 33129 + (n : Int), Nat.zero_le _, rfl, rfl, by omega, by omega⟩
  case round =>
    obtain ⟨k, h, hk, rfl, rfl, h0, h1⟩ := hrel
    by_cases hlt : k < n
    · by_cases h4 : k < 4000
      · obtain ⟨b, o, x, rfl, hbb, hx, hc⟩ := hr.el (fun _ => rfl) (by decide) HN.out hlt
        have e0 : w.cell? ⟨b, o + k, none⟩ = some (.int .u8 x) := by simpa using hc 0 _ rfl
        obtain ⟨y0, y1⟩ := HB.out x (List.mem_of_getElem? hx)
        have hY := mask_bd (h * 131 + x + 7) 1073741823 (by omega)
        rw [show ((1073741823 : Nat) : Int) = 1073741823 from rfl] at hY
        have l2 : (k : Int) < 4000 := by omega
        clear hc hx
        go_wp2
        go_round
        case rel => exact ⟨k + 1, _, by omega, by go_num, rfl, hY.1, hY.2⟩
        case measure => simp [intOf]; omega
      · have l2 : ¬ (k : Int) < 4000 := by omega
        go_wp2
        go_ret
        exact ⟨w.heap.size, rfl, Nat.le_refl _, ⟨0, h, Blk.new _ _ _, by omega, by omega, ⟨by omega, by omega⟩⟩, by go_grown⟩
    · go_wp2
      go_ret
      exact ⟨w.heap.size, rfl, Nat.le_refl _, ⟨0, h, Blk.new _ _ _, by omega, by omega, ⟨by omega, by omega⟩⟩, by go_grown⟩
end Go.Proofs.Ytifbfmafogmemaa
