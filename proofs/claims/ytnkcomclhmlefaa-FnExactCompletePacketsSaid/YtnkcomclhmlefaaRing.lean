/- Contracts of the ring's functions that only compute: impl and spec. -/
import Derived.Test.YtnkcomclhmlefaaIn
import Derived.Test.YtnkcomclhmlefaaMem
namespace Go.Proofs.Ytnkcomclhmlefaa
set_option linter.unusedSimpArgs false
set_option linter.unusedVariables false
open Go.RowKit Go.ChangeShapes Go.WideShapes
def szB (n : Int) : Bool := n == 2 || n == 4 || n == 8 || n == 16
theorem szB_iff (n : Int) : szB n = true ↔ n = 2 ∨ n = 4 ∨ n = 8 ∨ n = 16 := by unfold szB; simp [or_assoc]
/-- How many entries lie in a ring: the distance modulo twice its size. -/
def usedI (size head tail : Int) : Int := if szB size then (tail - head) % (2 * size) else 0
def ringB (base size head tail : Int) : Bool := inB base 0 130944 && szB size && inB head 0 (2 * size - 1) && inB tail 0 (2 * size - 1) && decide (usedI size head tail ≤ size)
theorem usedI_bd (size head tail : Int) : 0 ≤ usedI size head tail ∧ usedI size head tail ≤ 31 := by
  unfold usedI
  split
  · rename_i h
    rcases (szB_iff size).1 h with rfl | rfl | rfl | rfl <;> omega
  · omega
set_option maxHeartbeats 400000 in
theorem ringSize_c (n : Int) (w : World) :
    Calls Try.prog 47 #[.int .i64 n] w fun e w' => e = .returned (.bool (szB n)) ∧ w = w' := by
  by_cases h2 : n = 2
  · subst h2
    go_enter Try.func47, Try.ntmps47
    go_wp2
    go_ret
    exact ⟨rfl, rfl⟩
  have e2 : (n == 2) = false := by simpa using h2
  by_cases h4 : n = 4
  · subst h4
    go_enter Try.func47, Try.ntmps47
    go_wp2
    go_ret
    exact ⟨rfl, rfl⟩
  have e4 : (n == 4) = false := by simpa using h4
  by_cases h8 : n = 8
  · subst h8
    go_enter Try.func47, Try.ntmps47
    go_wp2
    go_ret
    exact ⟨rfl, rfl⟩
  have e8 : (n == 8) = false := by simpa using h8
  go_enter Try.func47, Try.ntmps47
  go_wp2
  go_ret
  exact ⟨by simp [szB, e2, e4, e8], rfl⟩
set_option maxHeartbeats 400000 in
theorem l20Size_c (n : Int) (w : World) :
    Calls Try.prog 42 #[.int .i64 n] w fun e w' => e = .returned (.bool (szB n)) ∧ w = w' := by
  by_cases h2 : n = 2
  · subst h2
    go_enter Try.func42, Try.ntmps42
    go_wp2
    go_ret
    exact ⟨rfl, rfl⟩
  have e2 : (n == 2) = false := by simpa using h2
  by_cases h4 : n = 4
  · subst h4
    go_enter Try.func42, Try.ntmps42
    go_wp2
    go_ret
    exact ⟨rfl, rfl⟩
  have e4 : (n == 4) = false := by simpa using h4
  by_cases h8 : n = 8
  · subst h8
    go_enter Try.func42, Try.ntmps42
    go_wp2
    go_ret
    exact ⟨rfl, rfl⟩
  have e8 : (n == 8) = false := by simpa using h8
  go_enter Try.func42, Try.ntmps42
  go_wp2
  go_ret
  exact ⟨by simp [szB, e2, e4, e8], rfl⟩
theorem tmod_neg {x n : Int} (hn : 0 < n) (h : x.tmod n < 0) : x.tmod n + n = x % n := by
  rw [Int.tmod_eq_emod] at *
  have h1 := Int.emod_nonneg x (Int.ne_of_gt hn)
  split at h
  · omega
  · rename_i h2; rw [if_neg h2]; omega
theorem tmod_nonneg {x n : Int} (hn : 0 < n) (h : 0 ≤ x.tmod n) : x.tmod n = x % n := by
  rw [Int.tmod_eq_emod] at *
  have h2 := Int.emod_lt_of_pos x hn
  split at h
  · rename_i h3; rw [if_pos h3]; omega
  · omega
set_option maxHeartbeats 400000 in
theorem modulo_c (x n : Int) (w : World) (hn : 0 < n) (hx : I64 x) (hn2 : n ≤ 4611686018427387904) :
    Calls Try.prog 52 #[.int .i64 x, .int .i64 n] w fun e w' => e = .returned (.int .i64 (x % n)) ∧ w = w' := by
  obtain ⟨hx1, hx2⟩ := hx
  have hp : (n == 0) = false := by simp; omega
  have b2 : x.tmod n < n := by
    rw [Int.tmod_eq_emod]
    have h2 := Int.emod_lt_of_pos x hn
    split <;> omega
  have b1 : -n ≤ x.tmod n := by
    rw [Int.tmod_eq_emod]
    have h1 := Int.emod_nonneg x (Int.ne_of_gt hn)
    split <;> omega
  go_enter Try.func52, Try.ntmps52
  go_wp2
  · have h : x.tmod n < 0 := by assumption
    go_ret
    exact ⟨ret_int (tmod_neg hn h), rfl⟩
  · have h : 0 ≤ x.tmod n := by assumption
    go_ret
    exact ⟨ret_int (tmod_nonneg hn h), rfl⟩
theorem wrap64_mod (y m : Int) (h : m ∣ 18446744073709551616) : wrap64 y % m = y % m := by
  obtain ⟨c, hc⟩ := h
  have : ∃ q, wrap64 y = y - q * 18446744073709551616 := by
    unfold wrap64
    exact ⟨(y + 9223372036854775808) / 18446744073709551616, by omega⟩
  obtain ⟨q, hq⟩ := this
  rw [hq, hc, show y - q * (m * c) = y + m * (-(q * c)) from by
    rw [Int.mul_neg, ← Int.mul_assoc, ← Int.mul_assoc, Int.mul_comm q m]; omega, Int.add_mul_emod_self_left]
theorem bits_mask4 (y : Int) : bits .and .i64 (wrap64 y) 3 = y % 4 := by
  rw [← wrap64_mod y 4 (by decide)]
  generalize wrap64 y = x
  show IntKind.i64.wrap ((BitVec.ofInt 64 x &&& BitVec.ofInt 64 3).toNat : Int) = _
  rw [BitVec.toNat_and, show (BitVec.ofInt 64 3).toNat = 2 ^ 2 - 1 from rfl, Nat.and_two_pow_sub_one_eq_mod, BitVec.toNat_ofInt, IntKind.wrap_i64]
  omega
theorem bits_mask8 (y : Int) : bits .and .i64 (wrap64 y) 7 = y % 8 := by
  rw [← wrap64_mod y 8 (by decide)]
  generalize wrap64 y = x
  show IntKind.i64.wrap ((BitVec.ofInt 64 x &&& BitVec.ofInt 64 7).toNat : Int) = _
  rw [BitVec.toNat_and, show (BitVec.ofInt 64 7).toNat = 2 ^ 3 - 1 from rfl, Nat.and_two_pow_sub_one_eq_mod, BitVec.toNat_ofInt, IntKind.wrap_i64]
  omega
theorem bits_mask16 (y : Int) : bits .and .i64 (wrap64 y) 15 = y % 16 := by
  rw [← wrap64_mod y 16 (by decide)]
  generalize wrap64 y = x
  show IntKind.i64.wrap ((BitVec.ofInt 64 x &&& BitVec.ofInt 64 15).toNat : Int) = _
  rw [BitVec.toNat_and, show (BitVec.ofInt 64 15).toNat = 2 ^ 4 - 1 from rfl, Nat.and_two_pow_sub_one_eq_mod, BitVec.toNat_ofInt, IntKind.wrap_i64]
  omega
theorem bits_mask32 (y : Int) : bits .and .i64 (wrap64 y) 31 = y % 32 := by
  rw [← wrap64_mod y 32 (by decide)]
  generalize wrap64 y = x
  show IntKind.i64.wrap ((BitVec.ofInt 64 x &&& BitVec.ofInt 64 31).toNat : Int) = _
  rw [BitVec.toNat_and, show (BitVec.ofInt 64 31).toNat = 2 ^ 5 - 1 from rfl, Nat.and_two_pow_sub_one_eq_mod, BitVec.toNat_ofInt, IntKind.wrap_i64]
  omega
set_option maxHeartbeats 1000000 in
theorem implRingUsed_c (base size head tail : Int) (w : World) (h1 : I64 head) (h2 : I64 tail) :
    Calls Try.prog 48 #[.agg #[.int .i64 base, .int .i64 size, .int .i64 head, .int .i64 tail]] w fun e w' => e = .returned (.int .i64 (usedI size head tail)) ∧ Below w.heap.size w w' := by
  obtain ⟨hd1, hd2⟩ := h1
  obtain ⟨ht1, ht2⟩ := h2
  by_cases hs : szB size = true
  · have hfin : usedI size head tail = (tail - head) % (2 * size) := by simp [usedI, hs]
    rcases (szB_iff size).1 hs with rfl | rfl | rfl | rfl
    · go_enter Try.func48, Try.ntmps48
      go_wp2_with (go_at_call 47; refine (ringSize_c _ _).mono ?_; rintro e w1 ⟨rfl, rfl⟩)
      go_quiet ((go_at_call 52; exact quiet_left (modulo_c _ _ _ (by omega) ⟨by omega, by omega⟩ (by omega))))
      go_wp2
      go_ret
      exact ⟨ret_int (by rw [hfin]; omega), below_drewN (by go_grown) _⟩
    · go_enter Try.func48, Try.ntmps48
      go_wp2_with (go_at_call 47; refine (ringSize_c _ _).mono ?_; rintro e w1 ⟨rfl, rfl⟩)
      go_quiet ((go_at_call 52; exact quiet_left (modulo_c _ _ _ (by omega) ⟨by omega, by omega⟩ (by omega))))
      go_wp2
      go_ret
      exact ⟨ret_int (by rw [hfin]; omega), below_drewN (by go_grown) _⟩
    · go_enter Try.func48, Try.ntmps48
      go_wp2_with (go_at_call 47; refine (ringSize_c _ _).mono ?_; rintro e w1 ⟨rfl, rfl⟩)
      go_quiet ((go_at_call 52; exact quiet_left (modulo_c _ _ _ (by omega) ⟨by omega, by omega⟩ (by omega))))
      go_wp2
      go_ret
      exact ⟨ret_int (by rw [hfin]; omega), below_drewN (by go_grown) _⟩
    · go_enter Try.func48, Try.ntmps48
      go_wp2_with (go_at_call 47; refine (ringSize_c _ _).mono ?_; rintro e w1 ⟨rfl, rfl⟩)
      go_quiet ((go_at_call 52; exact quiet_left (modulo_c _ _ _ (by omega) ⟨by omega, by omega⟩ (by omega))))
      go_wp2
      go_ret
      exact ⟨ret_int (by rw [hfin]; omega), below_drewN (by go_grown) _⟩
  · have hs : szB size = false := by simpa using hs
    go_enter Try.func48, Try.ntmps48
    go_wp2_with (go_at_call 47; refine (ringSize_c _ _).mono ?_; rintro e w1 ⟨rfl, rfl⟩)
    go_ret
    exact ⟨by simp [usedI, hs], by go_grown⟩
set_option maxHeartbeats 1000000 in
theorem specRingUsed_c (base size head tail : Int) (w : World) (h1 : I64 head) (h2 : I64 tail) :
    Calls Try.prog 43 #[.agg #[.int .i64 base, .int .i64 size, .int .i64 head, .int .i64 tail]] w fun e w' => e = .returned (.int .i64 (usedI size head tail)) ∧ Below w.heap.size w w' := by
  obtain ⟨hd1, hd2⟩ := h1
  obtain ⟨ht1, ht2⟩ := h2
  by_cases hs : szB size = true
  · have hfin : usedI size head tail = (tail - head) % (2 * size) := by simp [usedI, hs]
    rcases (szB_iff size).1 hs with rfl | rfl | rfl | rfl
    · go_enter Try.func43, Try.ntmps43
      go_wp2_with (go_at_call 42; refine (l20Size_c _ _).mono ?_; rintro e w1 ⟨rfl, rfl⟩)
      go_ret
      exact ⟨ret_int (by rw [hfin]; exact bits_mask4 _), by go_grown⟩
    · go_enter Try.func43, Try.ntmps43
      go_wp2_with (go_at_call 42; refine (l20Size_c _ _).mono ?_; rintro e w1 ⟨rfl, rfl⟩)
      go_ret
      exact ⟨ret_int (by rw [hfin]; exact bits_mask8 _), by go_grown⟩
    · go_enter Try.func43, Try.ntmps43
      go_wp2_with (go_at_call 42; refine (l20Size_c _ _).mono ?_; rintro e w1 ⟨rfl, rfl⟩)
      go_ret
      exact ⟨ret_int (by rw [hfin]; exact bits_mask16 _), by go_grown⟩
    · go_enter Try.func43, Try.ntmps43
      go_wp2_with (go_at_call 42; refine (l20Size_c _ _).mono ?_; rintro e w1 ⟨rfl, rfl⟩)
      go_ret
      exact ⟨ret_int (by rw [hfin]; exact bits_mask32 _), by go_grown⟩
  · have hs : szB size = false := by simpa using hs
    go_enter Try.func43, Try.ntmps43
    go_wp2_with (go_at_call 42; refine (l20Size_c _ _).mono ?_; rintro e w1 ⟨rfl, rfl⟩)
    go_ret
    exact ⟨by simp [usedI, hs], by go_grown⟩
end Go.Proofs.Ytnkcomclhmlefaa
