/- Contracts of Get16, Get32, l02Within: impl and spec. -/
import Derived.Test.YtkfekgmdjemkbaaIn
import Derived.Test.YtkfekgmdjemkbaaMem
namespace Go.Proofs.Ytkfekgmdjemkbaa
set_option linter.unusedSimpArgs false
set_option linter.unusedVariables false
open Go.RowKit Go.ChangeShapes Go.WideShapes
/-- The byte at a place; none there: 0. -/
def byt (s : ByteArray) (i : Nat) : Int := if h : i < s.size then (s[i].toNat : Int) else 0
theorem byt_bd (s : ByteArray) (i : Nat) : 0 ≤ byt s i ∧ byt s i ≤ 255 := by
  unfold byt
  split
  · rename_i h
    have := s[i].toNat_lt
    omega
  · omega
theorem byt_at {s : ByteArray} {i : Nat} (h : i < s.size) : byt s i = (s[i].toNat : Int) := by rw [byt, dif_pos h]
/-- Whether n bytes from a place on lie in a text. -/
def hasN (s : ByteArray) (a n : Int) : Bool := decide (0 ≤ a) && decide (a ≤ (s.size : Int) - n)
def g16 (s : ByteArray) (a : Int) : Int := if hasN s a 2 then byt s a.toNat * 256 + byt s (a.toNat + 1) else -1
def g32 (s : ByteArray) (a : Int) : Int := if hasN s a 4 then byt s a.toNat * 16777216 + byt s (a.toNat + 1) * 65536 + byt s (a.toNat + 2) * 256 + byt s (a.toNat + 3) else -1
theorem g16_bd (s : ByteArray) (a : Int) : -1 ≤ g16 s a ∧ g16 s a ≤ 65535 := by
  have h1 := byt_bd s a.toNat
  have h2 := byt_bd s (a.toNat + 1)
  unfold g16; split <;> omega
theorem g32_bd (s : ByteArray) (a : Int) : -1 ≤ g32 s a ∧ g32 s a ≤ 4294967295 := by
  have h1 := byt_bd s a.toNat
  have h2 := byt_bd s (a.toNat + 1)
  have h3 := byt_bd s (a.toNat + 2)
  have h4 := byt_bd s (a.toNat + 3)
  unfold g32; split <;> omega
theorem idx {s : ByteArray} {k : Nat} (h : k < s.size) (w : World) : (Instr.index 9 (.string s) (.int .i64 (k : Int))).run Try.prog w = .ok (.int .u8 (byt s k)) w := by
  have hc : (0 : Int) ≤ (k : Int) ∧ (k : Int) < (s.size : Int) := ⟨by omega, by omega⟩
  rw [run_index_string w _ _ _ _ Try.underlying9, dif_pos hc, byt_at h]; rfl
theorem idxi {s : ByteArray} {k : Nat} {i : Int} (hi : i = (k : Int)) (h : k < s.size) (w : World) : (Instr.index 9 (.string s) (.int .i64 i)).run Try.prog w = .ok (.int .u8 (byt s k)) w := by
  subst hi; exact idx h w
theorem bits_or {a b q p : Int} (e : Nat) (hp : p = 2 ^ e) (ha : a = q * p) (hq : 0 ≤ q) (hb : 0 ≤ b) (hb2 : b < p) (hm : a + b < 9223372036854775808) : bits .or .i64 a b = a + b := by
  obtain ⟨m, rfl⟩ := Int.eq_ofNat_of_zero_le hq
  obtain ⟨n, rfl⟩ := Int.eq_ofNat_of_zero_le hb
  have hp2 : p = ((2 ^ e : Nat) : Int) := by rw [hp]; push_cast; rfl
  have hb3 : n < 2 ^ e := by rw [hp2] at hb2; exact Int.ofNat_lt.1 hb2
  have h1 : a = ((m * 2 ^ e : Nat) : Int) := by rw [ha, hp2, Int.natCast_mul]
  have hor : m * 2 ^ e ||| n = m * 2 ^ e + n := by rw [← Nat.shiftLeft_eq, Nat.shiftLeft_add_eq_or_of_lt hb3]
  clear ha hp hp2 hb2 hb3
  generalize m * 2 ^ e = M at *
  subst h1
  show IntKind.i64.wrap ((BitVec.ofInt 64 (M : Int) ||| BitVec.ofInt 64 (n : Int)).toNat : Int) = _
  rw [BitVec.toNat_or, BitVec.ofInt_natCast, BitVec.ofInt_natCast, BitVec.toNat_ofNat, BitVec.toNat_ofNat, Nat.mod_eq_of_lt (by omega), Nat.mod_eq_of_lt (by omega), hor, IntKind.wrap_i64]
  omega
theorem g16_at {s : ByteArray} {k : Nat} (h : k + 1 < s.size) : g16 s (k : Int) = byt s k * 256 + byt s (k + 1) := by
  rw [g16, show hasN s (k : Int) 2 = true from (by simp [hasN]; omega), if_pos rfl, Int.toNat_natCast]
theorem g32_at {s : ByteArray} {k : Nat} (h : k + 3 < s.size) : g32 s (k : Int) = byt s k * 16777216 + byt s (k + 1) * 65536 + byt s (k + 2) * 256 + byt s (k + 3) := by
  rw [g32, show hasN s (k : Int) 4 = true from (by simp [hasN]; omega), if_pos rfl, Int.toNat_natCast]
theorem g16_nn {s : ByteArray} {a : Int} (h : hasN s a 2 = true) : 0 ≤ g16 s a := by
  have h1 := byt_bd s a.toNat
  have h2 := byt_bd s (a.toNat + 1)
  rw [g16, if_pos h]; omega
theorem g32_two {s : ByteArray} {a : Int} (h : hasN s a 4 = true) : g32 s a = g16 s a * 65536 + g16 s (a + 2) := by
  simp only [hasN, Bool.and_eq_true, decide_eq_true_eq] at h
  obtain ⟨h3, h4⟩ := h
  obtain ⟨k, rfl⟩ : ∃ k : Nat, a = (k : Int) := ⟨a.toNat, by omega⟩
  rw [g32_at (by omega), g16_at (by omega), show (k : Int) + 2 = ((k + 2 : Nat) : Int) from rfl, g16_at (by omega), show k + 2 + 1 = k + 3 from rfl]
  omega
end Go.Proofs.Ytkfekgmdjemkbaa
