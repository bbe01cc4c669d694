/- Contracts: AddSums, SumWords, Checksum, PadBody, PutBytes, macBytes and l04Address: impl and spec. -/
import Derived.Test.YtkfekgmdjemkbaaPktB
namespace Go.Proofs.Ytkfekgmdjemkbaa
set_option linter.unusedSimpArgs false
set_option linter.unusedVariables false
open Go.RowKit Go.ChangeShapes Go.WideShapes
theorem bits_and {a p : Int} (e : Nat) (hp : p = 2 ^ e) (h0 : 0 ≤ a) (h1 : a < 9223372036854775808) (h2 : p ≤ 9223372036854775808) : bits .and .i64 a (p - 1) = a % p := by
  obtain ⟨m, rfl⟩ := Int.eq_ofNat_of_zero_le h0
  have hp2 : p = ((2 ^ e : Nat) : Int) := by rw [hp]; push_cast; rfl
  have hpos : 0 < 2 ^ e := Nat.two_pow_pos e
  have hle : 2 ^ e ≤ 9223372036854775808 := by rw [hp2] at h2; exact Int.ofNat_le.1 h2
  have hc : p - 1 = ((2 ^ e - 1 : Nat) : Int) := by rw [hp2]; omega
  have hm : m % 2 ^ e < 2 ^ e := Nat.mod_lt _ hpos
  rw [hc, hp2]
  show IntKind.i64.wrap ((BitVec.ofInt 64 (m : Int) &&& BitVec.ofInt 64 ((2 ^ e - 1 : Nat) : Int)).toNat : Int) = _
  rw [BitVec.toNat_and, BitVec.ofInt_natCast, BitVec.ofInt_natCast, BitVec.toNat_ofNat, BitVec.toNat_ofNat, Nat.mod_eq_of_lt (by omega), Nat.mod_eq_of_lt (by omega), Nat.and_two_pow_sub_one_eq_mod, IntKind.wrap_i64]
  generalize 2 ^ e = q at *
  have : ((m % q : Nat) : Int) = (m : Int) % (q : Int) := Int.natCast_emod m q
  omega
end Go.Proofs.Ytkfekgmdjemkbaa
