/- Contracts: AddSums, SumWords, Checksum, PadBody, PutBytes, macBytes and l04Address: impl and spec. -/
import Derived.Test.YtifbfmafogmemaaPktB
namespace Go.Proofs.Ytifbfmafogmemaa
set_option linter.unusedSimpArgs false
set_option linter.unusedVariables false
open Go.RowKit Go.ChangeShapes Go.WideShapes
theorem bits_and {a p : Int} (e : Nat) (hp : p = 2 ^ e) (h0 : 0 ≤ a) (h1 : a < 9223372036854775808) (h2 : p ≤ 9223372036854775808) : bits .and .i64 a (p - 1) = a % p := by
  obtain ⟨m, rfl⟩ := Int.eq_ofNat_of_zero_le h0
  have hp2 : p = ((2 ^ e : Nat) : Int) := by rw [hp]; push_cast; rfl
  have hpos : 0 < 2 ^ e := Nat.two_pow_pos e
  have hle : 2 ^ e ≤ 9223372036854775808 := by rw [hp2] at h2; exact Int.ofNat_le.1 h2
  have hc : p - 1 = ((2 ^ e - 1 : Nat) : Int) := by rw [hp2]; omega
  have hm : m % 2 ^ e < 2 ^ e := Nat.mod_lt _ hpos
  rw [hc, hp2]
  show IntKind.i64.wrap ((BitVec.ofInt 64 (m : Int) &&& BitVec.ofInt 64 ((2 ^ e - 1 : Nat) : Int)).toNat : Int) = _
  rw [BitVec.toNat_and, BitVec.ofInt_natCast, BitVec.ofInt_natCast, BitVec.toNat_ofNat, BitVec.toNat_ofNat, Nat.mod_eq_of_lt (by omega), Nat.mod_eq_of_lt (by omega), Nat.and_two_pow_sub_one_eq_mod, IntKind.wrap_i64]
  generalize 2 ^ e = q at *
  have : ((m % q : Nat) : Int) = (m : Int) % (q : Int) := Int.natCast_emod m q
  omega
set_option maxHeartbeats 1000000 in
theorem implAddSums_c (a b : Int) (w : World) (a0 : 0 ≤ a) (a1 : a ≤ 65535) (b0 : 0 ≤ b) (b1 : b ≤ 65535) :
    Calls Try.prog 180 #[.int .i64 a, .int .i64 b] w fun e w' => e = .returned (.int .i64 (addS a b)) ∧ Below w.heap.size w w' := by
  have h1 := inBi a0 a1
  have h2 := inBi b0 b1
  by_cases hs : a + b > 65535
  · go_enter Try.func180, Try.ntmps180
    go_wp2_with (go_at_call 98; refine (between_c _ _ _ _).mono ?_; rintro e w' ⟨rfl, rfl⟩; first | rw [h1] | rw [h2])
    go_ret
    exact ⟨ret_int (by rw [addS, h1, h2]; simp; omega), Below.refl _ _⟩
  · go_enter Try.func180, Try.ntmps180
    go_wp2_with (go_at_call 98; refine (between_c _ _ _ _).mono ?_; rintro e w' ⟨rfl, rfl⟩; first | rw [h1] | rw [h2])
    go_ret
    exact ⟨ret_int (by rw [addS, h1, h2]; simp; omega), Below.refl _ _⟩
set_option maxHeartbeats 1000000 in
theorem specAddSums_c (a b : Int) (w : World) (a0 : 0 ≤ a) (a1 : a ≤ 65535) (b0 : 0 ≤ b) (b1 : b ≤ 65535) :
    Calls Try.prog 179 #[.int .i64 a, .int .i64 b] w fun e w' => e = .returned (.int .i64 (addS a b)) ∧ Below w.heap.size w w' := by
  have h1 := inBi a0 a1
  have h2 := inBi b0 b1
  by_cases hs : a + b > 65535
  · go_enter Try.func179, Try.ntmps179
    go_wp2_with (go_at_call 94; refine (l01In_c _ _ _ _).mono ?_; rintro e w' ⟨rfl, rfl⟩; first | rw [h1] | rw [h2])
    go_ret
    exact ⟨ret_int (by rw [addS, h1, h2]; simp; omega), Below.refl _ _⟩
  · go_enter Try.func179, Try.ntmps179
    go_wp2_with (go_at_call 94; refine (l01In_c _ _ _ _).mono ?_; rintro e w' ⟨rfl, rfl⟩; first | rw [h1] | rw [h2])
    go_ret
    exact ⟨ret_int (by rw [addS, h1, h2]; simp; omega), Below.refl _ _⟩
set_option maxHeartbeats 4000000 in
theorem implSumWords_c (s : ByteArray) (w : World) (hs : s.size ≤ 1100000) :
    Calls Try.prog 128 #[.string s] w fun e w' => e = .returned (.int .i64 (sumS s)) ∧ Below w.heap.size w w' := by
  go_enter Try.func128, Try.ntmps128
  go_wp2
  go_loopw [3, 4] (fun a i wr => ∃ k : Nat, k ≤ (s.size + 1) / 2 ∧ a = .int .i64 (sumW s k) ∧ i = .int .i64 (2 * (k : Int)) ∧ Below w.heap.size w wr) (fun _ i _ => s.size + 2 - (intOf i).toNat)
  case atStart => exact ⟨0, Nat.zero_le _, rfl, rfl, by go_grown⟩
  case round =>
    obtain ⟨k, hk, rfl, rfl, hbw⟩ := hrel
    have hz := hbw.size
    have sb := sumW_bd s k
    have wb := wordAt_bd s k
    by_cases hlt : 2 * k < s.size
    · have x0 := idxi (i := 2 * (k : Int)) (k := 2 * k) (by omega) hlt
      obtain ⟨y0, z0⟩ := byt_bd s (2 * k)
      have l0 : 2 * (k : Int) < (s.size : Int) := by omega
      by_cases h1 : 2 * k + 1 < s.size
      · have x1 := idxi (i := 2 * (k : Int) + 1) (k := 2 * k + 1) (by omega) h1
        obtain ⟨y1, z1⟩ := byt_bd s (2 * k + 1)
        have l1 : 2 * (k : Int) + 1 < (s.size : Int) := by omega
        have e1 : IntKind.i64.wrap (2 * (k : Int) + 1) = 2 * (k : Int) + 1 := IntWalk.i64_in _ ⟨by omega, by omega⟩
        have e2 : IntKind.i64.wrap (2 * (k : Int) + 2) = 2 * (k : Int) + 2 := IntWalk.i64_in _ ⟨by omega, by omega⟩
        have hor := bits_or (a := byt s (2 * k) * 256) (b := byt s (2 * k + 1)) (q := byt s (2 * k)) (p := 256) 8 (by decide) (by omega) y0 y1 (by omega) (by omega)
        go_wp2_with (go_at_call 180; refine (implAddSums_c (sumW s k) (wordAt s k) _ sb.1 sb.2 (by omega) (by omega)).mono ?_; rintro e w1 ⟨rfl, hb⟩)
        go_wp2
        go_roundw
        case rel => exact ⟨k + 1, by omega, rfl, by congr 1 <;> omega, ext_step hbw hz hb⟩
        case measure => simp [intOf]; omega
      · have y1 : byt s (2 * k + 1) = 0 := byt_out (by omega)
        have l1 : ¬ 2 * (k : Int) + 1 < (s.size : Int) := by omega
        have e1 : IntKind.i64.wrap (2 * (k : Int) + 1) = 2 * (k : Int) + 1 := IntWalk.i64_in _ ⟨by omega, by omega⟩
        have e2 : IntKind.i64.wrap (2 * (k : Int) + 2) = 2 * (k : Int) + 2 := IntWalk.i64_in _ ⟨by omega, by omega⟩
        go_wp2_with (go_at_call 180; refine (implAddSums_c (sumW s k) (byt s (2 * k) * 256) _ sb.1 sb.2 (by omega) (by omega)).mono ?_; rintro e w1 ⟨rfl, hb⟩)
        go_wp2
        go_roundw
        case rel => exact ⟨k + 1, by omega, by rw [sumW, wordAt, y1, Int.add_zero], by congr 1 <;> omega, ext_step hbw hz hb⟩
        case measure => simp [intOf]; omega
    · have l0 : ¬ 2 * (k : Int) < (s.size : Int) := by omega
      have hkk : k = (s.size + 1) / 2 := by omega
      go_wp2
      go_ret
      exact ⟨ret_int (by rw [sumS, ← hkk]), hbw⟩
set_option maxHeartbeats 4000000 in
theorem specSumWords_c (s : ByteArray) (w : World) (hs : s.size ≤ 1100000) :
    Calls Try.prog 121 #[.string s] w fun e w' => e = .returned (.int .i64 (sumS s)) ∧ Below w.heap.size w w' := by
  go_enter Try.func121, Try.ntmps121
  go_wp2
  go_loopw [3, 4] (fun a i wr => ∃ k : Nat, k ≤ (s.size + 1) / 2 ∧ a = .int .i64 (sumW s k) ∧ i = .int .i64 (2 * (k : Int)) ∧ Below w.heap.size w wr) (fun _ i _ => s.size + 2 - (intOf i).toNat)
  case atStart => exact ⟨0, Nat.zero_le _, rfl, rfl, by go_grown⟩
  case round =>
    obtain ⟨k, hk, rfl, rfl, hbw⟩ := hrel
    have hz := hbw.size
    have sb := sumW_bd s k
    have wb := wordAt_bd s k
    by_cases hlt : 2 * k < s.size
    · have x0 := idxi (i := 2 * (k : Int)) (k := 2 * k) (by omega) hlt
      obtain ⟨y0, z0⟩ := byt_bd s (2 * k)
      have l0 : 2 * (k : Int) < (s.size : Int) := by omega
      by_cases h1 : 2 * k + 1 < s.size
      · have x1 := idxi (i := 2 * (k : Int) + 1) (k := 2 * k + 1) (by omega) h1
        obtain ⟨y1, z1⟩ := byt_bd s (2 * k + 1)
        have l1 : 2 * (k : Int) + 1 < (s.size : Int) := by omega
        have e1 : IntKind.i64.wrap (2 * (k : Int) + 1) = 2 * (k : Int) + 1 := IntWalk.i64_in _ ⟨by omega, by omega⟩
        have e2 : IntKind.i64.wrap (2 * (k : Int) + 2) = 2 * (k : Int) + 2 := IntWalk.i64_in _ ⟨by omega, by omega⟩
        have hor := bits_or (a := byt s (2 * k) * 256) (b := byt s (2 * k + 1)) (q := byt s (2 * k)) (p := 256) 8 (by decide) (by omega) y0 y1 (by omega) (by omega)
        go_wp2_with (go_at_call 179; refine (specAddSums_c (sumW s k) (wordAt s k) _ sb.1 sb.2 (by omega) (by omega)).mono ?_; rintro e w1 ⟨rfl, hb⟩)
        go_wp2
        go_roundw
        case rel => exact ⟨k + 1, by omega, rfl, by congr 1 <;> omega, ext_step hbw hz hb⟩
        case measure => simp [intOf]; omega
      · have y1 : byt s (2 * k + 1) = 0 := byt_out (by omega)
        have l1 : ¬ 2 * (k : Int) + 1 < (s.size : Int) := by omega
        have e1 : IntKind.i64.wrap (2 * (k : Int) + 1) = 2 * (k : Int) + 1 := IntWalk.i64_in _ ⟨by omega, by omega⟩
        have e2 : IntKind.i64.wrap (2 * (k : Int) + 2) = 2 * (k : Int) + 2 := IntWalk.i64_in _ ⟨by omega, by omega⟩
        go_wp2_with (go_at_call 179; refine (specAddSums_c (sumW s k) (byt s (2 * k) * 256) _ sb.1 sb.2 (by omega) (by omega)).mono ?_; rintro e w1 ⟨rfl, hb⟩)
        go_wp2
        go_roundw
        case rel => exact ⟨k + 1, by omega, by rw [sumW, wordAt, y1, Int.add_zero], by congr 1 <;> omega, ext_step hbw hz hb⟩
        case measure => simp [intOf]; omega
    · have l0 : ¬ 2 * (k : Int) < (s.size : Int) := by omega
      have hkk : k = (s.size + 1) / 2 := by omega
      go_wp2
      go_ret
      exact ⟨ret_int (by rw [sumS, ← hkk]), hbw⟩
set_option maxHeartbeats 1000000 in
theorem implChecksum_c (s : ByteArray) (w : World) (hs : s.size ≤ 1100000) :
    Calls Try.prog 66 #[.string s] w fun e w' => e = .returned (.int .i64 (chk s)) ∧ Below w.heap.size w w' := by
  have hc := chk_bd s
  unfold chk at hc ⊢
  go_enter Try.func66, Try.ntmps66
  go_wp2_with fail
  refine (implSumWords_c s _ hs).mono ?_
  rintro e w1 ⟨rfl, hb⟩
  go_wp2
  go_ret
  exact ⟨rfl, hb⟩
set_option maxHeartbeats 1000000 in
theorem specChecksum_c (s : ByteArray) (w : World) (hs : s.size ≤ 1100000) :
    Calls Try.prog 57 #[.string s] w fun e w' => e = .returned (.int .i64 (chk s)) ∧ Below w.heap.size w w' := by
  have hc := chk_bd s
  unfold chk at hc ⊢
  go_enter Try.func57, Try.ntmps57
  go_wp2_with fail
  refine (specSumWords_c s _ hs).mono ?_
  rintro e w1 ⟨rfl, hb⟩
  go_wp2
  go_ret
  exact ⟨rfl, hb⟩
set_option maxHeartbeats 1000000 in
theorem implPadBody_c (s : ByteArray) (w : World) (hs : s.size ≤ 1048576) :
    Calls Try.prog 73 #[.string s] w fun e w' => e = .returned (.string (padS s)) ∧ Below w.heap.size w w' := by
  by_cases h : s.size < 46
  · have hc : (46 : Int) - (s.size : Int) = ((46 - s.size : Nat) : Int) := by omega
    have hq := repB_size 0 (46 - s.size)
    go_enter Try.func73, Try.ntmps73
    go_wp2_with fail
    refine (repeat_c 0 (46 - s.size) _ (by omega)).mono ?_
    rintro e w1 ⟨rfl, hb⟩
    go_wp2
    go_ret
    exact ⟨ret_string (by rw [padS, if_pos h]), hb⟩
  · go_enter Try.func73, Try.ntmps73
    go_wp2
    go_ret
    exact ⟨ret_string (by rw [padS, if_neg h]), Below.refl _ _⟩
set_option maxHeartbeats 1000000 in
theorem specPadBody_c (s : ByteArray) (w : World) (hs : s.size ≤ 1048576) :
    Calls Try.prog 119 #[.string s] w fun e w' => e = .returned (.string (padS s)) ∧ Below w.heap.size w w' := by
  by_cases h : s.size < 46
  · have hc : (46 : Int) - (s.size : Int) = ((46 - s.size : Nat) : Int) := by omega
    have hq := repB_size 0 (46 - s.size)
    go_enter Try.func119, Try.ntmps119
    go_wp2_with fail
    refine (l01Long_c 0 (46 - s.size) _ (by omega)).mono ?_
    rintro e w1 ⟨rfl, hb⟩
    go_wp2
    go_ret
    exact ⟨ret_string (by rw [padS, if_pos h]), hb⟩
  · go_enter Try.func119, Try.ntmps119
    go_wp2
    go_ret
    exact ⟨ret_string (by rw [padS, if_neg h]), Below.refl _ _⟩
set_option maxHeartbeats 1000000 in
theorem implMac_c (a : Int) (w : World) (h0 : inB a 0 281474976710655 = true) :
    Calls Try.prog 139 #[.int .i64 a] w fun e w' => e = .returned (.string (macS a)) ∧ Below w.heap.size w w' := by
  obtain ⟨h1, h2⟩ := inB_t h0
  have hand := bits_and (a := a) (p := 4294967296) 32 (by decide) h1 (by omega) (by omega)
  have hand2 : bits .and .i64 a 4294967295 = a % 4294967296 := hand
  clear hand
  have s1 := w16_size (v := a / 4294967296) (inBi (by omega) (by omega))
  have s2 := w32_size (v := a % 4294967296) (inBi (by omega) (by omega))
  go_enter Try.func139, Try.ntmps139
  go_wp2_with fail
  refine (implWord16_c (a / 4294967296) _ ⟨by omega, by omega⟩).mono ?_
  rintro e w1 ⟨rfl, hb1⟩
  go_wp2_with fail
  refine (implWord32_c (a % 4294967296) _ ⟨by omega, by omega⟩).mono ?_
  rintro e w2 ⟨rfl, hb2⟩
  go_wp2
  go_ret
  exact ⟨ret_string rfl, ext_step hb1 hb1.size hb2⟩
set_option maxHeartbeats 1000000 in
theorem specMac_c (a : Int) (w : World) (h0 : inB a 0 281474976710655 = true) :
    Calls Try.prog 177 #[.int .i64 a] w fun e w' => e = .returned (.string (macS a)) ∧ Below w.heap.size w w' := by
  obtain ⟨h1, h2⟩ := inB_t h0
  have hand := bits_and (a := a) (p := 4294967296) 32 (by decide) h1 (by omega) (by omega)
  have hand2 : bits .and .i64 a 4294967295 = a % 4294967296 := hand
  clear hand
  have s1 := w16_size (v := a / 4294967296) (inBi (by omega) (by omega))
  have s2 := w32_size (v := a % 4294967296) (inBi (by omega) (by omega))
  go_enter Try.func177, Try.ntmps177
  go_wp2_with fail
  refine (specWord16_c (a / 4294967296) _ ⟨by omega, by omega⟩).mono ?_
  rintro e w1 ⟨rfl, hb1⟩
  go_wp2_with fail
  refine (specWord32_c (a % 4294967296) _ ⟨by omega, by omega⟩).mono ?_
  rintro e w2 ⟨rfl, hb2⟩
  go_wp2
  go_ret
  exact ⟨ret_string rfl, ext_step hb1 hb1.size hb2⟩
set_option maxHeartbeats 1000000 in
theorem implPutBytes_c (s p : ByteArray) (at_ : Int) (w : World) (h0 : s.size ≤ 1048576) (h1 : p.size ≤ 1048576) (h2 : I64 at_) :
    Calls Try.prog 54 #[.string s, .int .i64 at_, .string p] w fun e w' => e = .returned (.string (putB s at_ p)) ∧ Below w.heap.size w w' := by
  by_cases e1 : 0 ≤ at_ ∧ at_ + p.size ≤ s.size
  · obtain ⟨e2, e3⟩ := e1
    obtain ⟨a, rfl⟩ := Int.eq_ofNat_of_zero_le e2
    have hv : putB s a p = putG s a p := by rw [putB, if_pos ⟨e2, e3⟩, Int.toNat_natCast]
    have e4 : ¬ (a : Int) > (s.size : Int) - (p.size : Int) := by omega
    rw [hv, putG]
    go_enter Try.func54, Try.ntmps54
    go_wp2
    go_quiet (fail)
    go_wp2
    go_ret
    exact ⟨ret_string rfl, below_drewN (Below.refl _ _) _⟩
  · have hv : putB s at_ p = s := by rw [putB, if_neg e1]
    rw [hv]
    by_cases e2 : at_ < 0
    · go_enter Try.func54, Try.ntmps54
      go_wp2
      go_ret
      exact ⟨rfl, Below.refl _ _⟩
    · have e3 : at_ > (s.size : Int) - (p.size : Int) := by omega
      go_enter Try.func54, Try.ntmps54
      go_wp2
      go_ret
      exact ⟨rfl, Below.refl _ _⟩
end Go.Proofs.Ytifbfmafogmemaa
