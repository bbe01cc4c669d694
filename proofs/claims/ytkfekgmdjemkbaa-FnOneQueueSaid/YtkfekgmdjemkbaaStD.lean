/- Contracts of the hash: keyBit, KeyWindow, HashBytes, HashInput, HashFlow: impl and spec. -/
import Derived.Test.YtkfekgmdjemkbaaStP
import Derived.Test.YtkfekgmdjemkbaaRows2
import Derived.Test.YtkfekgmdjemkbaaPktC
import Derived.Test.YtkfekgmdjemkbaaGetWord
import Derived.Deep.RegionWith
namespace Go.Proofs.Ytkfekgmdjemkbaa
set_option linter.unusedSimpArgs false
set_option linter.unusedVariables false
open Go.RowKit Go.ChangeShapes Go.WideShapes
/-- Bit k of a text. -/
def bitN (s : ByteArray) (k : Nat) : Int := byt s (k / 8) / 2 ^ (7 - k % 8) % 2
theorem bitN_bd (s : ByteArray) (k : Nat) : 0 ≤ bitN s k ∧ bitN s k ≤ 1 := by unfold bitN; omega
/-- k bits of a text, from bit b on. -/
def kwN (s : ByteArray) (b : Nat) : Nat → Int
  | 0 => 0
  | k + 1 => 2 * kwN s b k + bitN s (b + k)
theorem kwN_bd (s : ByteArray) (b : Nat) : ∀ k, 0 ≤ kwN s b k ∧ kwN s b k < 2 ^ k
  | 0 => by simp [kwN]
  | k + 1 => by
    have h := kwN_bd s b k
    have h2 := bitN_bd s (b + k)
    rw [kwN, Int.pow_succ]; omega
theorem kwN_32 (s : ByteArray) (b k : Nat) (h : k ≤ 32) : 0 ≤ kwN s b k ∧ kwN s b k ≤ 4294967295 := by
  have h1 := kwN_bd s b k
  have h3 : 2 ^ k ≤ 4294967296 := Nat.le_trans (Nat.pow_le_pow_right (by decide) h) (by decide)
  have h4 : ((2 ^ k : Nat) : Int) = (2 : Int) ^ k := by push_cast; rfl
  omega
/-- The hash of the first k bits of a text. -/
def hsN (key s : ByteArray) : Nat → Int
  | 0 => 0
  | k + 1 => if bitN s k = 1 then bits .xor .i64 (hsN key s k) (kwN key k 32) else hsN key s k
theorem bits_xor_bd {a b : Int} (a0 : 0 ≤ a) (a1 : a ≤ 4294967295) (b0 : 0 ≤ b) (b1 : b ≤ 4294967295) : 0 ≤ bits .xor .i64 a b ∧ bits .xor .i64 a b ≤ 4294967295 := by
  obtain ⟨m, rfl⟩ := Int.eq_ofNat_of_zero_le a0
  obtain ⟨n, rfl⟩ := Int.eq_ofNat_of_zero_le b0
  have h : m ^^^ n < 2 ^ 32 := Nat.xor_lt_two_pow (by omega) (by omega)
  have e : bits .xor .i64 (m : Int) (n : Int) = ((m ^^^ n : Nat) : Int) := by
    show IntKind.i64.wrap ((BitVec.ofInt 64 (m : Int) ^^^ BitVec.ofInt 64 (n : Int)).toNat : Int) = _
    rw [BitVec.toNat_xor, BitVec.ofInt_natCast, BitVec.ofInt_natCast, BitVec.toNat_ofNat, BitVec.toNat_ofNat, Nat.mod_eq_of_lt (by omega), Nat.mod_eq_of_lt (by omega), IntWalk.i64_in _ ⟨by omega, by omega⟩]
  rw [e]; omega
theorem hsN_bd (key s : ByteArray) : ∀ k, 0 ≤ hsN key s k ∧ hsN key s k ≤ 4294967295
  | 0 => by simp [hsN]
  | k + 1 => by
    have h := hsN_bd key s k
    have h2 := kwN_32 key k 32 (Nat.le_refl _)
    rw [hsN]
    split
    · exact bits_xor_bd h.1 h.2 h2.1 h2.2
    · exact h
def inpF (f : Flow) : ByteArray := w32 f.sip ++ w32 f.dip ++ w16 f.sport ++ w16 f.dport
def flowB (f : Flow) : Bool := inB f.sip 0 4294967295 && inB f.dip 0 4294967295 && inB f.sport 0 65535 && inB f.dport 0 65535
theorem flowB_t {f : Flow} (h : flowB f = true) : inB f.sip 0 4294967295 = true ∧ inB f.dip 0 4294967295 = true ∧ inB f.sport 0 65535 = true ∧ inB f.dport 0 65535 = true := by
  simp only [flowB, Bool.and_eq_true] at h
  exact ⟨h.1.1.1, h.1.1.2, h.1.2, h.2⟩
theorem inpF_size {f : Flow} (h : flowB f = true) : (inpF f).size = 12 := by
  obtain ⟨h1, h2, h3, h4⟩ := flowB_t h
  simp only [inpF, ByteArray.size_append, w32_size h1, w32_size h2, w16_size h3, w16_size h4]
def hashI (key : ByteArray) (f : Flow) : Int := hsN key (inpF f) 96
set_option maxHeartbeats 1000000 in
theorem implBit_c (s : ByteArray) (k : Nat) (w : World) (hs : s.size ≤ 1048576) (hk : k < 8 * s.size) :
    Calls Try.prog 83 #[.string s, .int .i64 k] w fun e w' => e = .returned (.int .i64 (bitN s k)) ∧ Below w.heap.size w w' := by
  have x1 := idxi (s := s) (i := (k : Int) / 8) (k := k / 8) (by omega) (by omega)
  have hb := byt_bd s (k / 8)
  have hpos : (0 : Int) < 2 ^ (7 - k % 8) := Int.pow_pos (by decide)
  have hd0 : 0 ≤ byt s (k / 8) / 2 ^ (7 - k % 8) := Int.ediv_nonneg hb.1 (by omega)
  have hd1 : byt s (k / 8) / 2 ^ (7 - k % 8) ≤ 255 := Int.le_trans (Int.ediv_le_self _ hb.1) hb.2
  have ha : bits .and .i64 (byt s (k / 8) / 2 ^ (7 - k % 8)) 1 = bitN s k := bits_and (p := 2) 1 rfl hd0 (by omega) (by decide)
  have hv := bitN_bd s k
  have ew : wrap64 (byt s (k / 8) / 2 ^ (7 - k % 8)) = byt s (k / 8) / 2 ^ (7 - k % 8) := IntWalk.wrap64_in _ ⟨by omega, by omega⟩
  go_enter Try.func83, Try.ntmps83
  go_wp2_with fail
  go_wp2
  go_ret
  exact ⟨ret_int (by first | rfl | (rw [← ha]; done) | (rw [← ha, ew]; done) | (rw [ew, ha]; done)), by first | exact Below.refl _ _ | go_grown⟩
set_option maxHeartbeats 1000000 in
theorem specBit_c (s : ByteArray) (k : Nat) (w : World) (hs : s.size ≤ 1048576) (hk : k < 8 * s.size) :
    Calls Try.prog 87 #[.string s, .int .i64 k] w fun e w' => e = .returned (.int .i64 (bitN s k)) ∧ Below w.heap.size w w' := by
  have x1 := idxi (s := s) (i := (k : Int) / 8) (k := k / 8) (by omega) (by omega)
  have hb := byt_bd s (k / 8)
  have hpos : (0 : Int) < 2 ^ (7 - k % 8) := Int.pow_pos (by decide)
  have hd0 : 0 ≤ byt s (k / 8) / 2 ^ (7 - k % 8) := Int.ediv_nonneg hb.1 (by omega)
  have hd1 : byt s (k / 8) / 2 ^ (7 - k % 8) ≤ 255 := Int.le_trans (Int.ediv_le_self _ hb.1) hb.2
  have ha : bits .and .i64 (byt s (k / 8) / 2 ^ (7 - k % 8)) 1 = bitN s k := bits_and (p := 2) 1 rfl hd0 (by omega) (by decide)
  have hv := bitN_bd s k
  have ew : wrap64 (byt s (k / 8) / 2 ^ (7 - k % 8)) = byt s (k / 8) / 2 ^ (7 - k % 8) := IntWalk.wrap64_in _ ⟨by omega, by omega⟩
  go_enter Try.func87, Try.ntmps87
  go_wp2_with fail
  go_wp2
  go_ret
  exact ⟨ret_int (by first | rfl | (rw [← ha]; done) | (rw [← ha, ew]; done) | (rw [ew, ha]; done)), by first | exact Below.refl _ _ | go_grown⟩
set_option maxHeartbeats 2000000 in
theorem implKeyWindow_c (key : ByteArray) (b : Nat) (w : World) (hs : key.size = 16) (hb : b ≤ 96) :
    Calls Try.prog 84 #[.string key, .int .i64 b] w fun e w' => e = .returned (.int .i64 (kwN key b 32)) ∧ Below w.heap.size w w' := by
  have hin := inBi (x := (b : Int)) (a := 0) (b := 96) (by omega) (by omega)
  go_enter Try.func84, Try.ntmps84
  go_wp2_with (go_at_call 28; refine (calls_bool (between_c _ _ _ _) (by assumption)).mono ?_; rintro e w1 ⟨rfl, rfl⟩)
  go_loopw [5, 6] (fun x i wr => ∃ k : Nat, k ≤ 32 ∧ i = .int .i64 ((b : Int) + k) ∧ x = .int .i64 (kwN key b k) ∧ Below w.heap.size w wr) (fun _ i _ => b + 32 - (intOf i).toNat)
  case atStart => exact ⟨0, by decide, by simp, rfl, by go_grown⟩
  case round =>
    obtain ⟨k, hk, rfl, rfl, hbw⟩ := hrel
    have hsz := hbw.size
    have hkb := kwN_32 key b k hk
    have hbb := bitN_bd key (b + k)
    have eb : ((b + k : Nat) : Int) = (b : Int) + k := by omega
    by_cases hl : k < 32
    · have hkb1 := kwN_32 key b (k + 1) (by omega)
      have e1 : kwN key b (k + 1) = 2 * kwN key b k + bitN key (b + k) := rfl
      have HE := Lib.hid e1
      have ho : bits .or .i64 (kwN key b k * 2) (bitN key (b + k)) = kwN key b k * 2 + bitN key (b + k) := bits_or (q := kwN key b k) (p := 2) 1 rfl rfl hkb.1 hbb.1 (by omega) (by omega)
      have ho2 : bits .or .i64 (2 * kwN key b k) (bitN key (b + k)) = 2 * kwN key b k + bitN key (b + k) := bits_or (q := kwN key b k) (p := 2) 1 rfl (by omega) hkb.1 hbb.1 (by omega) (by omega)
      clear e1
      have hbit := fun u => implBit_c key (b + k) u (by omega) (by omega)
      simp only [eb] at hbit
      go_wp2_with (go_at_call 83; refine (hbit _).mono ?_; rintro e w1 ⟨rfl, hb1⟩; have hk1 : Below w.heap.size w w1 := ext_step (by go_grown) (by go_size) hb1; clear hb1)
      go_roundw
      case rel => exact ⟨k + 1, by omega, by go_num, by have := HE.out; go_num, hk1⟩
      case measure => simp [intOf]; omega
    · have hk5 : k = 32 := by omega
      subst hk5
      go_wp2
      go_ret
      exact ⟨rfl, hbw⟩
set_option maxHeartbeats 2000000 in
theorem specKeyWindow_c (key : ByteArray) (b : Nat) (w : World) (hs : key.size = 16) (hb : b ≤ 96) :
    Calls Try.prog 88 #[.string key, .int .i64 b] w fun e w' => e = .returned (.int .i64 (kwN key b 32)) ∧ Below w.heap.size w w' := by
  have hin := inBi (x := (b : Int)) (a := 0) (b := 96) (by omega) (by omega)
  go_enter Try.func88, Try.ntmps88
  go_wp2_with (go_at_call 60; refine (calls_bool (l01In_c _ _ _ _) (by assumption)).mono ?_; rintro e w1 ⟨rfl, rfl⟩)
  go_loopw [5, 6] (fun x i wr => ∃ k : Nat, k ≤ 32 ∧ i = .int .i64 (k) ∧ x = .int .i64 (kwN key b k) ∧ Below w.heap.size w wr) (fun _ i _ => 32 - (intOf i).toNat)
  case atStart => exact ⟨0, by decide, by simp, rfl, by go_grown⟩
  case round =>
    obtain ⟨k, hk, rfl, rfl, hbw⟩ := hrel
    have hsz := hbw.size
    have hkb := kwN_32 key b k hk
    have hbb := bitN_bd key (b + k)
    have eb : ((b + k : Nat) : Int) = (b : Int) + k := by omega
    by_cases hl : k < 32
    · have hkb1 := kwN_32 key b (k + 1) (by omega)
      have e1 : kwN key b (k + 1) = 2 * kwN key b k + bitN key (b + k) := rfl
      have HE := Lib.hid e1
      have ho : bits .or .i64 (kwN key b k * 2) (bitN key (b + k)) = kwN key b k * 2 + bitN key (b + k) := bits_or (q := kwN key b k) (p := 2) 1 rfl rfl hkb.1 hbb.1 (by omega) (by omega)
      have ho2 : bits .or .i64 (2 * kwN key b k) (bitN key (b + k)) = 2 * kwN key b k + bitN key (b + k) := bits_or (q := kwN key b k) (p := 2) 1 rfl (by omega) hkb.1 hbb.1 (by omega) (by omega)
      clear e1
      have hbit := fun u => specBit_c key (b + k) u (by omega) (by omega)
      simp only [eb] at hbit
      go_wp2_with (go_at_call 87; refine (hbit _).mono ?_; rintro e w1 ⟨rfl, hb1⟩; have hk1 : Below w.heap.size w w1 := ext_step (by go_grown) (by go_size) hb1; clear hb1)
      go_roundw
      case rel => exact ⟨k + 1, by omega, by go_num, by have := HE.out; go_num, hk1⟩
      case measure => simp [intOf]; omega
    · have hk5 : k = 32 := by omega
      subst hk5
      go_wp2
      go_ret
      exact ⟨rfl, hbw⟩
set_option maxHeartbeats 2000000 in
theorem implHashBytes_c (key s : ByteArray) (w : World) (hs : key.size = 16) (hz : s.size ≤ 12) :
    Calls Try.prog 78 #[.string key, .string s] w fun e w' => e = .returned (.int .i64 (hsN key s (8 * s.size))) ∧ Below w.heap.size w w' := by
  go_enter Try.func78, Try.ntmps78
  go_wp2
  go_loopw [5, 6] (fun x i wr => ∃ k : Nat, k ≤ 8 * s.size ∧ i = .int .i64 k ∧ x = .int .i64 (hsN key s k) ∧ Below w.heap.size w wr) (fun _ i _ => 8 * s.size - (intOf i).toNat)
  case atStart => exact ⟨0, Nat.zero_le _, rfl, rfl, by go_grown⟩
  case round =>
    obtain ⟨k, hk, rfl, rfl, hbw⟩ := hrel
    have hsz := hbw.size
    have hkb := hsN_bd key s k
    have hbb := bitN_bd s k
    by_cases hl : k < 8 * s.size
    · have hl2 : (k : Int) < 8 * (s.size : Int) := by omega
      have hbit := fun u => implBit_c s k u (by omega) hl
      have hkw := fun u => implKeyWindow_c key k u hs (by omega)
      cases h1 : (bitN s k == 1)
      · have e1 : hsN key s (k + 1) = hsN key s k := by rw [hsN, if_neg (by simpa using h1)]
        have HE := Lib.hid e1
        clear e1
        go_wp2_with (go_at_call 83; refine (hbit _).mono ?_; rintro e w1 ⟨rfl, hb1⟩; have hk1 : Below w.heap.size w w1 := ext_step (by go_grown) (by go_size) hb1; clear hb1)
        go_roundw
        case rel => exact ⟨k + 1, by omega, by go_num, by rw [HE.out], hk1⟩
        case measure => simp [intOf]; omega
      · have e1 : hsN key s (k + 1) = bits .xor .i64 (hsN key s k) (kwN key k 32) := by rw [hsN, if_pos (by simpa using h1)]
        have HE := Lib.hid e1
        clear e1
        go_wp2_with (go_at_call 83; refine (hbit _).mono ?_; rintro e w1 ⟨rfl, hb1⟩; have hk1 : Below w.heap.size w w1 := ext_step (by go_grown) (by go_size) hb1; clear hb1)
        refine (hkw _).mono ?_
        rintro e w2 ⟨rfl, hb1⟩
        replace hk1 : Below w.heap.size w w2 := ext_step hk1 hk1.size hb1
        clear hb1
        go_wp2
        go_roundw
        case rel => exact ⟨k + 1, by omega, by go_num, by rw [HE.out], hk1⟩
        case measure => simp [intOf]; omega
    · have hk5 : k = 8 * s.size := by omega
      subst hk5
      go_wp2
      go_ret
      exact ⟨rfl, hbw⟩
set_option maxHeartbeats 2000000 in
theorem specHashBytes_c (key s : ByteArray) (w : World) (hs : key.size = 16) (hz : s.size ≤ 12) :
    Calls Try.prog 81 #[.string key, .string s] w fun e w' => e = .returned (.int .i64 (hsN key s (8 * s.size))) ∧ Below w.heap.size w w' := by
  go_enter Try.func81, Try.ntmps81
  go_wp2
  go_loopw [5, 6] (fun x i wr => ∃ k : Nat, k ≤ 8 * s.size ∧ i = .int .i64 k ∧ x = .int .i64 (hsN key s k) ∧ Below w.heap.size w wr) (fun _ i _ => 8 * s.size - (intOf i).toNat)
  case atStart => exact ⟨0, Nat.zero_le _, rfl, rfl, by go_grown⟩
  case round =>
    obtain ⟨k, hk, rfl, rfl, hbw⟩ := hrel
    have hsz := hbw.size
    have hkb := hsN_bd key s k
    have hbb := bitN_bd s k
    by_cases hl : k < 8 * s.size
    · have hl2 : (k : Int) < 8 * (s.size : Int) := by omega
      have hbit := fun u => specBit_c s k u (by omega) hl
      have hkw := fun u => specKeyWindow_c key k u hs (by omega)
      cases h1 : (bitN s k == 1)
      · have e1 : hsN key s (k + 1) = hsN key s k := by rw [hsN, if_neg (by simpa using h1)]
        have HE := Lib.hid e1
        clear e1
        go_wp2_with (go_at_call 87; refine (hbit _).mono ?_; rintro e w1 ⟨rfl, hb1⟩; have hk1 : Below w.heap.size w w1 := ext_step (by go_grown) (by go_size) hb1; clear hb1)
        go_roundw
        case rel => exact ⟨k + 1, by omega, by go_num, by rw [HE.out], hk1⟩
        case measure => simp [intOf]; omega
      · have e1 : hsN key s (k + 1) = bits .xor .i64 (hsN key s k) (kwN key k 32) := by rw [hsN, if_pos (by simpa using h1)]
        have HE := Lib.hid e1
        clear e1
        go_wp2_with (go_at_call 87; refine (hbit _).mono ?_; rintro e w1 ⟨rfl, hb1⟩; have hk1 : Below w.heap.size w w1 := ext_step (by go_grown) (by go_size) hb1; clear hb1)
        refine (hkw _).mono ?_
        rintro e w2 ⟨rfl, hb1⟩
        replace hk1 : Below w.heap.size w w2 := ext_step hk1 hk1.size hb1
        clear hb1
        go_wp2
        go_roundw
        case rel => exact ⟨k + 1, by omega, by go_num, by rw [HE.out], hk1⟩
        case measure => simp [intOf]; omega
    · have hk5 : k = 8 * s.size := by omega
      subst hk5
      go_wp2
      go_ret
      exact ⟨rfl, hbw⟩
set_option maxHeartbeats 2000000 in
theorem implHashInput_c (f : Flow) (w : World) (h : flowB f = true) :
    Calls Try.prog 79 #[.agg #[.int .i64 f.kind, .int .i64 f.sip, .int .i64 f.dip, .int .i64 f.sport, .int .i64 f.dport]] w fun e w' => e = .returned (.string (inpF f)) ∧ Below w.heap.size w w' := by
  obtain ⟨h1, h2, h3, h4⟩ := flowB_t h
  have z1 := w32_size h1
  have z2 := w32_size h2
  have z3 := w16_size h3
  have z4 := w16_size h4
  have c1 := fun u => implWord32_c f.sip u ⟨by have := inB_t h1; omega, by have := inB_t h1; omega⟩
  have c2 := fun u => implWord32_c f.dip u ⟨by have := inB_t h2; omega, by have := inB_t h2; omega⟩
  have c3 := fun u => implWord16_c f.sport u ⟨by have := inB_t h3; omega, by have := inB_t h3; omega⟩
  have c4 := fun u => implWord16_c f.dport u ⟨by have := inB_t h4; omega, by have := inB_t h4; omega⟩
  have hr : inpF f = w32 f.sip ++ w32 f.dip ++ w16 f.sport ++ w16 f.dport := rfl
  rw [hr]
  obtain ⟨a1, e1⟩ : ∃ a, w32 f.sip = a := ⟨_, rfl⟩
  obtain ⟨a2, e2⟩ : ∃ a, w32 f.dip = a := ⟨_, rfl⟩
  obtain ⟨a3, e3⟩ : ∃ a, w16 f.sport = a := ⟨_, rfl⟩
  obtain ⟨a4, e4⟩ : ∃ a, w16 f.dport = a := ⟨_, rfl⟩
  simp only [e1, e2, e3, e4] at *
  clear e1 e2 e3 e4 hr h1 h2 h3 h4 h
  have y1 : (a1 ++ a2).size = 8 := by rw [ByteArray.size_append]; omega
  have y2 : (a1 ++ a2 ++ a3).size = 10 := by rw [ByteArray.size_append]; omega
  go_enter Try.func79, Try.ntmps79
  go_wp2_with fail
  have hk0 : Below w.heap.size w (w.alloc (.cells #[.int .i64 f.kind, .int .i64 f.sip, .int .i64 f.dip, .int .i64 f.sport, .int .i64 f.dport] 44)) := by go_grown
  have hkp := Blk.new w 44 [.int .i64 f.kind, .int .i64 f.sip, .int .i64 f.dip, .int .i64 f.sport, .int .i64 f.dport]
  generalize w.alloc (.cells #[.int .i64 f.kind, .int .i64 f.sip, .int .i64 f.dip, .int .i64 f.sport, .int .i64 f.dport] 44) = W1 at *
  have q1 := hkp.cell 1
  have q2 := hkp.cell 2
  have q3 := hkp.cell 3
  have q4 := hkp.cell 4
  simp only [List.getElem?_cons_succ, List.getElem?_cons_zero] at q1 q2 q3 q4
  have hxt := fun t : Ext W1 => And.intro (t.cell q1) (And.intro (t.cell q2) (And.intro (t.cell q3) (t.cell q4)))
  refine wp_region_ext_lit (by kernel_rfl) (by kernel_rfl) ?_
  repeat (go_big_quiet_step (first | (go_at_call_of 85 (f.sip); exact ext_call (c1 _)) | (go_at_call_of 85 (f.dip); exact ext_call (c2 _)) | (go_at_call_of 86 (f.sport); exact ext_call (c3 _)) | (go_at_call_of 86 (f.dport); exact ext_call (c4 _))))
  refine wpQuiet_nil ?_
  intro _ hw'
  obtain ⟨tq, hw''⟩ := hw'
  subst hw''
  go_wp2
  go_ret
  exact ⟨rfl, ext_step hk0 hk0.size tq.below⟩
set_option maxHeartbeats 2000000 in
theorem specHashInput_c (f : Flow) (w : World) (h : flowB f = true) :
    Calls Try.prog 82 #[.agg #[.int .i64 f.kind, .int .i64 f.sip, .int .i64 f.dip, .int .i64 f.sport, .int .i64 f.dport]] w fun e w' => e = .returned (.string (inpF f)) ∧ Below w.heap.size w w' := by
  obtain ⟨h1, h2, h3, h4⟩ := flowB_t h
  have z1 := w32_size h1
  have z2 := w32_size h2
  have z3 := w16_size h3
  have z4 := w16_size h4
  have c1 := fun u => specWord32_c f.sip u ⟨by have := inB_t h1; omega, by have := inB_t h1; omega⟩
  have c2 := fun u => specWord32_c f.dip u ⟨by have := inB_t h2; omega, by have := inB_t h2; omega⟩
  have c3 := fun u => specWord16_c f.sport u ⟨by have := inB_t h3; omega, by have := inB_t h3; omega⟩
  have c4 := fun u => specWord16_c f.dport u ⟨by have := inB_t h4; omega, by have := inB_t h4; omega⟩
  have hr : inpF f = w32 f.sip ++ w32 f.dip ++ w16 f.sport ++ w16 f.dport := rfl
  rw [hr]
  obtain ⟨a1, e1⟩ : ∃ a, w32 f.sip = a := ⟨_, rfl⟩
  obtain ⟨a2, e2⟩ : ∃ a, w32 f.dip = a := ⟨_, rfl⟩
  obtain ⟨a3, e3⟩ : ∃ a, w16 f.sport = a := ⟨_, rfl⟩
  obtain ⟨a4, e4⟩ : ∃ a, w16 f.dport = a := ⟨_, rfl⟩
  simp only [e1, e2, e3, e4] at *
  clear e1 e2 e3 e4 hr h1 h2 h3 h4 h
  have y1 : (a1 ++ a2).size = 8 := by rw [ByteArray.size_append]; omega
  have y2 : (a1 ++ a2 ++ a3).size = 10 := by rw [ByteArray.size_append]; omega
  go_enter Try.func82, Try.ntmps82
  go_wp2_with fail
  have hk0 : Below w.heap.size w (w.alloc (.cells #[.int .i64 f.kind, .int .i64 f.sip, .int .i64 f.dip, .int .i64 f.sport, .int .i64 f.dport] 44)) := by go_grown
  have hkp := Blk.new w 44 [.int .i64 f.kind, .int .i64 f.sip, .int .i64 f.dip, .int .i64 f.sport, .int .i64 f.dport]
  generalize w.alloc (.cells #[.int .i64 f.kind, .int .i64 f.sip, .int .i64 f.dip, .int .i64 f.sport, .int .i64 f.dport] 44) = W1 at *
  have q1 := hkp.cell 1
  have q2 := hkp.cell 2
  have q3 := hkp.cell 3
  have q4 := hkp.cell 4
  simp only [List.getElem?_cons_succ, List.getElem?_cons_zero] at q1 q2 q3 q4
  have hxt := fun t : Ext W1 => And.intro (t.cell q1) (And.intro (t.cell q2) (And.intro (t.cell q3) (t.cell q4)))
  refine wp_region_ext_lit (by kernel_rfl) (by kernel_rfl) ?_
  repeat (go_big_quiet_step (first | (go_at_call_of 89 (f.sip); exact ext_call (c1 _)) | (go_at_call_of 89 (f.dip); exact ext_call (c2 _)) | (go_at_call_of 90 (f.sport); exact ext_call (c3 _)) | (go_at_call_of 90 (f.dport); exact ext_call (c4 _))))
  refine wpQuiet_nil ?_
  intro _ hw'
  obtain ⟨tq, hw''⟩ := hw'
  subst hw''
  go_wp2
  go_ret
  exact ⟨rfl, ext_step hk0 hk0.size tq.below⟩
set_option maxHeartbeats 2000000 in
theorem implHashFlow_c (key : ByteArray) (f : Flow) (w : World) (hk : key.size = 16) (h : flowB f = true) :
    Calls Try.prog 72 #[.string key, .agg #[.int .i64 f.kind, .int .i64 f.sip, .int .i64 f.dip, .int .i64 f.sport, .int .i64 f.dport]] w fun e w' => e = .returned (.int .i64 (hashI key f)) ∧ Below w.heap.size w w' := by
  have hz := inpF_size h
  have h1 := fun u => implHashInput_c f u h
  have h2 := fun u => implHashBytes_c key (inpF f) u hk (by omega)
  have e8 : 8 * (inpF f).size = 96 := by omega
  rw [e8] at h2
  have hh : hsN key (inpF f) 96 = hashI key f := rfl
  rw [hh] at h2
  generalize inpF f = I at *
  generalize hashI key f = V at *
  clear hh e8 hz h
  go_enter Try.func72, Try.ntmps72
  go_wp2_with fail
  refine (h1 _).mono ?_
  rintro e w1 ⟨rfl, hb⟩
  have hk1 : Below w.heap.size w w1 := ext_step (by go_grown) (by go_size) hb
  clear hb
  go_wp2_with fail
  refine (h2 _).mono ?_
  rintro e w2 ⟨rfl, hb⟩
  replace hk1 : Below w.heap.size w w2 := ext_step hk1 hk1.size hb
  go_wp2
  go_ret
  exact ⟨rfl, hk1⟩
set_option maxHeartbeats 2000000 in
theorem specHashFlow_c (key : ByteArray) (f : Flow) (w : World) (hk : key.size = 16) (h : flowB f = true) :
    Calls Try.prog 76 #[.string key, .agg #[.int .i64 f.kind, .int .i64 f.sip, .int .i64 f.dip, .int .i64 f.sport, .int .i64 f.dport]] w fun e w' => e = .returned (.int .i64 (hashI key f)) ∧ Below w.heap.size w w' := by
  have hz := inpF_size h
  have h1 := fun u => specHashInput_c f u h
  have h2 := fun u => specHashBytes_c key (inpF f) u hk (by omega)
  have e8 : 8 * (inpF f).size = 96 := by omega
  rw [e8] at h2
  have hh : hsN key (inpF f) 96 = hashI key f := rfl
  rw [hh] at h2
  generalize inpF f = I at *
  generalize hashI key f = V at *
  clear hh e8 hz h
  go_enter Try.func76, Try.ntmps76
  go_wp2_with fail
  refine (h1 _).mono ?_
  rintro e w1 ⟨rfl, hb⟩
  have hk1 : Below w.heap.size w w1 := ext_step (by go_grown) (by go_size) hb
  clear hb
  go_wp2_with fail
  refine (h2 _).mono ?_
  rintro e w2 ⟨rfl, hb⟩
  replace hk1 : Below w.heap.size w w2 := ext_step hk1 hk1.size hb
  go_wp2
  go_ret
  exact ⟨rfl, hk1⟩
end Go.Proofs.Ytkfekgmdjemkbaa
