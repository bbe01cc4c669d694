/- Contracts of the laws' helpers on flow tables, spreads and steerings: to, sz, eq. -/
import Derived.Test.YtifbfmafogmemaaConvSt
namespace Go.Proofs.Ytifbfmafogmemaa
set_option linter.unusedSimpArgs false
set_option linter.unusedVariables false
open Go.RowKit Go.ChangeShapes Go.WideShapes
theorem szRuleS_p (A : Option Addr) (n c : Nat) (left : Int) (w : World) (h0 : (n : Int) ≤ left) (h1 : left ≤ 1048576) :
    Calls Try.prog 76 #[.slice A n c, .int .i64 left] w fun e w' => e = .returned (.int .i64 (left - n)) ∧ w = w' := by
  have h := szRuleS_c A n c left w (by omega) h1 (by omega)
  rw [if_neg (by omega)] at h
  exact h
theorem szRuleS_n (A : Option Addr) (n c : Nat) (left : Int) (w : World) (hl : 0 ≤ left) (h0 : left < n) (h1 : left ≤ 1048576) (hm : n ≤ 9223372036854775807) :
    Calls Try.prog 76 #[.slice A n c, .int .i64 left] w fun e w' => e = .returned (.int .i64 (-1)) ∧ w = w' := by
  have h := szRuleS_c A n c left w hl h1 hm
  rw [if_pos (by omega)] at h
  exact h
theorem szSlotS_p (A : Option Addr) (n c : Nat) (left : Int) (w : World) (h0 : (n : Int) ≤ left) (h1 : left ≤ 1048576) :
    Calls Try.prog 141 #[.slice A n c, .int .i64 left] w fun e w' => e = .returned (.int .i64 (left - n)) ∧ w = w' := by
  have h := szSlotS_c A n c left w (by omega) h1 (by omega)
  rw [if_neg (by omega)] at h
  exact h
theorem szSlotS_n (A : Option Addr) (n c : Nat) (left : Int) (w : World) (hl : 0 ≤ left) (h0 : left < n) (h1 : left ≤ 1048576) (hm : n ≤ 9223372036854775807) :
    Calls Try.prog 141 #[.slice A n c, .int .i64 left] w fun e w' => e = .returned (.int .i64 (-1)) ∧ w = w' := by
  have h := szSlotS_c A n c left w hl h1 hm
  rw [if_pos (by omega)] at h
  exact h
theorem szIntS_p (A : Option Addr) (n c : Nat) (left : Int) (w : World) (h0 : (n : Int) ≤ left) (h1 : left ≤ 1048576) :
    Calls Try.prog 142 #[.slice A n c, .int .i64 left] w fun e w' => e = .returned (.int .i64 (left - n)) ∧ w = w' := by
  have h := szIntS_c A n c left w (by omega) h1 (by omega)
  rw [if_neg (by omega)] at h
  exact h
theorem szIntS_n (A : Option Addr) (n c : Nat) (left : Int) (w : World) (hl : 0 ≤ left) (h0 : left < n) (h1 : left ≤ 1048576) (hm : n ≤ 9223372036854775807) :
    Calls Try.prog 142 #[.slice A n c, .int .i64 left] w fun e w' => e = .returned (.int .i64 (-1)) ∧ w = w' := by
  have h := szIntS_c A n c left w hl h1 hm
  rw [if_pos (by omega)] at h
  exact h
set_option maxHeartbeats 1000000 in
theorem szFlowTable_p (As : Option Addr) (ns cs : Nat) (left : Int) (w : World) (h0 : (ns : Int) ≤ left) (h1 : left ≤ 1048576) :
    Calls Try.prog 77 #[.agg #[.slice As ns cs], .int .i64 left] w fun e w' => e = .returned (.int .i64 (left - ns)) ∧ Below w.heap.size w w' := by
  have hs := fun u => szSlotS_p As ns cs left u h0 h1
  have hq : ¬ left - (ns : Int) < 0 := by omega
  go_enter Try.func77, Try.ntmps77
  go_wp2_with fail
  have k0 : Below w.heap.size w (w.alloc (.cells #[.slice As ns cs] 44)) := by go_grown
  have hk0 : Blk (w.alloc (.cells #[.slice As ns cs] 44)) w.heap.size 44 [.slice As ns cs] := Blk.new _ _ _
  generalize hW0 : (w.alloc (.cells #[.slice As ns cs] 44)) = w0 at *
  clear hW0
  have bx0 := hk0.at_ 0 _ rfl
  refine (hs _).mono ?_
  rintro e w1 ⟨rfl, hw⟩
  have hb : Below w0.heap.size w0 w1 := by rw [← hw]; exact Below.refl _ _
  clear hw
  have k1 : Below w.heap.size w w1 := ext_step k0 k0.size hb
  replace bx0 := ccell hb _ _ _ bx0
  clear hb
  go_wp2
  go_ret
  exact ⟨rfl, k1⟩
set_option maxHeartbeats 1000000 in
theorem szFlowTable_n (As : Option Addr) (ns cs : Nat) (left : Int) (w : World) (hl : 0 ≤ left) (h0 : left < ns) (h1 : left ≤ 1048576) (hm : ns ≤ 9223372036854775807) :
    Calls Try.prog 77 #[.agg #[.slice As ns cs], .int .i64 left] w fun e w' => e = .returned (.int .i64 (-1)) ∧ Below w.heap.size w w' := by
  have hs := fun u => szSlotS_n As ns cs left u hl h0 h1 hm
  go_enter Try.func77, Try.ntmps77
  go_wp2_with fail
  have k0 : Below w.heap.size w (w.alloc (.cells #[.slice As ns cs] 44)) := by go_grown
  have hk0 : Blk (w.alloc (.cells #[.slice As ns cs] 44)) w.heap.size 44 [.slice As ns cs] := Blk.new _ _ _
  generalize hW0 : (w.alloc (.cells #[.slice As ns cs] 44)) = w0 at *
  clear hW0
  have bx0 := hk0.at_ 0 _ rfl
  refine (hs _).mono ?_
  rintro e w1 ⟨rfl, hw⟩
  have hb : Below w0.heap.size w0 w1 := by rw [← hw]; exact Below.refl _ _
  clear hw
  have k1 : Below w.heap.size w w1 := ext_step k0 k0.size hb
  replace bx0 := ccell hb _ _ _ bx0
  clear hb
  go_wp2
  go_ret
  exact ⟨rfl, k1⟩
set_option maxHeartbeats 1000000 in
theorem szSpread_p (key : ByteArray) (At : Option Addr) (nt ct : Nat) (left : Int) (w : World) (hk : key.size ≤ maxLen) (h0 : (key.size : Int) + nt ≤ left) (h1 : left ≤ 1048576) :
    Calls Try.prog 78 #[.agg #[.string key, .slice At nt ct], .int .i64 left] w fun e w' => e = .returned (.int .i64 (left - key.size - nt)) ∧ Below w.heap.size w w' := by
  unfold maxLen at hk
  have hs := fun u => szIntS_p At nt ct (left - key.size) u (by omega) (by omega)
  have hq1 : ¬ left - (key.size : Int) < 0 := by omega
  have hq : ¬ left - (key.size : Int) - (nt : Int) < 0 := by omega
  go_enter Try.func78, Try.ntmps78
  go_wp2_with fail
  have k0 : Below w.heap.size w (w.alloc (.cells #[.string key, .slice At nt ct] 47)) := by go_grown
  have hk0 : Blk (w.alloc (.cells #[.string key, .slice At nt ct] 47)) w.heap.size 47 [.string key, .slice At nt ct] := Blk.new _ _ _
  generalize hW0 : (w.alloc (.cells #[.string key, .slice At nt ct] 47)) = w0 at *
  clear hW0
  have bx0 := hk0.at_ 0 _ rfl
  have bx1 := hk0.at_ 1 _ rfl
  refine (hs _).mono ?_
  rintro e w1 ⟨rfl, hw⟩
  have hb : Below w0.heap.size w0 w1 := by rw [← hw]; exact Below.refl _ _
  clear hw
  have k1 : Below w.heap.size w w1 := ext_step k0 k0.size hb
  replace bx0 := ccell hb _ _ _ bx0
  replace bx1 := ccell hb _ _ _ bx1
  clear hb
  go_wp2
  go_ret
  exact ⟨rfl, k1⟩
set_option maxHeartbeats 1000000 in
theorem szSpread_n1 (key : ByteArray) (At : Option Addr) (nt ct : Nat) (left : Int) (w : World) (hk : key.size ≤ maxLen) (hl : 0 ≤ left) (h0 : left < (key.size : Int)) (h1 : left ≤ 1048576) :
    Calls Try.prog 78 #[.agg #[.string key, .slice At nt ct], .int .i64 left] w fun e w' => e = .returned (.int .i64 (-1)) ∧ Below w.heap.size w w' := by
  unfold maxLen at hk
  have hq1 : left - (key.size : Int) < 0 := by omega
  go_enter Try.func78, Try.ntmps78
  go_wp2
  go_ret
  exact ⟨rfl, by go_grown⟩
set_option maxHeartbeats 1000000 in
theorem szSpread_n2 (key : ByteArray) (At : Option Addr) (nt ct : Nat) (left : Int) (w : World) (hk : key.size ≤ maxLen) (hl : (key.size : Int) ≤ left) (h0 : left < (key.size : Int) + nt) (h1 : left ≤ 1048576) (hm : nt ≤ 9223372036854775807) :
    Calls Try.prog 78 #[.agg #[.string key, .slice At nt ct], .int .i64 left] w fun e w' => e = .returned (.int .i64 (-1)) ∧ Below w.heap.size w w' := by
  unfold maxLen at hk
  have hs := fun u => szIntS_n At nt ct (left - key.size) u (by omega) (by omega) (by omega) hm
  have hq1 : ¬ left - (key.size : Int) < 0 := by omega
  go_enter Try.func78, Try.ntmps78
  go_wp2_with fail
  have k0 : Below w.heap.size w (w.alloc (.cells #[.string key, .slice At nt ct] 47)) := by go_grown
  have hk0 : Blk (w.alloc (.cells #[.string key, .slice At nt ct] 47)) w.heap.size 47 [.string key, .slice At nt ct] := Blk.new _ _ _
  generalize hW0 : (w.alloc (.cells #[.string key, .slice At nt ct] 47)) = w0 at *
  clear hW0
  have bx0 := hk0.at_ 0 _ rfl
  have bx1 := hk0.at_ 1 _ rfl
  refine (hs _).mono ?_
  rintro e w1 ⟨rfl, hw⟩
  have hb : Below w0.heap.size w0 w1 := by rw [← hw]; exact Below.refl _ _
  clear hw
  have k1 : Below w.heap.size w w1 := ext_step k0 k0.size hb
  replace bx0 := ccell hb _ _ _ bx0
  replace bx1 := ccell hb _ _ _ bx1
  clear hb
  go_wp2
  go_ret
  exact ⟨rfl, k1⟩
set_option maxHeartbeats 1000000 in
theorem szSteering_p (Ar : Option Addr) (nr cr : Nat) (As : Option Addr) (ns cs : Nat) (key : ByteArray) (At : Option Addr) (nt ct : Nat) (left : Int) (w : World) (hk : key.size ≤ maxLen) (h0 : (nr : Int) + ns + key.size + nt ≤ left) (h1 : left ≤ 1048576) :
    Calls Try.prog 21 #[.agg #[.slice Ar nr cr, .slice As ns cs, .string key, .slice At nt ct], .int .i64 left] w fun e w' => e = .returned (.int .i64 (left - nr - ns - key.size - nt)) ∧ Below w.heap.size w w' := by
  have hr := fun u => szRuleS_p Ar nr cr left u (by omega) h1
  have hs := fun u => szFlowTable_p As ns cs (left - nr) u (by omega) (by omega)
  have ht := fun u => szSpread_p key At nt ct (left - nr - ns) u hk (by omega) (by omega)
  have hq1 : ¬ left - (nr : Int) < 0 := by omega
  have hq2 : ¬ left - (nr : Int) - ns < 0 := by omega
  have hq3 : ¬ left - (nr : Int) - ns - key.size - nt < 0 := by omega
  go_enter Try.func21, Try.ntmps21
  go_wp2_with fail
  have k0 : Below w.heap.size w (w.alloc (.cells #[.slice Ar nr cr, .slice As ns cs, .string key, .slice At nt ct] 49)) := by go_grown
  have hk0 : Blk (w.alloc (.cells #[.slice Ar nr cr, .slice As ns cs, .string key, .slice At nt ct] 49)) w.heap.size 49 [.slice Ar nr cr, .slice As ns cs, .string key, .slice At nt ct] := Blk.new _ _ _
  generalize hW0 : (w.alloc (.cells #[.slice Ar nr cr, .slice As ns cs, .string key, .slice At nt ct] 49)) = w0 at *
  clear hW0
  have bx0 := hk0.at_ 0 _ rfl
  have bx1 := hk0.at_ 1 _ rfl
  have bx2 := hk0.at_ 2 _ rfl
  have bx3 := hk0.at_ 3 _ rfl
  refine (hr _).mono ?_
  rintro e w1 ⟨rfl, hw⟩
  have hb : Below w0.heap.size w0 w1 := by rw [← hw]; exact Below.refl _ _
  clear hw
  have k1 : Below w.heap.size w w1 := ext_step k0 k0.size hb
  replace bx0 := ccell hb _ _ _ bx0
  replace bx1 := ccell hb _ _ _ bx1
  replace bx2 := ccell hb _ _ _ bx2
  replace bx3 := ccell hb _ _ _ bx3
  clear hb
  go_wp2_with fail
  refine (hs _).mono ?_
  rintro e w2 ⟨rfl, hb⟩
  have k2 : Below w.heap.size w w2 := ext_step k1 k1.size hb
  replace bx0 := ccell hb _ _ _ bx0
  replace bx1 := ccell hb _ _ _ bx1
  replace bx2 := ccell hb _ _ _ bx2
  replace bx3 := ccell hb _ _ _ bx3
  clear hb
  go_wp2_with fail
  refine (ht _).mono ?_
  rintro e w3 ⟨rfl, hb⟩
  have k3 : Below w.heap.size w w3 := ext_step k2 k2.size hb
  replace bx0 := ccell hb _ _ _ bx0
  replace bx1 := ccell hb _ _ _ bx1
  replace bx2 := ccell hb _ _ _ bx2
  replace bx3 := ccell hb _ _ _ bx3
  clear hb
  go_wp2
  go_ret
  exact ⟨rfl, k3⟩
set_option maxHeartbeats 1000000 in
theorem szSteering_n1 (Ar : Option Addr) (nr cr : Nat) (As : Option Addr) (ns cs : Nat) (key : ByteArray) (At : Option Addr) (nt ct : Nat) (left : Int) (w : World) (hl : 0 ≤ left) (h0 : left < (nr : Int)) (h1 : left ≤ 1048576) (hm : nr ≤ 9223372036854775807) :
    Calls Try.prog 21 #[.agg #[.slice Ar nr cr, .slice As ns cs, .string key, .slice At nt ct], .int .i64 left] w fun e w' => e = .returned (.int .i64 (-1)) ∧ Below w.heap.size w w' := by
  have hr := fun u => szRuleS_n Ar nr cr left u hl h0 h1 hm
  go_enter Try.func21, Try.ntmps21
  go_wp2_with fail
  have k0 : Below w.heap.size w (w.alloc (.cells #[.slice Ar nr cr, .slice As ns cs, .string key, .slice At nt ct] 49)) := by go_grown
  have hk0 : Blk (w.alloc (.cells #[.slice Ar nr cr, .slice As ns cs, .string key, .slice At nt ct] 49)) w.heap.size 49 [.slice Ar nr cr, .slice As ns cs, .string key, .slice At nt ct] := Blk.new _ _ _
  generalize hW0 : (w.alloc (.cells #[.slice Ar nr cr, .slice As ns cs, .string key, .slice At nt ct] 49)) = w0 at *
  clear hW0
  have bx0 := hk0.at_ 0 _ rfl
  have bx1 := hk0.at_ 1 _ rfl
  have bx2 := hk0.at_ 2 _ rfl
  have bx3 := hk0.at_ 3 _ rfl
  refine (hr _).mono ?_
  rintro e w1 ⟨rfl, hw⟩
  have hb : Below w0.heap.size w0 w1 := by rw [← hw]; exact Below.refl _ _
  clear hw
  have k1 : Below w.heap.size w w1 := ext_step k0 k0.size hb
  replace bx0 := ccell hb _ _ _ bx0
  replace bx1 := ccell hb _ _ _ bx1
  replace bx2 := ccell hb _ _ _ bx2
  replace bx3 := ccell hb _ _ _ bx3
  clear hb
  go_wp2
  go_ret
  exact ⟨rfl, k1⟩
set_option maxHeartbeats 1000000 in
theorem szSteering_n2 (Ar : Option Addr) (nr cr : Nat) (As : Option Addr) (ns cs : Nat) (key : ByteArray) (At : Option Addr) (nt ct : Nat) (left : Int) (w : World) (hl : (nr : Int) ≤ left) (h0 : left < (nr : Int) + ns) (h1 : left ≤ 1048576) (hm : ns ≤ 9223372036854775807) :
    Calls Try.prog 21 #[.agg #[.slice Ar nr cr, .slice As ns cs, .string key, .slice At nt ct], .int .i64 left] w fun e w' => e = .returned (.int .i64 (-1)) ∧ Below w.heap.size w w' := by
  have hr := fun u => szRuleS_p Ar nr cr left u hl h1
  have hs := fun u => szFlowTable_n As ns cs (left - nr) u (by omega) (by omega) (by omega) hm
  have hq1 : ¬ left - (nr : Int) < 0 := by omega
  go_enter Try.func21, Try.ntmps21
  go_wp2_with fail
  have k0 : Below w.heap.size w (w.alloc (.cells #[.slice Ar nr cr, .slice As ns cs, .string key, .slice At nt ct] 49)) := by go_grown
  have hk0 : Blk (w.alloc (.cells #[.slice Ar nr cr, .slice As ns cs, .string key, .slice At nt ct] 49)) w.heap.size 49 [.slice Ar nr cr, .slice As ns cs, .string key, .slice At nt ct] := Blk.new _ _ _
  generalize hW0 : (w.alloc (.cells #[.slice Ar nr cr, .slice As ns cs, .string key, .slice At nt ct] 49)) = w0 at *
  clear hW0
  have bx0 := hk0.at_ 0 _ rfl
  have bx1 := hk0.at_ 1 _ rfl
  have bx2 := hk0.at_ 2 _ rfl
  have bx3 := hk0.at_ 3 _ rfl
  refine (hr _).mono ?_
  rintro e w1 ⟨rfl, hw⟩
  have hb : Below w0.heap.size w0 w1 := by rw [← hw]; exact Below.refl _ _
  clear hw
  have k1 : Below w.heap.size w w1 := ext_step k0 k0.size hb
  replace bx0 := ccell hb _ _ _ bx0
  replace bx1 := ccell hb _ _ _ bx1
  replace bx2 := ccell hb _ _ _ bx2
  replace bx3 := ccell hb _ _ _ bx3
  clear hb
  go_wp2_with fail
  refine (hs _).mono ?_
  rintro e w2 ⟨rfl, hb⟩
  have k2 : Below w.heap.size w w2 := ext_step k1 k1.size hb
  replace bx0 := ccell hb _ _ _ bx0
  replace bx1 := ccell hb _ _ _ bx1
  replace bx2 := ccell hb _ _ _ bx2
  replace bx3 := ccell hb _ _ _ bx3
  clear hb
  go_wp2
  go_ret
  exact ⟨rfl, k2⟩
set_option maxHeartbeats 1000000 in
theorem szSteering_n3 (Ar : Option Addr) (nr cr : Nat) (As : Option Addr) (ns cs : Nat) (key : ByteArray) (At : Option Addr) (nt ct : Nat) (left : Int) (w : World) (hk : key.size ≤ maxLen) (hl : (nr : Int) + ns ≤ left) (h0 : left < (nr : Int) + ns + key.size) (h1 : left ≤ 1048576) :
    Calls Try.prog 21 #[.agg #[.slice Ar nr cr, .slice As ns cs, .string key, .slice At nt ct], .int .i64 left] w fun e w' => e = .returned (.int .i64 (-1)) ∧ Below w.heap.size w w' := by
  have hr := fun u => szRuleS_p Ar nr cr left u (by omega) h1
  have hs := fun u => szFlowTable_p As ns cs (left - nr) u (by omega) (by omega)
  have ht := fun u => szSpread_n1 key At nt ct (left - nr - ns) u hk (by omega) (by omega) (by omega)
  have hq1 : ¬ left - (nr : Int) < 0 := by omega
  have hq2 : ¬ left - (nr : Int) - ns < 0 := by omega
  go_enter Try.func21, Try.ntmps21
  go_wp2_with fail
  have k0 : Below w.heap.size w (w.alloc (.cells #[.slice Ar nr cr, .slice As ns cs, .string key, .slice At nt ct] 49)) := by go_grown
  have hk0 : Blk (w.alloc (.cells #[.slice Ar nr cr, .slice As ns cs, .string key, .slice At nt ct] 49)) w.heap.size 49 [.slice Ar nr cr, .slice As ns cs, .string key, .slice At nt ct] := Blk.new _ _ _
  generalize hW0 : (w.alloc (.cells #[.slice Ar nr cr, .slice As ns cs, .string key, .slice At nt ct] 49)) = w0 at *
  clear hW0
  have bx0 := hk0.at_ 0 _ rfl
  have bx1 := hk0.at_ 1 _ rfl
  have bx2 := hk0.at_ 2 _ rfl
  have bx3 := hk0.at_ 3 _ rfl
  refine (hr _).mono ?_
  rintro e w1 ⟨rfl, hw⟩
  have hb : Below w0.heap.size w0 w1 := by rw [← hw]; exact Below.refl _ _
  clear hw
  have k1 : Below w.heap.size w w1 := ext_step k0 k0.size hb
  replace bx0 := ccell hb _ _ _ bx0
  replace bx1 := ccell hb _ _ _ bx1
  replace bx2 := ccell hb _ _ _ bx2
  replace bx3 := ccell hb _ _ _ bx3
  clear hb
  go_wp2_with fail
  refine (hs _).mono ?_
  rintro e w2 ⟨rfl, hb⟩
  have k2 : Below w.heap.size w w2 := ext_step k1 k1.size hb
  replace bx0 := ccell hb _ _ _ bx0
  replace bx1 := ccell hb _ _ _ bx1
  replace bx2 := ccell hb _ _ _ bx2
  replace bx3 := ccell hb _ _ _ bx3
  clear hb
  go_wp2_with fail
  refine (ht _).mono ?_
  rintro e w3 ⟨rfl, hb⟩
  have k3 : Below w.heap.size w w3 := ext_step k2 k2.size hb
  replace bx0 := ccell hb _ _ _ bx0
  replace bx1 := ccell hb _ _ _ bx1
  replace bx2 := ccell hb _ _ _ bx2
  replace bx3 := ccell hb _ _ _ bx3
  clear hb
  go_wp2
  go_ret
  exact ⟨rfl, k3⟩
set_option maxHeartbeats 1000000 in
theorem szSteering_n4 (Ar : Option Addr) (nr cr : Nat) (As : Option Addr) (ns cs : Nat) (key : ByteArray) (At : Option Addr) (nt ct : Nat) (left : Int) (w : World) (hk : key.size ≤ maxLen) (hl : (nr : Int) + ns + key.size ≤ left) (h0 : left < (nr : Int) + ns + key.size + nt) (h1 : left ≤ 1048576) (hm : nt ≤ 9223372036854775807) :
    Calls Try.prog 21 #[.agg #[.slice Ar nr cr, .slice As ns cs, .string key, .slice At nt ct], .int .i64 left] w fun e w' => e = .returned (.int .i64 (-1)) ∧ Below w.heap.size w w' := by
  have hr := fun u => szRuleS_p Ar nr cr left u (by omega) h1
  have hs := fun u => szFlowTable_p As ns cs (left - nr) u (by omega) (by omega)
  have ht := fun u => szSpread_n2 key At nt ct (left - nr - ns) u hk (by omega) (by omega) (by omega) hm
  have hq1 : ¬ left - (nr : Int) < 0 := by omega
  have hq2 : ¬ left - (nr : Int) - ns < 0 := by omega
  go_enter Try.func21, Try.ntmps21
  go_wp2_with fail
  have k0 : Below w.heap.size w (w.alloc (.cells #[.slice Ar nr cr, .slice As ns cs, .string key, .slice At nt ct] 49)) := by go_grown
  have hk0 : Blk (w.alloc (.cells #[.slice Ar nr cr, .slice As ns cs, .string key, .slice At nt ct] 49)) w.heap.size 49 [.slice Ar nr cr, .slice As ns cs, .string key, .slice At nt ct] := Blk.new _ _ _
  generalize hW0 : (w.alloc (.cells #[.slice Ar nr cr, .slice As ns cs, .string key, .slice At nt ct] 49)) = w0 at *
  clear hW0
  have bx0 := hk0.at_ 0 _ rfl
  have bx1 := hk0.at_ 1 _ rfl
  have bx2 := hk0.at_ 2 _ rfl
  have bx3 := hk0.at_ 3 _ rfl
  refine (hr _).mono ?_
  rintro e w1 ⟨rfl, hw⟩
  have hb : Below w0.heap.size w0 w1 := by rw [← hw]; exact Below.refl _ _
  clear hw
  have k1 : Below w.heap.size w w1 := ext_step k0 k0.size hb
  replace bx0 := ccell hb _ _ _ bx0
  replace bx1 := ccell hb _ _ _ bx1
  replace bx2 := ccell hb _ _ _ bx2
  replace bx3 := ccell hb _ _ _ bx3
  clear hb
  go_wp2_with fail
  refine (hs _).mono ?_
  rintro e w2 ⟨rfl, hb⟩
  have k2 : Below w.heap.size w w2 := ext_step k1 k1.size hb
  replace bx0 := ccell hb _ _ _ bx0
  replace bx1 := ccell hb _ _ _ bx1
  replace bx2 := ccell hb _ _ _ bx2
  replace bx3 := ccell hb _ _ _ bx3
  clear hb
  go_wp2_with fail
  refine (ht _).mono ?_
  rintro e w3 ⟨rfl, hb⟩
  have k3 : Below w.heap.size w w3 := ext_step k2 k2.size hb
  replace bx0 := ccell hb _ _ _ bx0
  replace bx1 := ccell hb _ _ _ bx1
  replace bx2 := ccell hb _ _ _ bx2
  replace bx3 := ccell hb _ _ _ bx3
  clear hb
  go_wp2
  go_ret
  exact ⟨rfl, k3⟩
theorem szSteering_n (Ar : Option Addr) (nr cr : Nat) (As : Option Addr) (ns cs : Nat) (key : ByteArray) (At : Option Addr) (nt ct : Nat) (left : Int) (w : World) (hk : key.size ≤ maxLen) (hl : 0 ≤ left) (h0 : left < (nr : Int) + ns + key.size + nt) (h1 : left ≤ 1048576) (hm1 : nr ≤ 9223372036854775807) (hm2 : ns ≤ 9223372036854775807) (hm3 : nt ≤ 9223372036854775807) :
    Calls Try.prog 21 #[.agg #[.slice Ar nr cr, .slice As ns cs, .string key, .slice At nt ct], .int .i64 left] w fun e w' => e = .returned (.int .i64 (-1)) ∧ Below w.heap.size w w' := by
  by_cases g1 : left < (nr : Int)
  · exact szSteering_n1 Ar nr cr As ns cs key At nt ct left w hl g1 h1 hm1
  · by_cases g2 : left < (nr : Int) + ns
    · exact szSteering_n2 Ar nr cr As ns cs key At nt ct left w (by omega) g2 h1 hm2
    · by_cases g3 : left < (nr : Int) + ns + key.size
      · exact szSteering_n3 Ar nr cr As ns cs key At nt ct left w hk (by omega) g3 h1
      · exact szSteering_n4 Ar nr cr As ns cs key At nt ct left w hk (by omega) h0 h1 hm3
/-- A steering that lies in rows of the call's own. -/
def SteO (base : Nat) (rs : List Rule) (l : List Slot) (key : ByteArray) (tb : List Int) (w : World) (v : Value) : Prop := ∃ A1 c1 A2 c2 A3 c3, v = .agg #[.slice A1 rs.length c1, .slice A2 l.length c2, .string key, .slice A3 tb.length c3] ∧ w.ownsRow base 121 9 (.slice A1 rs.length c1) rs.length (rs.flatMap Rule.cells) ∧ w.ownsRow base 124 7 (.slice A2 l.length c2) l.length (l.flatMap Slot.cells) ∧ w.ownsRow base 3 1 (.slice A3 tb.length c3) tb.length (tb.flatMap fun x : Int => [Value.int .i64 x])
theorem SteO.keep {base : Nat} {rs : List Rule} {l : List Slot} {key : ByteArray} {tb : List Int} {w w' : World} {v : Value} (h : SteO base rs l key tb w v) (hb : Below w.heap.size w w') : SteO base rs l key tb w' v := by
  obtain ⟨A1, c1, A2, c2, A3, c3, h0, h1, h2, h3⟩ := h
  exact ⟨A1, c1, A2, c2, A3, c3, h0, own_ext h1 hb, own_ext h2 hb, own_ext h3 hb⟩
theorem SteO.base {base base' : Nat} {rs : List Rule} {l : List Slot} {key : ByteArray} {tb : List Int} {w : World} {v : Value} (h : SteO base rs l key tb w v) (hb : base' ≤ base) : SteO base' rs l key tb w v := by
  obtain ⟨A1, c1, A2, c2, A3, c3, h0, h1, h2, h3⟩ := h
  exact ⟨A1, c1, A2, c2, A3, c3, h0, own_base h1 hb, own_base h2 hb, own_base h3 hb⟩
set_option maxRecDepth 100000 in
set_option maxHeartbeats 4000000 in
theorem toFlowTable_c (As : Option Addr) (ns cs : Nat) (l : List Slot) (w : World) (hns : l.length = ns) (hms : ns ≤ 1048576) (hrs : Reads w w.heap.size 7 As ns (l.flatMap Slot.cells)) :
    Calls Try.prog 84 #[.agg #[.slice As ns cs]] w fun e w' => ∃ A c, e = .returned (.agg #[.slice A ns c]) ∧ w'.ownsRow w.heap.size 124 7 (.slice A ns c) ns (l.flatMap Slot.cells) ∧ Below w.heap.size w w' := by
  go_enter Try.func84, Try.ntmps84
  go_wp2_with fail
  have k0 : Below w.heap.size w (((w.alloc (.cells #[.slice As ns cs] 44)).alloc (.cells #[.slice none 0 0] 55)).alloc (.cells #[.slice none 0 0] 55)) := by go_grown
  have bl0 : w.heap.size < (((w.alloc (.cells #[.slice As ns cs] 44)).alloc (.cells #[.slice none 0 0] 55)).alloc (.cells #[.slice none 0 0] 55)).heap.size := by go_size
  have hk0 : Blk (((w.alloc (.cells #[.slice As ns cs] 44)).alloc (.cells #[.slice none 0 0] 55)).alloc (.cells #[.slice none 0 0] 55)) (w.heap.size) 44 [.slice As ns cs] := by simpa using ((Blk.new w 44 [.slice As ns cs]).alloc (.cells #[.slice none 0 0] 55)).alloc (.cells #[.slice none 0 0] 55)
  have bl1 : w.heap.size + 1 < (((w.alloc (.cells #[.slice As ns cs] 44)).alloc (.cells #[.slice none 0 0] 55)).alloc (.cells #[.slice none 0 0] 55)).heap.size := by go_size
  have hk1 : Blk (((w.alloc (.cells #[.slice As ns cs] 44)).alloc (.cells #[.slice none 0 0] 55)).alloc (.cells #[.slice none 0 0] 55)) (w.heap.size + 1) 55 [.slice none 0 0] := by simpa using (Blk.new (w.alloc (.cells #[.slice As ns cs] 44)) 55 [.slice none 0 0]).alloc (.cells #[.slice none 0 0] 55)
  have bl2 : w.heap.size + 1 + 1 < (((w.alloc (.cells #[.slice As ns cs] 44)).alloc (.cells #[.slice none 0 0] 55)).alloc (.cells #[.slice none 0 0] 55)).heap.size := by go_size
  have hk2 : Blk (((w.alloc (.cells #[.slice As ns cs] 44)).alloc (.cells #[.slice none 0 0] 55)).alloc (.cells #[.slice none 0 0] 55)) (w.heap.size + 1 + 1) 55 [.slice none 0 0] := by simpa using Blk.new ((w.alloc (.cells #[.slice As ns cs] 44)).alloc (.cells #[.slice none 0 0] 55)) 55 [.slice none 0 0]
  have p0 := k0.size
  generalize hW0 : (((w.alloc (.cells #[.slice As ns cs] 44)).alloc (.cells #[.slice none 0 0] 55)).alloc (.cells #[.slice none 0 0] 55)) = w0 at *
  clear hW0
  refine (toSlotS_c As ns cs l _ hns hms ((hrs.below k0).more k0.size)).mono ?_
  rintro e w1 ⟨g_s, rfl, hg_s, b_s, hb⟩
  have k1 : Below w.heap.size w w1 := ext_step k0 (by omega) hb
  have p1 := hb.size
  replace hk0 := hk0.ext hb
  replace hk1 := hk1.ext hb
  replace hk2 := hk2.ext hb
  have bl0 := Nat.lt_of_lt_of_le bl0 hb.size
  have bl1 := Nat.lt_of_lt_of_le bl1 hb.size
  have bl2 := Nat.lt_of_lt_of_le bl2 hb.size
  have o_s := b_s.own (base := w0.heap.size) (size := 7) (n := ns) hg_s (by rw [flatMap_len _ 7 (fun _ => rfl), hns]) (by unfold maxLen; omega) rfl
  have r_s := Reads.of_own o_s
  have u_s := fun k hk => (o_s.lt k hk).2
  clear hb
  have bx2_0 := hk2.at_ 0 _ rfl
  have fz2_0 := hk2.frozen 0
  have bx1_0 := hk1.at_ 0 _ rfl
  have fz1_0 := hk1.frozen 0
  have bx0_0 := hk0.at_ 0 _ rfl
  go_wp2_with fail
  have hc : ChgA (w.heap.size + 1 + 1) w1 (w1.setCell ⟨w.heap.size + 1 + 1, 0, none⟩ (.slice (some ⟨g_s, 0, none⟩) ns ns)) := (ChgA.refl _ _).set _ _
  have hko := hk2
  replace hk0 := hk0.chgA hc (by omega)
  replace hk1 := hk1.chgA hc (by omega)
  replace hk2 : Blk (w1.setCell ⟨w.heap.size + 1 + 1, 0, none⟩ (.slice (some ⟨g_s, 0, none⟩) ns ns)) (w.heap.size + 1 + 1) 55 [.slice (some ⟨g_s, 0, none⟩) ns ns] := hk2.set_ 0 _
  have k2 : Below w.heap.size w (w1.setCell ⟨w.heap.size + 1 + 1, 0, none⟩ (.slice (some ⟨g_s, 0, none⟩) ns ns)) := hc.below (by omega) k1
  have p2 : (w1.setCell ⟨w.heap.size + 1 + 1, 0, none⟩ (.slice (some ⟨g_s, 0, none⟩) ns ns)).heap.size = w1.heap.size := hc.size
  have bl0 := Nat.lt_of_lt_of_le bl0 (Nat.le_of_eq p2.symm)
  have bl1 := Nat.lt_of_lt_of_le bl1 (Nat.le_of_eq p2.symm)
  have bl2 := Nat.lt_of_lt_of_le bl2 (Nat.le_of_eq p2.symm)
  replace o_s := own_chgA o_s hc (by first | exact own_ty o_s hko (by decide) | exact fun k hk => by have h1 := o_s.lt k hk; omega | exact fun k hk => by have h1 := u_s k hk; omega)
  replace r_s := Reads.of_own o_s
  generalize hW0 : (w1.setCell ⟨w.heap.size + 1 + 1, 0, none⟩ (.slice (some ⟨g_s, 0, none⟩) ns ns)) = w2 at *
  clear hW0 hc hko
  clear bx2_0 fz2_0 bx1_0 fz1_0 bx0_0
  have hko := hk1
  have hcc := ChgA.refl (w.heap.size + 1) w2
  obtain ⟨w3, hW0⟩ : ∃ W, W = w2.setCell ⟨w.heap.size + 1, 0, none⟩ (.slice (some ⟨g_s, 0, none⟩) ns ns) := ⟨_, rfl⟩
  replace hcc : ChgA (w.heap.size + 1) w2 w3 := by rw [hW0]; exact hcc.set _ _
  replace hk1 : Blk w3 (w.heap.size + 1) 55 [.slice (some ⟨g_s, 0, none⟩) ns ns] := by rw [hW0]; exact hk1.set_ 0 _
  rw [← hW0]
  clear hW0
  have hc := hcc
  replace o_s := own_chgA o_s hc (own_ty o_s hko (by decide))
  replace hk0 := hk0.chgA hc (by omega)
  replace hk2 := hk2.chgA hc (by omega)
  have k3 := hc.below (by omega) k2
  have p3 := hc.size
  replace bl0 := Nat.lt_of_lt_of_le bl0 (Nat.le_of_eq p3.symm)
  replace bl1 := Nat.lt_of_lt_of_le bl1 (Nat.le_of_eq p3.symm)
  replace bl2 := Nat.lt_of_lt_of_le bl2 (Nat.le_of_eq p3.symm)
  clear hc hcc
  have hv := loadVar_blk (P := Try.prog) hk1 (n := 1) rfl (by simp [go_sem]) (by simp [go_sem])
  refine bodyPost_ret (v := .agg #[.slice (some ⟨g_s, 0, none⟩) ns ns]) (by simp [results, Try.results84, asAddr, Result.andThen, hv]) rfl ?_
  exact ⟨_, _, rfl, own_base o_s (by omega), k3⟩
set_option maxRecDepth 100000 in
set_option maxHeartbeats 4000000 in
theorem toSpread_c (key : ByteArray) (At : Option Addr) (nt ct : Nat) (tb : List Int) (w : World) (hnt : tb.length = nt) (hmt : nt ≤ 1048576) (hrt : Reads w w.heap.size 1 At nt (tb.flatMap fun x : Int => [Value.int .i64 x])) :
    Calls Try.prog 85 #[.agg #[.string key, .slice At nt ct]] w fun e w' => ∃ A c, e = .returned (.agg #[.string key, .slice A nt c]) ∧ w'.ownsRow w.heap.size 3 1 (.slice A nt c) nt (tb.flatMap fun x : Int => [Value.int .i64 x]) ∧ Below w.heap.size w w' := by
  go_enter Try.func85, Try.ntmps85
  go_wp2_with fail
  have k0 : Below w.heap.size w (((w.alloc (.cells #[.string key, .slice At nt ct] 47)).alloc (.cells #[.string ⟨#[]⟩, .slice none 0 0] 56)).alloc (.cells #[.string key, .slice none 0 0] 56)) := by go_grown
  have bl0 : w.heap.size < (((w.alloc (.cells #[.string key, .slice At nt ct] 47)).alloc (.cells #[.string ⟨#[]⟩, .slice none 0 0] 56)).alloc (.cells #[.string key, .slice none 0 0] 56)).heap.size := by go_size
  have hk0 : Blk (((w.alloc (.cells #[.string key, .slice At nt ct] 47)).alloc (.cells #[.string ⟨#[]⟩, .slice none 0 0] 56)).alloc (.cells #[.string key, .slice none 0 0] 56)) (w.heap.size) 47 [.string key, .slice At nt ct] := by simpa using ((Blk.new w 47 [.string key, .slice At nt ct]).alloc (.cells #[.string ⟨#[]⟩, .slice none 0 0] 56)).alloc (.cells #[.string key, .slice none 0 0] 56)
  have bl1 : w.heap.size + 1 < (((w.alloc (.cells #[.string key, .slice At nt ct] 47)).alloc (.cells #[.string ⟨#[]⟩, .slice none 0 0] 56)).alloc (.cells #[.string key, .slice none 0 0] 56)).heap.size := by go_size
  have hk1 : Blk (((w.alloc (.cells #[.string key, .slice At nt ct] 47)).alloc (.cells #[.string ⟨#[]⟩, .slice none 0 0] 56)).alloc (.cells #[.string key, .slice none 0 0] 56)) (w.heap.size + 1) 56 [.string ⟨#[]⟩, .slice none 0 0] := by simpa using (Blk.new (w.alloc (.cells #[.string key, .slice At nt ct] 47)) 56 [.string ⟨#[]⟩, .slice none 0 0]).alloc (.cells #[.string key, .slice none 0 0] 56)
  have bl2 : w.heap.size + 1 + 1 < (((w.alloc (.cells #[.string key, .slice At nt ct] 47)).alloc (.cells #[.string ⟨#[]⟩, .slice none 0 0] 56)).alloc (.cells #[.string key, .slice none 0 0] 56)).heap.size := by go_size
  have hk2 : Blk (((w.alloc (.cells #[.string key, .slice At nt ct] 47)).alloc (.cells #[.string ⟨#[]⟩, .slice none 0 0] 56)).alloc (.cells #[.string key, .slice none 0 0] 56)) (w.heap.size + 1 + 1) 56 [.string key, .slice none 0 0] := by simpa using Blk.new ((w.alloc (.cells #[.string key, .slice At nt ct] 47)).alloc (.cells #[.string ⟨#[]⟩, .slice none 0 0] 56)) 56 [.string key, .slice none 0 0]
  have p0 := k0.size
  generalize hW0 : (((w.alloc (.cells #[.string key, .slice At nt ct] 47)).alloc (.cells #[.string ⟨#[]⟩, .slice none 0 0] 56)).alloc (.cells #[.string key, .slice none 0 0] 56)) = w0 at *
  clear hW0
  refine (toIntS_c At nt ct tb _ hnt hmt ((hrt.below k0).more k0.size)).mono ?_
  rintro e w1 ⟨g_t, rfl, hg_t, b_t, hb⟩
  have k1 : Below w.heap.size w w1 := ext_step k0 (by omega) hb
  have p1 := hb.size
  replace hk0 := hk0.ext hb
  replace hk1 := hk1.ext hb
  replace hk2 := hk2.ext hb
  have bl0 := Nat.lt_of_lt_of_le bl0 hb.size
  have bl1 := Nat.lt_of_lt_of_le bl1 hb.size
  have bl2 := Nat.lt_of_lt_of_le bl2 hb.size
  have o_t := b_t.own (base := w0.heap.size) (size := 1) (n := nt) hg_t (by rw [flatMap_len _ 1 (fun _ => rfl), hnt]) (by unfold maxLen; omega) rfl
  have r_t := Reads.of_own o_t
  have u_t := fun k hk => (o_t.lt k hk).2
  clear hb
  have bx2_0 := hk2.at_ 0 _ rfl
  have fz2_0 := hk2.frozen 0
  have bx2_1 := hk2.at_ 1 _ rfl
  have fz2_1 := hk2.frozen 1
  have bx1_0 := hk1.at_ 0 _ rfl
  have fz1_0 := hk1.frozen 0
  have bx1_1 := hk1.at_ 1 _ rfl
  have fz1_1 := hk1.frozen 1
  have bx0_0 := hk0.at_ 0 _ rfl
  have bx0_1 := hk0.at_ 1 _ rfl
  go_wp2_with fail
  have hc : ChgA (w.heap.size + 1 + 1) w1 (w1.setCell ⟨w.heap.size + 1 + 1, 1, none⟩ (.slice (some ⟨g_t, 0, none⟩) nt nt)) := (ChgA.refl _ _).set _ _
  have hko := hk2
  replace hk0 := hk0.chgA hc (by omega)
  replace hk1 := hk1.chgA hc (by omega)
  replace hk2 : Blk (w1.setCell ⟨w.heap.size + 1 + 1, 1, none⟩ (.slice (some ⟨g_t, 0, none⟩) nt nt)) (w.heap.size + 1 + 1) 56 [.string key, .slice (some ⟨g_t, 0, none⟩) nt nt] := hk2.set_ 1 _
  have k2 : Below w.heap.size w (w1.setCell ⟨w.heap.size + 1 + 1, 1, none⟩ (.slice (some ⟨g_t, 0, none⟩) nt nt)) := hc.below (by omega) k1
  have p2 : (w1.setCell ⟨w.heap.size + 1 + 1, 1, none⟩ (.slice (some ⟨g_t, 0, none⟩) nt nt)).heap.size = w1.heap.size := hc.size
  have bl0 := Nat.lt_of_lt_of_le bl0 (Nat.le_of_eq p2.symm)
  have bl1 := Nat.lt_of_lt_of_le bl1 (Nat.le_of_eq p2.symm)
  have bl2 := Nat.lt_of_lt_of_le bl2 (Nat.le_of_eq p2.symm)
  replace o_t := own_chgA o_t hc (by first | exact own_ty o_t hko (by decide) | exact fun k hk => by have h1 := o_t.lt k hk; omega | exact fun k hk => by have h1 := u_t k hk; omega)
  replace r_t := Reads.of_own o_t
  generalize hW0 : (w1.setCell ⟨w.heap.size + 1 + 1, 1, none⟩ (.slice (some ⟨g_t, 0, none⟩) nt nt)) = w2 at *
  clear hW0 hc hko
  clear bx2_0 fz2_0 bx2_1 fz2_1 bx1_0 fz1_0 bx1_1 fz1_1 bx0_0 bx0_1
  have hko := hk1
  have hcc := ChgA.refl (w.heap.size + 1) w2
  obtain ⟨w3_0, hW0⟩ : ∃ W, W = w2.setCell ⟨w.heap.size + 1, 0, none⟩ (.string key) := ⟨_, rfl⟩
  replace hcc : ChgA (w.heap.size + 1) w2 w3_0 := by rw [hW0]; exact hcc.set _ _
  replace hk1 : Blk w3_0 (w.heap.size + 1) 56 [.string key, .slice none 0 0] := by rw [hW0]; exact hk1.set_ 0 _
  rw [← hW0]
  clear hW0
  obtain ⟨w3, hW0⟩ : ∃ W, W = w3_0.setCell ⟨w.heap.size + 1, 1, none⟩ (.slice (some ⟨g_t, 0, none⟩) nt nt) := ⟨_, rfl⟩
  replace hcc : ChgA (w.heap.size + 1) w2 w3 := by rw [hW0]; exact hcc.set _ _
  replace hk1 : Blk w3 (w.heap.size + 1) 56 [.string key, .slice (some ⟨g_t, 0, none⟩) nt nt] := by rw [hW0]; exact hk1.set_ 1 _
  rw [← hW0]
  clear hW0
  have hc := hcc
  replace o_t := own_chgA o_t hc (own_ty o_t hko (by decide))
  replace hk0 := hk0.chgA hc (by omega)
  replace hk2 := hk2.chgA hc (by omega)
  have k3 := hc.below (by omega) k2
  have p3 := hc.size
  replace bl0 := Nat.lt_of_lt_of_le bl0 (Nat.le_of_eq p3.symm)
  replace bl1 := Nat.lt_of_lt_of_le bl1 (Nat.le_of_eq p3.symm)
  replace bl2 := Nat.lt_of_lt_of_le bl2 (Nat.le_of_eq p3.symm)
  clear hc hcc
  have hv := loadVar_blk (P := Try.prog) hk1 (n := 2) rfl (by simp [go_sem]) (by simp [go_sem])
  refine bodyPost_ret (v := .agg #[.string key, .slice (some ⟨g_t, 0, none⟩) nt nt]) (by simp [results, Try.results85, asAddr, Result.andThen, hv]) rfl ?_
  exact ⟨_, _, rfl, own_base o_t (by omega), k3⟩
set_option maxRecDepth 100000 in
set_option maxHeartbeats 4000000 in
theorem toSteering_c (Ar : Option Addr) (nr cr : Nat) (rs : List Rule) (As : Option Addr) (ns cs : Nat) (l : List Slot) (key : ByteArray) (At : Option Addr) (nt ct : Nat) (tb : List Int) (w : World) (hnr : rs.length = nr) (hmr : nr ≤ 1048576) (hrr : Reads w w.heap.size 9 Ar nr (rs.flatMap Rule.cells)) (hns : l.length = ns) (hms : ns ≤ 1048576) (hrs : Reads w w.heap.size 7 As ns (l.flatMap Slot.cells)) (hnt : tb.length = nt) (hmt : nt ≤ 1048576) (hrt : Reads w w.heap.size 1 At nt (tb.flatMap fun x : Int => [Value.int .i64 x])) :
    Calls Try.prog 23 #[.agg #[.slice Ar nr cr, .slice As ns cs, .string key, .slice At nt ct]] w fun e w' => ∃ v, e = .returned v ∧ SteO w.heap.size rs l key tb w' v ∧ Below w.heap.size w w' := by
  go_enter Try.func23, Try.ntmps23
  go_wp2_with fail
  have k0 : Below w.heap.size w (((w.alloc (.cells #[.slice Ar nr cr, .slice As ns cs, .string key, .slice At nt ct] 49)).alloc (.cells #[.slice none 0 0, .slice none 0 0, .string ⟨#[]⟩, .slice none 0 0] 58)).alloc (.cells #[.slice none 0 0, .slice none 0 0, .string ⟨#[]⟩, .slice none 0 0] 58)) := by go_grown
  have bl0 : w.heap.size < (((w.alloc (.cells #[.slice Ar nr cr, .slice As ns cs, .string key, .slice At nt ct] 49)).alloc (.cells #[.slice none 0 0, .slice none 0 0, .string ⟨#[]⟩, .slice none 0 0] 58)).alloc (.cells #[.slice none 0 0, .slice none 0 0, .string ⟨#[]⟩, .slice none 0 0] 58)).heap.size := by go_size
  have hk0 : Blk (((w.alloc (.cells #[.slice Ar nr cr, .slice As ns cs, .string key, .slice At nt ct] 49)).alloc (.cells #[.slice none 0 0, .slice none 0 0, .string ⟨#[]⟩, .slice none 0 0] 58)).alloc (.cells #[.slice none 0 0, .slice none 0 0, .string ⟨#[]⟩, .slice none 0 0] 58)) (w.heap.size) 49 [.slice Ar nr cr, .slice As ns cs, .string key, .slice At nt ct] := by simpa using ((Blk.new w 49 [.slice Ar nr cr, .slice As ns cs, .string key, .slice At nt ct]).alloc (.cells #[.slice none 0 0, .slice none 0 0, .string ⟨#[]⟩, .slice none 0 0] 58)).alloc (.cells #[.slice none 0 0, .slice none 0 0, .string ⟨#[]⟩, .slice none 0 0] 58)
  have bl1 : w.heap.size + 1 < (((w.alloc (.cells #[.slice Ar nr cr, .slice As ns cs, .string key, .slice At nt ct] 49)).alloc (.cells #[.slice none 0 0, .slice none 0 0, .string ⟨#[]⟩, .slice none 0 0] 58)).alloc (.cells #[.slice none 0 0, .slice none 0 0, .string ⟨#[]⟩, .slice none 0 0] 58)).heap.size := by go_size
  have hk1 : Blk (((w.alloc (.cells #[.slice Ar nr cr, .slice As ns cs, .string key, .slice At nt ct] 49)).alloc (.cells #[.slice none 0 0, .slice none 0 0, .string ⟨#[]⟩, .slice none 0 0] 58)).alloc (.cells #[.slice none 0 0, .slice none 0 0, .string ⟨#[]⟩, .slice none 0 0] 58)) (w.heap.size + 1) 58 [.slice none 0 0, .slice none 0 0, .string ⟨#[]⟩, .slice none 0 0] := by simpa using (Blk.new (w.alloc (.cells #[.slice Ar nr cr, .slice As ns cs, .string key, .slice At nt ct] 49)) 58 [.slice none 0 0, .slice none 0 0, .string ⟨#[]⟩, .slice none 0 0]).alloc (.cells #[.slice none 0 0, .slice none 0 0, .string ⟨#[]⟩, .slice none 0 0] 58)
  have bl2 : w.heap.size + 1 + 1 < (((w.alloc (.cells #[.slice Ar nr cr, .slice As ns cs, .string key, .slice At nt ct] 49)).alloc (.cells #[.slice none 0 0, .slice none 0 0, .string ⟨#[]⟩, .slice none 0 0] 58)).alloc (.cells #[.slice none 0 0, .slice none 0 0, .string ⟨#[]⟩, .slice none 0 0] 58)).heap.size := by go_size
  have hk2 : Blk (((w.alloc (.cells #[.slice Ar nr cr, .slice As ns cs, .string key, .slice At nt ct] 49)).alloc (.cells #[.slice none 0 0, .slice none 0 0, .string ⟨#[]⟩, .slice none 0 0] 58)).alloc (.cells #[.slice none 0 0, .slice none 0 0, .string ⟨#[]⟩, .slice none 0 0] 58)) (w.heap.size + 1 + 1) 58 [.slice none 0 0, .slice none 0 0, .string ⟨#[]⟩, .slice none 0 0] := by simpa using Blk.new ((w.alloc (.cells #[.slice Ar nr cr, .slice As ns cs, .string key, .slice At nt ct] 49)).alloc (.cells #[.slice none 0 0, .slice none 0 0, .string ⟨#[]⟩, .slice none 0 0] 58)) 58 [.slice none 0 0, .slice none 0 0, .string ⟨#[]⟩, .slice none 0 0]
  have p0 := k0.size
  generalize hW0 : (((w.alloc (.cells #[.slice Ar nr cr, .slice As ns cs, .string key, .slice At nt ct] 49)).alloc (.cells #[.slice none 0 0, .slice none 0 0, .string ⟨#[]⟩, .slice none 0 0] 58)).alloc (.cells #[.slice none 0 0, .slice none 0 0, .string ⟨#[]⟩, .slice none 0 0] 58)) = w0 at *
  clear hW0
  refine (toRuleS_c Ar nr cr rs _ hnr hmr ((hrr.below k0).more k0.size)).mono ?_
  rintro e w1 ⟨g_r, rfl, hg_r, b_r, hb⟩
  have k1 : Below w.heap.size w w1 := ext_step k0 (by omega) hb
  have p1 := hb.size
  replace hk0 := hk0.ext hb
  replace hk1 := hk1.ext hb
  replace hk2 := hk2.ext hb
  have bl0 := Nat.lt_of_lt_of_le bl0 hb.size
  have bl1 := Nat.lt_of_lt_of_le bl1 hb.size
  have bl2 := Nat.lt_of_lt_of_le bl2 hb.size
  have o_r := b_r.own (base := w0.heap.size) (size := 9) (n := nr) hg_r (by rw [flatMap_len _ 9 (fun _ => rfl), hnr]) (by unfold maxLen; omega) rfl
  have r_r := Reads.of_own o_r
  have u_r := fun k hk => (o_r.lt k hk).2
  clear hb
  have bx2_0 := hk2.at_ 0 _ rfl
  have fz2_0 := hk2.frozen 0
  have bx2_1 := hk2.at_ 1 _ rfl
  have fz2_1 := hk2.frozen 1
  have bx2_2 := hk2.at_ 2 _ rfl
  have fz2_2 := hk2.frozen 2
  have bx2_3 := hk2.at_ 3 _ rfl
  have fz2_3 := hk2.frozen 3
  have bx0_0 := hk0.at_ 0 _ rfl
  have bx0_1 := hk0.at_ 1 _ rfl
  have bx0_2 := hk0.at_ 2 _ rfl
  have bx0_3 := hk0.at_ 3 _ rfl
  go_wp2_with fail
  have hc : ChgA (w.heap.size + 1 + 1) w1 (w1.setCell ⟨w.heap.size + 1 + 1, 0, none⟩ (.slice (some ⟨g_r, 0, none⟩) nr nr)) := (ChgA.refl _ _).set _ _
  have hko := hk2
  replace hk0 := hk0.chgA hc (by omega)
  replace hk1 := hk1.chgA hc (by omega)
  replace hk2 : Blk (w1.setCell ⟨w.heap.size + 1 + 1, 0, none⟩ (.slice (some ⟨g_r, 0, none⟩) nr nr)) (w.heap.size + 1 + 1) 58 [.slice (some ⟨g_r, 0, none⟩) nr nr, .slice none 0 0, .string ⟨#[]⟩, .slice none 0 0] := hk2.set_ 0 _
  have k2 : Below w.heap.size w (w1.setCell ⟨w.heap.size + 1 + 1, 0, none⟩ (.slice (some ⟨g_r, 0, none⟩) nr nr)) := hc.below (by omega) k1
  have p2 : (w1.setCell ⟨w.heap.size + 1 + 1, 0, none⟩ (.slice (some ⟨g_r, 0, none⟩) nr nr)).heap.size = w1.heap.size := hc.size
  have bl0 := Nat.lt_of_lt_of_le bl0 (Nat.le_of_eq p2.symm)
  have bl1 := Nat.lt_of_lt_of_le bl1 (Nat.le_of_eq p2.symm)
  have bl2 := Nat.lt_of_lt_of_le bl2 (Nat.le_of_eq p2.symm)
  replace o_r := own_chgA o_r hc (by first | exact own_ty o_r hko (by decide) | exact fun k hk => by have h1 := o_r.lt k hk; omega | exact fun k hk => by have h1 := u_r k hk; omega)
  replace r_r := Reads.of_own o_r
  generalize hW0 : (w1.setCell ⟨w.heap.size + 1 + 1, 0, none⟩ (.slice (some ⟨g_r, 0, none⟩) nr nr)) = w2 at *
  clear hW0 hc hko
  clear bx2_0 fz2_0 bx2_1 fz2_1 bx2_2 fz2_2 bx2_3 fz2_3 bx0_0 bx0_1 bx0_2 bx0_3
  have bx0_1 := hk0.at_ 1 _ rfl
  go_wp2_with fail
  refine (toFlowTable_c As ns cs l _ hns hms ((hrs.below k2).more k2.size)).mono ?_
  rintro e w3 ⟨A_s, c_s, rfl, o_s, hb⟩
  have k3 : Below w.heap.size w w3 := ext_step k2 (by omega) hb
  have p3 := hb.size
  replace hk0 := hk0.ext hb
  replace hk1 := hk1.ext hb
  replace hk2 := hk2.ext hb
  clear bx0_1
  have bl0 := Nat.lt_of_lt_of_le bl0 hb.size
  have bl1 := Nat.lt_of_lt_of_le bl1 hb.size
  have bl2 := Nat.lt_of_lt_of_le bl2 hb.size
  replace r_r := r_r.below (hb.mono (by omega))
  replace o_r := own_ext o_r hb
  have r_s := Reads.of_own o_s
  have u_s := fun k hk => (o_s.lt k hk).2
  clear hb
  have bx2_0 := hk2.at_ 0 _ rfl
  have fz2_0 := hk2.frozen 0
  have bx2_1 := hk2.at_ 1 _ rfl
  have fz2_1 := hk2.frozen 1
  have bx2_2 := hk2.at_ 2 _ rfl
  have fz2_2 := hk2.frozen 2
  have bx2_3 := hk2.at_ 3 _ rfl
  have fz2_3 := hk2.frozen 3
  have bx0_0 := hk0.at_ 0 _ rfl
  have bx0_1 := hk0.at_ 1 _ rfl
  have bx0_2 := hk0.at_ 2 _ rfl
  have bx0_3 := hk0.at_ 3 _ rfl
  go_wp2_with fail
  have hc : ChgA (w.heap.size + 1 + 1) w3 (w3.setCell ⟨w.heap.size + 1 + 1, 1, none⟩ (.slice A_s ns c_s)) := (ChgA.refl _ _).set _ _
  have hko := hk2
  replace hk0 := hk0.chgA hc (by omega)
  replace hk1 := hk1.chgA hc (by omega)
  replace hk2 : Blk (w3.setCell ⟨w.heap.size + 1 + 1, 1, none⟩ (.slice A_s ns c_s)) (w.heap.size + 1 + 1) 58 [.slice (some ⟨g_r, 0, none⟩) nr nr, .slice A_s ns c_s, .string ⟨#[]⟩, .slice none 0 0] := hk2.set_ 1 _
  have k4 : Below w.heap.size w (w3.setCell ⟨w.heap.size + 1 + 1, 1, none⟩ (.slice A_s ns c_s)) := hc.below (by omega) k3
  have p4 : (w3.setCell ⟨w.heap.size + 1 + 1, 1, none⟩ (.slice A_s ns c_s)).heap.size = w3.heap.size := hc.size
  have bl0 := Nat.lt_of_lt_of_le bl0 (Nat.le_of_eq p4.symm)
  have bl1 := Nat.lt_of_lt_of_le bl1 (Nat.le_of_eq p4.symm)
  have bl2 := Nat.lt_of_lt_of_le bl2 (Nat.le_of_eq p4.symm)
  replace o_r := own_chgA o_r hc (by first | exact own_ty o_r hko (by decide) | exact fun k hk => by have h1 := o_r.lt k hk; omega | exact fun k hk => by have h1 := u_r k hk; omega)
  replace r_r := Reads.of_own o_r
  replace o_s := own_chgA o_s hc (by first | exact own_ty o_s hko (by decide) | exact fun k hk => by have h1 := o_s.lt k hk; omega | exact fun k hk => by have h1 := u_s k hk; omega)
  replace r_s := Reads.of_own o_s
  generalize hW0 : (w3.setCell ⟨w.heap.size + 1 + 1, 1, none⟩ (.slice A_s ns c_s)) = w4 at *
  clear hW0 hc hko
  clear bx2_0 fz2_0 bx2_1 fz2_1 bx2_2 fz2_2 bx2_3 fz2_3 bx0_0 bx0_1 bx0_2 bx0_3
  have bx0_2 := hk0.at_ 2 _ rfl
  have bx0_3 := hk0.at_ 3 _ rfl
  go_wp2_with fail
  refine (toSpread_c key At nt ct tb _ hnt hmt ((hrt.below k4).more k4.size)).mono ?_
  rintro e w5 ⟨A_t, c_t, rfl, o_t, hb⟩
  have k5 : Below w.heap.size w w5 := ext_step k4 (by omega) hb
  have p5 := hb.size
  replace hk0 := hk0.ext hb
  replace hk1 := hk1.ext hb
  replace hk2 := hk2.ext hb
  clear bx0_2 bx0_3
  have bl0 := Nat.lt_of_lt_of_le bl0 hb.size
  have bl1 := Nat.lt_of_lt_of_le bl1 hb.size
  have bl2 := Nat.lt_of_lt_of_le bl2 hb.size
  replace r_r := r_r.below (hb.mono (by omega))
  replace o_r := own_ext o_r hb
  replace r_s := r_s.below (hb.mono (by omega))
  replace o_s := own_ext o_s hb
  have r_t := Reads.of_own o_t
  have u_t := fun k hk => (o_t.lt k hk).2
  clear hb
  have bx2_0 := hk2.at_ 0 _ rfl
  have fz2_0 := hk2.frozen 0
  have bx2_1 := hk2.at_ 1 _ rfl
  have fz2_1 := hk2.frozen 1
  have bx2_2 := hk2.at_ 2 _ rfl
  have fz2_2 := hk2.frozen 2
  have bx2_3 := hk2.at_ 3 _ rfl
  have fz2_3 := hk2.frozen 3
  have bx1_0 := hk1.at_ 0 _ rfl
  have fz1_0 := hk1.frozen 0
  have bx1_1 := hk1.at_ 1 _ rfl
  have fz1_1 := hk1.frozen 1
  have bx1_2 := hk1.at_ 2 _ rfl
  have fz1_2 := hk1.frozen 2
  have bx1_3 := hk1.at_ 3 _ rfl
  have fz1_3 := hk1.frozen 3
  have bx0_0 := hk0.at_ 0 _ rfl
  have bx0_1 := hk0.at_ 1 _ rfl
  have bx0_2 := hk0.at_ 2 _ rfl
  have bx0_3 := hk0.at_ 3 _ rfl
  go_wp2_with fail
  have hc : ChgA (w.heap.size + 1 + 1) w5 (w5.setCell ⟨w.heap.size + 1 + 1, 2, none⟩ (.string key)) := (ChgA.refl _ _).set _ _
  have hko := hk2
  replace hk0 := hk0.chgA hc (by omega)
  replace hk1 := hk1.chgA hc (by omega)
  replace hk2 : Blk (w5.setCell ⟨w.heap.size + 1 + 1, 2, none⟩ (.string key)) (w.heap.size + 1 + 1) 58 [.slice (some ⟨g_r, 0, none⟩) nr nr, .slice A_s ns c_s, .string key, .slice none 0 0] := hk2.set_ 2 _
  have k6 : Below w.heap.size w (w5.setCell ⟨w.heap.size + 1 + 1, 2, none⟩ (.string key)) := hc.below (by omega) k5
  have p6 : (w5.setCell ⟨w.heap.size + 1 + 1, 2, none⟩ (.string key)).heap.size = w5.heap.size := hc.size
  have bl0 := Nat.lt_of_lt_of_le bl0 (Nat.le_of_eq p6.symm)
  have bl1 := Nat.lt_of_lt_of_le bl1 (Nat.le_of_eq p6.symm)
  have bl2 := Nat.lt_of_lt_of_le bl2 (Nat.le_of_eq p6.symm)
  replace o_r := own_chgA o_r hc (by first | exact own_ty o_r hko (by decide) | exact fun k hk => by have h1 := o_r.lt k hk; omega | exact fun k hk => by have h1 := u_r k hk; omega)
  replace r_r := Reads.of_own o_r
  replace o_s := own_chgA o_s hc (by first | exact own_ty o_s hko (by decide) | exact fun k hk => by have h1 := o_s.lt k hk; omega | exact fun k hk => by have h1 := u_s k hk; omega)
  replace r_s := Reads.of_own o_s
  replace o_t := own_chgA o_t hc (by first | exact own_ty o_t hko (by decide) | exact fun k hk => by have h1 := o_t.lt k hk; omega | exact fun k hk => by have h1 := u_t k hk; omega)
  replace r_t := Reads.of_own o_t
  generalize hW0 : (w5.setCell ⟨w.heap.size + 1 + 1, 2, none⟩ (.string key)) = w6 at *
  clear hW0 hc hko
  clear bx2_0 fz2_0 bx2_1 fz2_1 bx2_2 fz2_2 bx2_3 fz2_3 bx1_0 fz1_0 bx1_1 fz1_1 bx1_2 fz1_2 bx1_3 fz1_3 bx0_0 bx0_1 bx0_2 bx0_3
  have hc : ChgA (w.heap.size + 1 + 1) w6 (w6.setCell ⟨w.heap.size + 1 + 1, 3, none⟩ (.slice A_t nt c_t)) := (ChgA.refl _ _).set _ _
  have hko := hk2
  replace hk0 := hk0.chgA hc (by omega)
  replace hk1 := hk1.chgA hc (by omega)
  replace hk2 : Blk (w6.setCell ⟨w.heap.size + 1 + 1, 3, none⟩ (.slice A_t nt c_t)) (w.heap.size + 1 + 1) 58 [.slice (some ⟨g_r, 0, none⟩) nr nr, .slice A_s ns c_s, .string key, .slice A_t nt c_t] := hk2.set_ 3 _
  have k7 : Below w.heap.size w (w6.setCell ⟨w.heap.size + 1 + 1, 3, none⟩ (.slice A_t nt c_t)) := hc.below (by omega) k6
  have p7 : (w6.setCell ⟨w.heap.size + 1 + 1, 3, none⟩ (.slice A_t nt c_t)).heap.size = w6.heap.size := hc.size
  have bl0 := Nat.lt_of_lt_of_le bl0 (Nat.le_of_eq p7.symm)
  have bl1 := Nat.lt_of_lt_of_le bl1 (Nat.le_of_eq p7.symm)
  have bl2 := Nat.lt_of_lt_of_le bl2 (Nat.le_of_eq p7.symm)
  replace o_r := own_chgA o_r hc (by first | exact own_ty o_r hko (by decide) | exact fun k hk => by have h1 := o_r.lt k hk; omega | exact fun k hk => by have h1 := u_r k hk; omega)
  replace r_r := Reads.of_own o_r
  replace o_s := own_chgA o_s hc (by first | exact own_ty o_s hko (by decide) | exact fun k hk => by have h1 := o_s.lt k hk; omega | exact fun k hk => by have h1 := u_s k hk; omega)
  replace r_s := Reads.of_own o_s
  replace o_t := own_chgA o_t hc (by first | exact own_ty o_t hko (by decide) | exact fun k hk => by have h1 := o_t.lt k hk; omega | exact fun k hk => by have h1 := u_t k hk; omega)
  replace r_t := Reads.of_own o_t
  generalize hW0 : (w6.setCell ⟨w.heap.size + 1 + 1, 3, none⟩ (.slice A_t nt c_t)) = w7 at *
  clear hW0 hc hko
  have hko := hk1
  have hcc := ChgA.refl (w.heap.size + 1) w7
  obtain ⟨w8_0, hW0⟩ : ∃ W, W = w7.setCell ⟨w.heap.size + 1, 0, none⟩ (.slice (some ⟨g_r, 0, none⟩) nr nr) := ⟨_, rfl⟩
  replace hcc : ChgA (w.heap.size + 1) w7 w8_0 := by rw [hW0]; exact hcc.set _ _
  replace hk1 : Blk w8_0 (w.heap.size + 1) 58 [.slice (some ⟨g_r, 0, none⟩) nr nr, .slice none 0 0, .string ⟨#[]⟩, .slice none 0 0] := by rw [hW0]; exact hk1.set_ 0 _
  rw [← hW0]
  clear hW0
  obtain ⟨w8_1, hW0⟩ : ∃ W, W = w8_0.setCell ⟨w.heap.size + 1, 1, none⟩ (.slice A_s ns c_s) := ⟨_, rfl⟩
  replace hcc : ChgA (w.heap.size + 1) w7 w8_1 := by rw [hW0]; exact hcc.set _ _
  replace hk1 : Blk w8_1 (w.heap.size + 1) 58 [.slice (some ⟨g_r, 0, none⟩) nr nr, .slice A_s ns c_s, .string ⟨#[]⟩, .slice none 0 0] := by rw [hW0]; exact hk1.set_ 1 _
  rw [← hW0]
  clear hW0
  obtain ⟨w8_2, hW0⟩ : ∃ W, W = w8_1.setCell ⟨w.heap.size + 1, 2, none⟩ (.string key) := ⟨_, rfl⟩
  replace hcc : ChgA (w.heap.size + 1) w7 w8_2 := by rw [hW0]; exact hcc.set _ _
  replace hk1 : Blk w8_2 (w.heap.size + 1) 58 [.slice (some ⟨g_r, 0, none⟩) nr nr, .slice A_s ns c_s, .string key, .slice none 0 0] := by rw [hW0]; exact hk1.set_ 2 _
  rw [← hW0]
  clear hW0
  obtain ⟨w8, hW0⟩ : ∃ W, W = w8_2.setCell ⟨w.heap.size + 1, 3, none⟩ (.slice A_t nt c_t) := ⟨_, rfl⟩
  replace hcc : ChgA (w.heap.size + 1) w7 w8 := by rw [hW0]; exact hcc.set _ _
  replace hk1 : Blk w8 (w.heap.size + 1) 58 [.slice (some ⟨g_r, 0, none⟩) nr nr, .slice A_s ns c_s, .string key, .slice A_t nt c_t] := by rw [hW0]; exact hk1.set_ 3 _
  rw [← hW0]
  clear hW0
  have hc := hcc
  replace o_r := own_chgA o_r hc (own_ty o_r hko (by decide))
  replace o_s := own_chgA o_s hc (own_ty o_s hko (by decide))
  replace o_t := own_chgA o_t hc (own_ty o_t hko (by decide))
  replace hk0 := hk0.chgA hc (by omega)
  replace hk2 := hk2.chgA hc (by omega)
  have k8 := hc.below (by omega) k7
  have p8 := hc.size
  replace bl0 := Nat.lt_of_lt_of_le bl0 (Nat.le_of_eq p8.symm)
  replace bl1 := Nat.lt_of_lt_of_le bl1 (Nat.le_of_eq p8.symm)
  replace bl2 := Nat.lt_of_lt_of_le bl2 (Nat.le_of_eq p8.symm)
  clear hc hcc
  have hv := loadVar_blk (P := Try.prog) hk1 (n := 4) rfl (by simp [go_sem]) (by simp [go_sem])
  refine bodyPost_ret (v := .agg #[.slice (some ⟨g_r, 0, none⟩) nr nr, .slice A_s ns c_s, .string key, .slice A_t nt c_t]) (by simp [results, Try.results23, asAddr, Result.andThen, hv]) rfl ?_
  subst hnr hns hnt
  exact ⟨_, rfl, ⟨_, _, _, _, _, _, rfl, own_base o_r (by omega), own_base o_s (by omega), own_base o_t (by omega)⟩, k8⟩
set_option maxHeartbeats 2000000 in
theorem eqFlowTable_c (As : Option Addr) (ns cs : Nat) (As' : Option Addr) (cs' : Nat) (l : List Slot) (w : World) (hns : l.length = ns) (hms : ns ≤ 1048576) (hrs : Reads w w.heap.size 7 As ns (l.flatMap Slot.cells)) (hrs' : Reads w w.heap.size 7 As' ns (l.flatMap Slot.cells)) :
    Calls Try.prog 91 #[.agg #[.slice As ns cs], .agg #[.slice As' ns cs']] w fun e w' => e = .returned (.bool true) ∧ Below w.heap.size w w' := by
  go_enter Try.func91, Try.ntmps91
  go_wp2_with fail
  have k0 : Below w.heap.size w ((w.alloc (.cells #[.slice As ns cs] 55)).alloc (.cells #[.slice As' ns cs'] 55)) := by go_grown
  have bl0 : w.heap.size < ((w.alloc (.cells #[.slice As ns cs] 55)).alloc (.cells #[.slice As' ns cs'] 55)).heap.size := by go_size
  have hk0 : Blk ((w.alloc (.cells #[.slice As ns cs] 55)).alloc (.cells #[.slice As' ns cs'] 55)) (w.heap.size) 55 [.slice As ns cs] := by simpa using (Blk.new w 55 [.slice As ns cs]).alloc (.cells #[.slice As' ns cs'] 55)
  have bl1 : w.heap.size + 1 < ((w.alloc (.cells #[.slice As ns cs] 55)).alloc (.cells #[.slice As' ns cs'] 55)).heap.size := by go_size
  have hk1 : Blk ((w.alloc (.cells #[.slice As ns cs] 55)).alloc (.cells #[.slice As' ns cs'] 55)) (w.heap.size + 1) 55 [.slice As' ns cs'] := by simpa using Blk.new (w.alloc (.cells #[.slice As ns cs] 55)) 55 [.slice As' ns cs']
  have p0 := k0.size
  generalize hW0 : ((w.alloc (.cells #[.slice As ns cs] 55)).alloc (.cells #[.slice As' ns cs'] 55)) = w0 at *
  clear hW0
  refine (eqSlotS_c _ _ ns _ _ l _ hns (by omega) ((hrs.below k0).more k0.size) ((hrs'.below k0).more k0.size)).mono ?_
  rintro e w1 ⟨rfl, hb⟩
  have k1 : Below w.heap.size w w1 := ext_step k0 (by omega) hb
  have p1 := hb.size
  replace hk0 := hk0.ext hb
  replace hk1 := hk1.ext hb
  have bl0 := Nat.lt_of_lt_of_le bl0 hb.size
  have bl1 := Nat.lt_of_lt_of_le bl1 hb.size
  clear hb
  go_wp2
  go_ret
  exact ⟨rfl, k1⟩
set_option maxHeartbeats 2000000 in
theorem eqSpread_c (key : ByteArray) (At : Option Addr) (nt ct : Nat) (At' : Option Addr) (ct' : Nat) (tb : List Int) (w : World) (hnt : tb.length = nt) (hmt : nt ≤ 1048576) (hrt : Reads w w.heap.size 1 At nt (tb.flatMap fun x : Int => [Value.int .i64 x])) (hrt' : Reads w w.heap.size 1 At' nt (tb.flatMap fun x : Int => [Value.int .i64 x])) :
    Calls Try.prog 92 #[.agg #[.string key, .slice At nt ct], .agg #[.string key, .slice At' nt ct']] w fun e w' => e = .returned (.bool true) ∧ Below w.heap.size w w' := by
  go_enter Try.func92, Try.ntmps92
  go_wp2_with fail
  have k0 : Below w.heap.size w ((w.alloc (.cells #[.string key, .slice At nt ct] 56)).alloc (.cells #[.string key, .slice At' nt ct'] 56)) := by go_grown
  have bl0 : w.heap.size < ((w.alloc (.cells #[.string key, .slice At nt ct] 56)).alloc (.cells #[.string key, .slice At' nt ct'] 56)).heap.size := by go_size
  have hk0 : Blk ((w.alloc (.cells #[.string key, .slice At nt ct] 56)).alloc (.cells #[.string key, .slice At' nt ct'] 56)) (w.heap.size) 56 [.string key, .slice At nt ct] := by simpa using (Blk.new w 56 [.string key, .slice At nt ct]).alloc (.cells #[.string key, .slice At' nt ct'] 56)
  have bl1 : w.heap.size + 1 < ((w.alloc (.cells #[.string key, .slice At nt ct] 56)).alloc (.cells #[.string key, .slice At' nt ct'] 56)).heap.size := by go_size
  have hk1 : Blk ((w.alloc (.cells #[.string key, .slice At nt ct] 56)).alloc (.cells #[.string key, .slice At' nt ct'] 56)) (w.heap.size + 1) 56 [.string key, .slice At' nt ct'] := by simpa using Blk.new (w.alloc (.cells #[.string key, .slice At nt ct] 56)) 56 [.string key, .slice At' nt ct']
  have p0 := k0.size
  generalize hW0 : ((w.alloc (.cells #[.string key, .slice At nt ct] 56)).alloc (.cells #[.string key, .slice At' nt ct'] 56)) = w0 at *
  clear hW0
  refine (eqIntS_c _ _ nt _ _ tb _ hnt (by omega) ((hrt.below k0).more k0.size) ((hrt'.below k0).more k0.size)).mono ?_
  rintro e w1 ⟨rfl, hb⟩
  have k1 : Below w.heap.size w w1 := ext_step k0 (by omega) hb
  have p1 := hb.size
  replace hk0 := hk0.ext hb
  replace hk1 := hk1.ext hb
  have bl0 := Nat.lt_of_lt_of_le bl0 hb.size
  have bl1 := Nat.lt_of_lt_of_le bl1 hb.size
  clear hb
  go_wp2
  go_ret
  exact ⟨rfl, k1⟩
set_option maxHeartbeats 2000000 in
theorem eqSteering_c (Ar : Option Addr) (nr cr : Nat) (rs : List Rule) (As : Option Addr) (ns cs : Nat) (l : List Slot) (key : ByteArray) (At : Option Addr) (nt ct : Nat) (tb : List Int) (Ar' : Option Addr) (cr' : Nat) (As' : Option Addr) (cs' : Nat) (At' : Option Addr) (ct' : Nat) (w : World) (hnr : rs.length = nr) (hmr : nr ≤ 1048576) (hrr : Reads w w.heap.size 9 Ar nr (rs.flatMap Rule.cells)) (hns : l.length = ns) (hms : ns ≤ 1048576) (hrs : Reads w w.heap.size 7 As ns (l.flatMap Slot.cells)) (hnt : tb.length = nt) (hmt : nt ≤ 1048576) (hrt : Reads w w.heap.size 1 At nt (tb.flatMap fun x : Int => [Value.int .i64 x])) (hrr' : Reads w w.heap.size 9 Ar' nr (rs.flatMap Rule.cells)) (hrs' : Reads w w.heap.size 7 As' ns (l.flatMap Slot.cells)) (hrt' : Reads w w.heap.size 1 At' nt (tb.flatMap fun x : Int => [Value.int .i64 x])) :
    Calls Try.prog 25 #[.agg #[.slice Ar nr cr, .slice As ns cs, .string key, .slice At nt ct], .agg #[.slice Ar' nr cr', .slice As' ns cs', .string key, .slice At' nt ct']] w fun e w' => e = .returned (.bool true) ∧ Below w.heap.size w w' := by
  go_enter Try.func25, Try.ntmps25
  go_wp2_with fail
  have k0 : Below w.heap.size w ((w.alloc (.cells #[.slice Ar nr cr, .slice As ns cs, .string key, .slice At nt ct] 58)).alloc (.cells #[.slice Ar' nr cr', .slice As' ns cs', .string key, .slice At' nt ct'] 58)) := by go_grown
  have bl0 : w.heap.size < ((w.alloc (.cells #[.slice Ar nr cr, .slice As ns cs, .string key, .slice At nt ct] 58)).alloc (.cells #[.slice Ar' nr cr', .slice As' ns cs', .string key, .slice At' nt ct'] 58)).heap.size := by go_size
  have hk0 : Blk ((w.alloc (.cells #[.slice Ar nr cr, .slice As ns cs, .string key, .slice At nt ct] 58)).alloc (.cells #[.slice Ar' nr cr', .slice As' ns cs', .string key, .slice At' nt ct'] 58)) (w.heap.size) 58 [.slice Ar nr cr, .slice As ns cs, .string key, .slice At nt ct] := by simpa using (Blk.new w 58 [.slice Ar nr cr, .slice As ns cs, .string key, .slice At nt ct]).alloc (.cells #[.slice Ar' nr cr', .slice As' ns cs', .string key, .slice At' nt ct'] 58)
  have bl1 : w.heap.size + 1 < ((w.alloc (.cells #[.slice Ar nr cr, .slice As ns cs, .string key, .slice At nt ct] 58)).alloc (.cells #[.slice Ar' nr cr', .slice As' ns cs', .string key, .slice At' nt ct'] 58)).heap.size := by go_size
  have hk1 : Blk ((w.alloc (.cells #[.slice Ar nr cr, .slice As ns cs, .string key, .slice At nt ct] 58)).alloc (.cells #[.slice Ar' nr cr', .slice As' ns cs', .string key, .slice At' nt ct'] 58)) (w.heap.size + 1) 58 [.slice Ar' nr cr', .slice As' ns cs', .string key, .slice At' nt ct'] := by simpa using Blk.new (w.alloc (.cells #[.slice Ar nr cr, .slice As ns cs, .string key, .slice At nt ct] 58)) 58 [.slice Ar' nr cr', .slice As' ns cs', .string key, .slice At' nt ct']
  have p0 := k0.size
  generalize hW0 : ((w.alloc (.cells #[.slice Ar nr cr, .slice As ns cs, .string key, .slice At nt ct] 58)).alloc (.cells #[.slice Ar' nr cr', .slice As' ns cs', .string key, .slice At' nt ct'] 58)) = w0 at *
  clear hW0
  refine (eqRuleS_c _ _ nr _ _ rs _ hnr (by omega) ((hrr.below k0).more k0.size) ((hrr'.below k0).more k0.size)).mono ?_
  rintro e w1 ⟨rfl, hb⟩
  have k1 : Below w.heap.size w w1 := ext_step k0 (by omega) hb
  have p1 := hb.size
  replace hk0 := hk0.ext hb
  replace hk1 := hk1.ext hb
  have bl0 := Nat.lt_of_lt_of_le bl0 hb.size
  have bl1 := Nat.lt_of_lt_of_le bl1 hb.size
  clear hb
  have bx0_1 := hk0.at_ 1 _ rfl
  have bx1_1 := hk1.at_ 1 _ rfl
  go_wp2_with fail
  refine (eqFlowTable_c _ ns _ _ _ l _ hns (by omega) ((hrs.below k1).more k1.size) ((hrs'.below k1).more k1.size)).mono ?_
  rintro e w2 ⟨rfl, hb⟩
  have k2 : Below w.heap.size w w2 := ext_step k1 (by omega) hb
  have p2 := hb.size
  replace hk0 := hk0.ext hb
  replace hk1 := hk1.ext hb
  clear bx0_1 bx1_1
  have bl0 := Nat.lt_of_lt_of_le bl0 hb.size
  have bl1 := Nat.lt_of_lt_of_le bl1 hb.size
  clear hb
  have bx0_2 := hk0.at_ 2 _ rfl
  have bx0_3 := hk0.at_ 3 _ rfl
  have bx1_2 := hk1.at_ 2 _ rfl
  have bx1_3 := hk1.at_ 3 _ rfl
  go_wp2_with fail
  refine (eqSpread_c key _ nt _ _ _ tb _ hnt (by omega) ((hrt.below k2).more k2.size) ((hrt'.below k2).more k2.size)).mono ?_
  rintro e w3 ⟨rfl, hb⟩
  have k3 : Below w.heap.size w w3 := ext_step k2 (by omega) hb
  have p3 := hb.size
  replace hk0 := hk0.ext hb
  replace hk1 := hk1.ext hb
  clear bx0_2 bx0_3 bx1_2 bx1_3
  have bl0 := Nat.lt_of_lt_of_le bl0 hb.size
  have bl1 := Nat.lt_of_lt_of_le bl1 hb.size
  clear hb
  go_wp2
  go_ret
  exact ⟨rfl, k3⟩
end Go.Proofs.Ytifbfmafogmemaa
