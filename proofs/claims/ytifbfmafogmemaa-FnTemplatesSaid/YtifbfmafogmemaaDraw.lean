/- Contracts of the reference's draws: a number in its bounds, whatever the cursor holds. -/
import Derived.Test.YtifbfmafogmemaaRows2
namespace Go.Proofs.Ytifbfmafogmemaa
set_option linter.unusedSimpArgs false
set_option linter.unusedVariables false
open Go.RowKit Go.ChangeShapes Go.WideShapes
theorem mask_bd (v : Int) (m : Nat) (hm : m < 4294967296) : 0 ≤ bits .and .i64 v (m : Int) ∧ bits .and .i64 v (m : Int) ≤ (m : Int) := by
  have h1 : ((BitVec.ofInt 64 v &&& BitVec.ofInt 64 (m : Int)).toNat : Int) ≤ (m : Int) := by
    rw [BitVec.toNat_and, BitVec.ofInt_natCast, BitVec.toNat_ofNat, Nat.mod_eq_of_lt (by omega)]
    have := Nat.and_le_right (n := (BitVec.ofInt 64 v).toNat) (m := m)
    omega
  have h2 : (0 : Int) ≤ ((BitVec.ofInt 64 v &&& BitVec.ofInt 64 (m : Int)).toNat : Int) := by omega
  have h3 : bits .and .i64 v (m : Int) = ((BitVec.ofInt 64 v &&& BitVec.ofInt 64 (m : Int)).toNat : Int) := by
    show IntKind.i64.wrap ((BitVec.ofInt 64 v &&& BitVec.ofInt 64 (m : Int)).toNat : Int) = _
    rw [IntKind.wrap_i64]
    generalize ((BitVec.ofInt 64 v &&& BitVec.ofInt 64 (m : Int)).toNat : Int) = y at *
    omega
  rw [h3]; exact ⟨h2, h1⟩
theorem wrap_i64' (x : Int) : I64 (wrap64 x) := by unfold wrap64; exact ⟨by omega, by omega⟩
/-- Block g is a cursor over the bytes of a slice. -/
def Cur (w : World) (g : Nat) (A : Option Addr) (n c : Nat) : Prop := ∃ i h : Int, Blk w g 159 [.slice A n c, .int .i64 i, .int .i64 h] ∧ 0 ≤ i ∧ i ≤ n ∧ I64 h
/-- A draw: a number of which P holds; the cursor has moved on, nothing else that was there has turned. -/
def DrawI (P : Int → Prop) (g : Nat) (A : Option Addr) (n c : Nat) (w : World) (e : Ending) (w' : World) : Prop := ∃ x : Int, P x ∧ e = .returned (.int .i64 x) ∧ Cur w' g A n c ∧ w.grownBy w' (some g)
set_option maxRecDepth 100000 in
set_option maxHeartbeats 1000000 in
theorem l01Byte_c (g : Nat) (A : Option Addr) (n c : Nat) (l : List Int) (w : World) (hcur : Cur w g A n c) (hn : l.length = n) (hm : n ≤ 1048576) (hr : Reads w g 1 A n (l.flatMap fun x : Int => [Value.int .u8 x])) (hb : ∀ x ∈ l, 0 ≤ x ∧ x ≤ 255) :
    Calls Try.prog 182 #[.pointer (some ⟨g, 0, none⟩)] w (DrawI (fun x => 0 ≤ x ∧ x ≤ 255) g A n c w) := by
  obtain ⟨i, h, hblk, hi0, hi1, hh⟩ := hcur
  have c0 := (hblk.cell 0).trans rfl
  have c1 := (hblk.cell 1).trans rfl
  have c2 := (hblk.cell 2).trans rfl
  have f1 := hblk.frozen 1
  have f2 := hblk.frozen 2
  have hgl := hblk.lt
  go_enter Try.func182, Try.ntmps182
  go_wp2
  have hV := wrap_i64' (wrap64 (h * 6364136223846793005) + 1442695040888963407)
  generalize wrap64 (wrap64 (h * 6364136223846793005) + 1442695040888963407) = V at *
  have hB1 : Blk (w.setCell ⟨g, 2, none⟩ (.int .i64 V)) g 159 [.slice A n c, .int .i64 i, .int .i64 V] := hblk.set_ 2 _
  have hg1 : w.grownBy (w.setCell ⟨g, 2, none⟩ (.int .i64 V)) (some g) := only_setCell (World.grownBy.refl _ _) (.inl rfl) _
  generalize hW0 : w.setCell ⟨g, 2, none⟩ (.int .i64 V) = w1 at *
  clear hW0 c0 c1 c2 f1 f2 hblk
  have c0 := (hB1.cell 0).trans rfl
  have c1 := (hB1.cell 1).trans rfl
  have c2 := (hB1.cell 2).trans rfl
  have f1 := hB1.frozen 1
  have hgl1 := hB1.lt
  go_quiet (fail)
  go_wp2
  have hX := mask_bd (bits BinOp.xor IntKind.i64 (V / 8589934592) (V / 35184372088832)) 255 (by omega)
  rw [show ((255 : Nat) : Int) = 255 from rfl] at hX
  generalize bits BinOp.and IntKind.i64 (bits BinOp.xor IntKind.i64 (V / 8589934592) (V / 35184372088832)) 255 = X at *
  obtain ⟨x0, x1⟩ := hX
  have hB2 : Blk (w1.drewN nq) g 159 [.slice A n c, .int .i64 i, .int .i64 V] := hB1
  have hg2 : w.grownBy (w1.drewN nq) (some g) := only_drewN hg1 _
  generalize hW0 : w1.drewN nq = w2 at *
  clear hW0 c0 c1 c2 f1 hB1
  have c0 := (hB2.cell 0).trans rfl
  have c1 := (hB2.cell 1).trans rfl
  have f1 := hB2.frozen 1
  have hgl2 := hB2.lt
  obtain ⟨k, rfl⟩ := Int.eq_ofNat_of_zero_le hi0
  by_cases hlt : k < n
  · have l1 : (k : Int) < (n : Int) := by omega
    have l2 : decide ((k : Int) < (n : Int)) = true := by simpa using l1
    have hr2 := hr.grown hg2 (by omega) (fun q hq => by injection hq with hq; omega)
    obtain ⟨b, o, x, rfl, hbb, hx, hc⟩ := hr2.el (fun _ => rfl) (by decide) hn hlt
    have e0 : w2.cell? ⟨b, o + k, none⟩ = some (.int .u8 x) := by simpa using hc 0 _ rfl
    obtain ⟨y0, y1⟩ := hb x (List.mem_of_getElem? hx)
    have ew : IntKind.i64.wrap x = x := IntWalk.i64_in _ ⟨by omega, by omega⟩
    clear hc hx hb hn
    go_quiet (fail)
    go_wp2
    go_quiet (fail)
    go_wp2
    go_ret
    have hY := mask_bd (X + x) 255 (by omega)
    rw [show ((255 : Nat) : Int) = 255 from rfl] at hY
    exact ⟨_, hY, rfl, ⟨(k : Int) + 1, V, hB2.set_ 1 _, by omega, by omega, hV⟩, only_setCell (only_drewN hg2 _) (.inl rfl) _⟩
  · have l1 : ¬ (k : Int) < (n : Int) := by omega
    go_quiet (fail)
    go_wp2
    go_ret
    exact ⟨X, ⟨x0, x1⟩, rfl, ⟨k, V, hB2, by omega, hi1, hV⟩, only_drewN hg2 _⟩
theorem grown_trans {a w1 w2 : World} {row : Option Nat} (h1 : a.grownBy w1 row) (h2 : w1.grownBy w2 row) : a.grownBy w2 row :=
  ⟨h2.os.trans h1.os, h2.tape.trans h1.tape, h2.output.trans h1.output, Nat.le_trans h1.size h2.size, fun i hi hne => (h2.block i (Nat.lt_of_lt_of_le hi h1.size) hne).trans (h1.block i hi hne)⟩
theorem Cur.lt {w : World} {g : Nat} {A : Option Addr} {n c : Nat} (h : Cur w g A n c) : g < w.heap.size := by obtain ⟨i, h, hb, _⟩ := h; exact hb.lt
theorem reads_cur {w w1 : World} {g size n : Nat} {A : Option Addr} {xs : List Value} (hr : Reads w g size A n xs) (hg : w.grownBy w1 (some g)) (hlt : g < w.heap.size) : Reads w1 g size A n xs :=
  hr.grown hg (by omega) (fun q hq => by injection hq with hq; omega)
set_option maxRecDepth 100000 in
set_option maxHeartbeats 2000000 in
theorem l01Below_c (g : Nat) (A : Option Addr) (n c : Nat) (l : List Int) (w : World) (hcur : Cur w g A n c) (hn : l.length = n) (hm : n ≤ 1048576) (hr : Reads w g 1 A n (l.flatMap fun x : Int => [Value.int .u8 x])) (hb : ∀ x ∈ l, 0 ≤ x ∧ x ≤ 255) (k : Int) (hk0 : 0 < k) (hk1 : k ≤ 4611686018427387904) :
    Calls Try.prog 134 #[.pointer (some ⟨g, 0, none⟩), .int .i64 k] w (DrawI (fun x => 0 ≤ x ∧ x < k) g A n c w) := by
  have hlt := hcur.lt
  have q0 := hcur
  have g0 : w.grownBy w (some g) := World.grownBy.refl _ _
  have hp : (k == 0) = false := by simp; omega
  have H3 := Lib.hid hn
  by_cases h : k ≤ 256
  · go_enter Try.func134, Try.ntmps134
    go_wp2_with fail
    refine (l01Byte_c g A n c l _ q0 hn hm (reads_cur hr g0 hlt) hb).mono ?_
    rintro e w1 ⟨x1, ⟨a1, b1⟩, rfl, q1, hh1⟩
    have g1 := grown_trans g0 hh1
    have m1 := Int.emod_nonneg x1 (show k ≠ 0 by omega)
    have m2 := Int.emod_lt_of_pos x1 hk0
    go_wp2
    go_ret
    exact ⟨_, ⟨m1, m2⟩, rfl, q1, g1⟩
  · go_enter Try.func134, Try.ntmps134
    go_wp2_with fail
    refine (l01Byte_c g A n c l _ q0 hn hm (reads_cur hr g0 hlt) hb).mono ?_
    rintro e w1 ⟨x1, ⟨a1, b1⟩, rfl, q1, hh1⟩
    have g1 := grown_trans g0 hh1
    go_wp2_with fail
    refine (l01Byte_c g A n c l _ q1 hn hm (reads_cur hr g1 hlt) hb).mono ?_
    rintro e w2 ⟨x2, ⟨a2, b2⟩, rfl, q2, hh2⟩
    have g2 := grown_trans g1 hh2
    go_wp2_with fail
    refine (l01Byte_c g A n c l _ q2 hn hm (reads_cur hr g2 hlt) hb).mono ?_
    rintro e w3 ⟨x3, ⟨a3, b3⟩, rfl, q3, hh3⟩
    have g3 := grown_trans g2 hh3
    go_wp2_with fail
    refine (l01Byte_c g A n c l _ q3 hn hm (reads_cur hr g3 hlt) hb).mono ?_
    rintro e w4 ⟨x4, ⟨a4, b4⟩, rfl, q4, hh4⟩
    have g4 := grown_trans g3 hh4
    have m1 := Int.emod_nonneg (x1 * 16777216 + x2 * 65536 + x3 * 256 + x4) (show k ≠ 0 by omega)
    have m2 := Int.emod_lt_of_pos (x1 * 16777216 + x2 * 65536 + x3 * 256 + x4) hk0
    go_wp2
    go_ret
    exact ⟨_, ⟨m1, m2⟩, rfl, q4, g4⟩
end Go.Proofs.Ytifbfmafogmemaa
