/- Contracts of the reference's draws: a number in its bounds, whatever the cursor holds. -/
import Derived.Test.YtkfekgmdjemkbaaRows2
import Derived.Test.YtkfekgmdjemkbaaBytes
namespace Go.Proofs.Ytkfekgmdjemkbaa
section
set_option linter.unusedSimpArgs false
set_option linter.unusedVariables false
open Go.RowKit Go.ChangeShapes Go.WideShapes
theorem mask_bd (v : Int) (m : Nat) (hm : m < 4294967296) : 0 ≤ bits .and .i64 v (m : Int) ∧ bits .and .i64 v (m : Int) ≤ (m : Int) := by
  have h1 : ((BitVec.ofInt 64 v &&& BitVec.ofInt 64 (m : Int)).toNat : Int) ≤ (m : Int) := by
    rw [BitVec.toNat_and, BitVec.ofInt_natCast, BitVec.toNat_ofNat, Nat.mod_eq_of_lt (by omega)]
    have := Nat.and_le_right (n := (BitVec.ofInt 64 v).toNat) (m := m)
    omega
  have h2 : (0 : Int) ≤ ((BitVec.ofInt 64 v &&& BitVec.ofInt 64 (m : Int)).toNat : Int) := by omega
  have h3 : bits .and .i64 v (m : Int) = ((BitVec.ofInt 64 v &&& BitVec.ofInt 64 (m : Int)).toNat : Int) := by
    show IntKind.i64.wrap ((BitVec.ofInt 64 v &&& BitVec.ofInt 64 (m : Int)).toNat : Int) = _
    rw [IntKind.wrap_i64]
    generalize ((BitVec.ofInt 64 v &&& BitVec.ofInt 64 (m : Int)).toNat : Int) = y at *
    omega
  rw [h3]; exact ⟨h2, h1⟩
theorem wrap_i64' (x : Int) : I64 (wrap64 x) := by unfold wrap64; exact ⟨by omega, by omega⟩
/-- Block g is a cursor over the bytes of a slice. -/
def Cur (w : World) (g : Nat) (A : Option Addr) (n c : Nat) : Prop := ∃ i h : Int, Blk w g 72 [.slice A n c, .int .i64 i, .int .i64 h] ∧ 0 ≤ i ∧ i ≤ n ∧ I64 h
/-- A draw: a number of which P holds; the cursor has moved on, nothing else that was there has turned. -/
def DrawI (P : Int → Prop) (g : Nat) (A : Option Addr) (n c : Nat) (w : World) (e : Ending) (w' : World) : Prop := ∃ x : Int, P x ∧ e = .returned (.int .i64 x) ∧ Cur w' g A n c ∧ w.grownBy w' (some g)
set_option maxRecDepth 100000 in
set_option maxHeartbeats 1000000 in
theorem l01Byte_c (g : Nat) (A : Option Addr) (n c : Nat) (l : List Int) (w : World) (hcur : Cur w g A n c) (hn : l.length = n) (hm : n ≤ 1048576) (hr : Reads w g 1 A n (l.flatMap fun x : Int => [Value.int .u8 x])) (hb : ∀ x ∈ l, 0 ≤ x ∧ x ≤ 255) :
    Calls Try.prog 66 #[.pointer (some ⟨g, 0, none⟩)] w (DrawI (fun x => 0 ≤ x ∧ x ≤ 255) g A n c w) := by
  obtain ⟨i, h, hblk, hi0, hi1, hh⟩ := hcur
  have c0 := (hblk.cell 0).trans rfl
  have c1 := (hblk.cell 1).trans rfl
  have c2 := (hblk.cell 2).trans rfl
  have f1 := hblk.frozen 1
  have f2 := hblk.frozen 2
  have hgl := hblk.lt
  go_enter Try.func66, Try.ntmps66
  go_wp2
  have hV := wrap_i64' (wrap64 (h * 6364136223846793005) + 1442695040888963407)
  generalize wrap64 (wrap64 (h * 6364136223846793005) + 1442695040888963407) = V at *
  have hB1 : Blk (w.setCell ⟨g, 2, none⟩ (.int .i64 V)) g 72 [.slice A n c, .int .i64 i, .int .i64 V] := hblk.set_ 2 _
  have hg1 : w.grownBy (w.setCell ⟨g, 2, none⟩ (.int .i64 V)) (some g) := only_setCell (World.grownBy.refl _ _) (.inl rfl) _
  generalize hW0 : w.setCell ⟨g, 2, none⟩ (.int .i64 V) = w1 at *
  clear hW0 c0 c1 c2 f1 f2 hblk
  have c0 := (hB1.cell 0).trans rfl
  have c1 := (hB1.cell 1).trans rfl
  have c2 := (hB1.cell 2).trans rfl
  have f1 := hB1.frozen 1
  have hgl1 := hB1.lt
  go_quiet (fail)
  go_wp2
  have hX := mask_bd (bits BinOp.xor IntKind.i64 (V / 8589934592) (V / 35184372088832)) 255 (by omega)
  rw [show ((255 : Nat) : Int) = 255 from rfl] at hX
  generalize bits BinOp.and IntKind.i64 (bits BinOp.xor IntKind.i64 (V / 8589934592) (V / 35184372088832)) 255 = X at *
  obtain ⟨x0, x1⟩ := hX
  have hB2 : Blk (w1.drewN nq) g 72 [.slice A n c, .int .i64 i, .int .i64 V] := hB1
  have hg2 : w.grownBy (w1.drewN nq) (some g) := only_drewN hg1 _
  generalize hW0 : w1.drewN nq = w2 at *
  clear hW0 c0 c1 c2 f1 hB1
  have c0 := (hB2.cell 0).trans rfl
  have c1 := (hB2.cell 1).trans rfl
  have f1 := hB2.frozen 1
  have hgl2 := hB2.lt
  obtain ⟨k, rfl⟩ := Int.eq_ofNat_of_zero_le hi0
  by_cases hlt : k < n
  · have l1 : (k : Int) < (n : Int) := by omega
    have l2 : decide ((k : Int) < (n : Int)) = true := by simpa using l1
    have hr2 := hr.grown hg2 (by omega) (fun q hq => by injection hq with hq; omega)
    obtain ⟨b, o, x, rfl, hbb, hx, hc⟩ := hr2.el (fun _ => rfl) (by decide) hn hlt
    have e0 : w2.cell? ⟨b, o + k, none⟩ = some (.int .u8 x) := by simpa using hc 0 _ rfl
    obtain ⟨y0, y1⟩ := hb x (List.mem_of_getElem? hx)
    have ew : IntKind.i64.wrap x = x := IntWalk.i64_in _ ⟨by omega, by omega⟩
    clear hc hx hb hn
    go_quiet (fail)
    go_wp2
    go_quiet (fail)
    go_wp2
    go_ret
    have hY := mask_bd (X + x) 255 (by omega)
    rw [show ((255 : Nat) : Int) = 255 from rfl] at hY
    exact ⟨_, hY, rfl, ⟨(k : Int) + 1, V, hB2.set_ 1 _, by omega, by omega, hV⟩, only_setCell (only_drewN hg2 _) (.inl rfl) _⟩
  · have l1 : ¬ (k : Int) < (n : Int) := by omega
    go_quiet (fail)
    go_wp2
    go_ret
    exact ⟨X, ⟨x0, x1⟩, rfl, ⟨k, V, hB2, by omega, hi1, hV⟩, only_drewN hg2 _⟩
theorem grown_trans {a w1 w2 : World} {row : Option Nat} (h1 : a.grownBy w1 row) (h2 : w1.grownBy w2 row) : a.grownBy w2 row :=
  ⟨h2.os.trans h1.os, h2.tape.trans h1.tape, h2.output.trans h1.output, Nat.le_trans h1.size h2.size, fun i hi hne => (h2.block i (Nat.lt_of_lt_of_le hi h1.size) hne).trans (h1.block i hi hne)⟩
theorem Cur.lt {w : World} {g : Nat} {A : Option Addr} {n c : Nat} (h : Cur w g A n c) : g < w.heap.size := by obtain ⟨i, h, hb, _⟩ := h; exact hb.lt
theorem reads_cur {w w1 : World} {g size n : Nat} {A : Option Addr} {xs : List Value} (hr : Reads w g size A n xs) (hg : w.grownBy w1 (some g)) (hlt : g < w.heap.size) : Reads w1 g size A n xs :=
  hr.grown hg (by omega) (fun q hq => by injection hq with hq; omega)
set_option maxRecDepth 100000 in
set_option maxHeartbeats 2000000 in
theorem l01Below_c (g : Nat) (A : Option Addr) (n c : Nat) (l : List Int) (w : World) (hcur : Cur w g A n c) (hn : l.length = n) (hm : n ≤ 1048576) (hr : Reads w g 1 A n (l.flatMap fun x : Int => [Value.int .u8 x])) (hb : ∀ x ∈ l, 0 ≤ x ∧ x ≤ 255) (k : Int) (hk0 : 0 < k) (hk1 : k ≤ 4611686018427387904) :
    Calls Try.prog 40 #[.pointer (some ⟨g, 0, none⟩), .int .i64 k] w (DrawI (fun x => 0 ≤ x ∧ x < k) g A n c w) := by
  have hlt := hcur.lt
  have q0 := hcur
  have g0 : w.grownBy w (some g) := World.grownBy.refl _ _
  have hp : (k == 0) = false := by simp; omega
  have H3 := Lib.hid hn
  by_cases h : k ≤ 256
  · go_enter Try.func40, Try.ntmps40
    go_wp2_with fail
    refine (l01Byte_c g A n c l _ q0 hn hm (reads_cur hr g0 hlt) hb).mono ?_
    rintro e w1 ⟨x1, ⟨a1, b1⟩, rfl, q1, hh1⟩
    have g1 := grown_trans g0 hh1
    have m1 := Int.emod_nonneg x1 (show k ≠ 0 by omega)
    have m2 := Int.emod_lt_of_pos x1 hk0
    go_wp2
    go_ret
    exact ⟨_, ⟨m1, m2⟩, rfl, q1, g1⟩
  · go_enter Try.func40, Try.ntmps40
    go_wp2_with fail
    refine (l01Byte_c g A n c l _ q0 hn hm (reads_cur hr g0 hlt) hb).mono ?_
    rintro e w1 ⟨x1, ⟨a1, b1⟩, rfl, q1, hh1⟩
    have g1 := grown_trans g0 hh1
    go_wp2_with fail
    refine (l01Byte_c g A n c l _ q1 hn hm (reads_cur hr g1 hlt) hb).mono ?_
    rintro e w2 ⟨x2, ⟨a2, b2⟩, rfl, q2, hh2⟩
    have g2 := grown_trans g1 hh2
    go_wp2_with fail
    refine (l01Byte_c g A n c l _ q2 hn hm (reads_cur hr g2 hlt) hb).mono ?_
    rintro e w3 ⟨x3, ⟨a3, b3⟩, rfl, q3, hh3⟩
    have g3 := grown_trans g2 hh3
    go_wp2_with fail
    refine (l01Byte_c g A n c l _ q3 hn hm (reads_cur hr g3 hlt) hb).mono ?_
    rintro e w4 ⟨x4, ⟨a4, b4⟩, rfl, q4, hh4⟩
    have g4 := grown_trans g3 hh4
    have m1 := Int.emod_nonneg (x1 * 16777216 + x2 * 65536 + x3 * 256 + x4) (show k ≠ 0 by omega)
    have m2 := Int.emod_lt_of_pos (x1 * 16777216 + x2 * 65536 + x3 * 256 + x4) hk0
    go_wp2
    go_ret
    exact ⟨_, ⟨m1, m2⟩, rfl, q4, g4⟩
end
section
set_option linter.unusedSimpArgs false
set_option linter.unusedVariables false
open Go.RowKit Go.ChangeShapes Go.WideShapes
def DrawB (g : Nat) (A : Option Addr) (n c : Nat) (w : World) (e : Ending) (w' : World) : Prop := ∃ x : Bool, e = .returned (.bool x) ∧ Cur w' g A n c ∧ w.grownBy w' (some g)
set_option maxHeartbeats 1000000 in
theorem l01Once_c (g : Nat) (A : Option Addr) (n c : Nat) (l : List Int) (w : World) (hcur : Cur w g A n c) (hn : l.length = n) (hm : n ≤ 1048576) (hr : Reads w g 1 A n (l.flatMap fun x : Int => [Value.int .u8 x])) (hb : ∀ x ∈ l, 0 ≤ x ∧ x ≤ 255) (k : Int) (hk0 : 0 < k) (hk1 : k ≤ 4611686018427387904) :
    Calls Try.prog 38 #[.pointer (some ⟨g, 0, none⟩), .int .i64 k] w (DrawB g A n c w) := by
  go_enter Try.func38, Try.ntmps38
  go_wp2_with fail
  refine (l01Below_c g A n c l _ hcur hn hm hr hb k hk0 hk1).mono ?_
  rintro e w1 ⟨x1, ⟨a1, b1⟩, rfl, q1, g1⟩
  go_wp2
  go_ret
  exact ⟨_, rfl, q1, g1⟩
def DrawC (A : Option Addr) (n c : Nat) (w : World) (e : Ending) (w' : World) : Prop := ∃ g : Nat, e = .returned (.pointer (some ⟨g, 0, none⟩)) ∧ w.heap.size ≤ g ∧ Cur w' g A n c ∧ Below w.heap.size w w'
set_option maxRecDepth 100000 in
set_option maxHeartbeats 2000000 in
theorem l01New_c (A : Option Addr) (n c : Nat) (l : List Int) (w : World) (hn : l.length = n) (hm : n ≤ 1048576) (hr : Reads w w.heap.size 1 A n (l.flatMap fun x : Int => [Value.int .u8 x])) (hb : ∀ x ∈ l, 0 ≤ x ∧ x ≤ 255) :
    Calls Try.prog 16 #[.slice A n c] w (DrawC A n c w) := by
  have HN := Lib.hid hn
  have HB := Lib.hid hb
  clear hn hb
  go_enter Try.func16, Try.ntmps16
  go_wp2
  go_loop [3, 4] (fun v i => ∃ (k : Nat) (h : Int), k ≤ n ∧ i = .int .i64 (k : Int) ∧ v = .int .i64 h ∧ 0 ≤ h ∧ h ≤ 1073741823) (fun _ i => n - (intOf i).toNat)
  case atStart => exact ⟨0, 33129 + (n : Int), Nat.zero_le _, rfl, rfl, by omega, by omega⟩
  case round =>
    obtain ⟨k, h, hk, rfl, rfl, h0, h1⟩ := hrel
    by_cases hlt : k < n
    · by_cases h4 : k < 4000
      · obtain ⟨b, o, x, rfl, hbb, hx, hc⟩ := hr.el (fun _ => rfl) (by decide) HN.out hlt
        have e0 : w.cell? ⟨b, o + k, none⟩ = some (.int .u8 x) := by simpa using hc 0 _ rfl
        obtain ⟨y0, y1⟩ := HB.out x (List.mem_of_getElem? hx)
        have hY := mask_bd (h * 131 + x + 7) 1073741823 (by omega)
        rw [show ((1073741823 : Nat) : Int) = 1073741823 from rfl] at hY
        have l2 : (k : Int) < 4000 := by omega
        clear hc hx
        go_wp2
        go_round
        case rel => exact ⟨k + 1, _, by omega, by go_num, rfl, hY.1, hY.2⟩
        case measure => simp [intOf]; omega
      · have l2 : ¬ (k : Int) < 4000 := by omega
        go_wp2
        go_ret
        exact ⟨w.heap.size, rfl, Nat.le_refl _, ⟨0, h, Blk.new _ _ _, by omega, by omega, ⟨by omega, by omega⟩⟩, by go_grown⟩
    · go_wp2
      go_ret
      exact ⟨w.heap.size, rfl, Nat.le_refl _, ⟨0, h, Blk.new _ _ _, by omega, by omega, ⟨by omega, by omega⟩⟩, by go_grown⟩
end
section
set_option linter.unusedSimpArgs false
set_option linter.unusedVariables false
open Go.RowKit Go.ChangeShapes Go.WideShapes
theorem strCells_push (t : ByteArray) {x : Int} (h0 : 0 ≤ x) (h1 : x ≤ 255) : Go.Lib.strCells (t ++ strOfNums [x]) = Go.Lib.strCells t ++ [.int .u8 x] := by
  rw [strCells_append]
  congr 1
  obtain ⟨k, rfl⟩ := Int.eq_ofNat_of_zero_le h0
  simp [Go.Lib.strCells, strOfNums]
  omega
theorem grown_al {a W : World} {row : Option Nat} (h : a.grownBy W row) (o : Obj) : a.grownBy (W.alloc o) row :=
  ⟨h.os, h.tape, h.output, Nat.le_trans h.size (by simp), fun i hi hne => (Below.heap_alloc W o i (Nat.lt_of_lt_of_le hi h.size)).trans (h.block i hi hne)⟩
theorem grown_own {a W w2 : World} {row : Option Nat} {e : TypeId} {size n : Nat} {v : Value} {xs : List Value} (h1 : a.grownBy W row) (hown : W.ownsRow a.heap.size e size v n xs) (h2 : W.grownBy w2 v.ownBlock) : a.grownBy w2 row :=
  ⟨h2.os.trans h1.os, h2.tape.trans h1.tape, h2.output.trans h1.output, Nat.le_trans h1.size h2.size, fun i hi hne => (h2.block i (Nat.lt_of_lt_of_le hi h1.size) (fun e => by have := (hown.lt i e.symm).1; omega)).trans (h1.block i hi hne)⟩
theorem Cur.alloc {w : World} {g : Nat} {A : Option Addr} {n c : Nat} (h : Cur w g A n c) (o : Obj) : Cur (w.alloc o) g A n c := by
  obtain ⟨i, k, hb, r⟩ := h; exact ⟨i, k, hb.alloc o, r⟩
theorem cur_kept {w w1 : World} {g : Nat} {A : Option Addr} {n c : Nat} {row : Option Nat} (h : Cur w g A n c) (hg : w.grownBy w1 row) (hne : row = some g → False) : Cur w1 g A n c := by
  obtain ⟨i, k, hb, r⟩ := h
  exact ⟨i, k, (hg.block g hb.lt (fun e => hne e.symm)).trans hb, r⟩
/-- A drawn text of k bytes. -/
def DrawS (k : Int) (g : Nat) (A : Option Addr) (n c : Nat) (w : World) (e : Ending) (w' : World) : Prop := ∃ s : ByteArray, (s.size : Int) = k ∧ e = .returned (.string s) ∧ Cur w' g A n c ∧ w.grownBy w' (some g)
set_option maxRecDepth 100000 in
set_option maxHeartbeats 2000000 in
theorem l01Text_c (g : Nat) (A : Option Addr) (n c : Nat) (l : List Int) (w : World) (hcur : Cur w g A n c) (hn : l.length = n) (hm : n ≤ 1048576) (hr : Reads w g 1 A n (l.flatMap fun x : Int => [Value.int .u8 x])) (hb : ∀ x ∈ l, 0 ≤ x ∧ x ≤ 255) (k : Int) (hk0 : 0 ≤ k) (hk1 : k ≤ 5000) :
    Calls Try.prog 45 #[.pointer (some ⟨g, 0, none⟩), .int .i64 k] w (DrawS k g A n c w) := by
  obtain ⟨m, rfl⟩ := Int.eq_ofNat_of_zero_le hk0
  obtain ⟨i0, hi, hz0, hz1, hz2⟩ := info_parts info_u8'
  have hlt0 := hcur.lt
  have HN := Lib.hid hn
  clear hn
  go_enter Try.func45, Try.ntmps45
  go_wp2
  go_loopw [5, 6] (fun ov i wr => ∃ (j : Nat) (t : ByteArray) (u : Value), j ≤ m ∧ i = .int .i64 (j : Int) ∧ ov = u ∧ Hid (t.size = j) ∧ wr.ownsRow w.heap.size 5 1 u j (Go.Lib.strCells t) ∧ w.grownBy wr (some g) ∧ Cur wr g A n c) (fun _ i _ => m - (intOf i).toNat)
  case atStart => exact ⟨0, ⟨#[]⟩, _, Nat.zero_le _, rfl, rfl, rfl, own_empty (Blk.new w 5 []) (Nat.le_refl _), grown_al (World.grownBy.refl _ _) _, hcur.alloc _⟩
  case round =>
    obtain ⟨j, t, u, hj, rfl, hu, hts, hown, hgr, hcr⟩ := hrel
    have hu := hu.symm
    subst hu
    have hzr := hgr.size
    by_cases hlt : j < m
    · go_wp2_with fail
      refine (l01Byte_c g A n c l _ hcr HN.out hm (reads_cur hr hgr hlt0) hb).mono ?_
      rintro e w1 ⟨x1, ⟨y0, y1⟩, rfl, q1, hh⟩
      have hg1 := grown_trans hgr hh
      have own1 := own_far (u := .slice (some ⟨g, 0, none⟩) 0 0) hown hh (fun q h1 h2 => by
        have h3 : g = q := by simpa [Value.ownBlock] using h2
        have := (hown.lt q h1).1
        omega)
      have ew : IntKind.u8.wrap x1 = x1 := by rw [IntKind.wrap_u8']; omega
      have HS := Lib.hid (strCells_push t y0 y1)
      clear hh
      go_wp2_with (at_builtin; refine wpList_append_own _ rfl _ _ 22 rfl w.heap.size 5 i0 (.int .u8 0) 1 1 Try.underlying22 hi hz0 hz1 hz2 rfl (by decide) _ _ _ rfl (own1.alloc _) ⟨w1.heap.size, 0, none⟩ 1 1 [.int .u8 x1] rfl rfl (cells_new _ _ _) ?c2 ?c3 ?c4 ?c5 ?_; (case c2 => (intro u hu; simp at hu; subst hu; rfl)); (case c3 => (unfold maxLen; omega)); (case c4 => omega); (case c5 => (simp only [World.size_alloc]; have := hg1.size; omega)); intro v2 w2 hown2 hg2 hn2; have hq2 := cur_kept (q1.alloc _) hg2 (fun e => by have := (own1.lt _ e).1; omega); have hg3 := grown_own (grown_al hg1 _) (own1.alloc _) hg2; clear hn2 hg2)
      go_roundw
      case rel => exact ⟨j + 1, t ++ strOfNums [x1], v2, by omega, by go_num, rfl, by rw [Hid, ByteArray.size_append, hts.out, strOfNums_size]; rfl, by rw [HS.out]; exact hown2, hg3, hq2⟩
      case measure => simp [intOf]; omega
    · have hjm : j = m := by omega
      subst hjm
      have hcv := own_to_string hown
      go_wp2
      go_ret
      exact ⟨t, by rw [hts.out], rfl, hcr, hgr⟩
end
section
set_option linter.unusedSimpArgs false
set_option linter.unusedVariables false
open Go.RowKit Go.ChangeShapes Go.WideShapes
theorem blk_kept {w w1 : World} {b : Nat} {T : TypeId} {cs : List Value} {row : Option Nat} (h : Blk w b T cs) (hg : w.grownBy w1 row) (hne : row ≠ some b) : Blk w1 b T cs :=
  (hg.block b h.lt (fun e => hne e.symm)).trans h
theorem Blk.far' {w : World} {g : Nat} {t : TypeId} {cs : List Value} (h : Blk w g t cs) {p : Addr} (hp : p.block ≠ g) (u : Value) : Blk (w.setCell p u) g t cs :=
  (Below.heap_setCell w p u g (Ne.symm hp)).trans h
def DrawM (g : Nat) (A : Option Addr) (n c : Nat) (w : World) (e : Ending) (w' : World) : Prop := ∃ (dom vir phy : Int) (wb : Bool), (0 ≤ dom ∧ dom < 2 ∧ 0 ≤ vir ∧ vir < 8 ∧ 0 ≤ phy ∧ phy < 6) ∧ e = .returned (.agg #[.int .i64 dom, .int .i64 vir, .int .i64 phy, .bool wb]) ∧ Cur w' g A n c ∧ w.grownBy w' (some g)
end
section
set_option linter.unusedSimpArgs false
set_option linter.unusedVariables false
open Go.RowKit Go.ChangeShapes Go.WideShapes
theorem cur_fr {w : World} {g : Nat} {A : Option Addr} {n c : Nat} (h : Cur w g A n c) {p : Addr} (hp : p.block ≠ g) (u : Value) : Cur (w.setCell p u) g A n c := by
  obtain ⟨i, k, hk, r⟩ := h; exact ⟨i, k, hk.far' hp u, r⟩
set_option maxRecDepth 100000 in
set_option maxHeartbeats 2000000 in
theorem l01PickInt_c (g : Nat) (A : Option Addr) (n c : Nat) (l : List Int) (w : World) (hcur : Cur w g A n c) (hn : l.length = n) (hm : n ≤ 1048576) (hr : Reads w g 1 A n (l.flatMap fun x : Int => [Value.int .u8 x])) (hb : ∀ x ∈ l, 0 ≤ x ∧ x ≤ 255) (b m : Nat) (ls : List Int) (hB : Blk w b 3 (ls.map fun x : Int => Value.int .i64 x)) (hbg : b ≠ g) (hl : ls.length = m) (h0 : 0 < m) (h1 : m ≤ 1000) :
    Calls Try.prog 44 #[.pointer (some ⟨g, 0, none⟩), .slice (some ⟨b, 0, none⟩) m m] w (DrawI (fun x => x ∈ ls) g A n c w) := by
  go_enter Try.func44, Try.ntmps44
  go_wp2_with fail
  refine (l01Below_c g A n c l _ hcur hn hm hr hb (m : Int) (by omega) (by omega)).mono ?_
  rintro e w1 ⟨i, ⟨i0, i1⟩, rfl, q1, hh⟩
  have B1 := blk_kept hB hh (fun e => hbg (by injection e with e; exact e.symm))
  obtain ⟨k, rfl⟩ := Int.eq_ofNat_of_zero_le i0
  have hk : k < ls.length := by omega
  have c0 : w1.cell? ⟨b, k, none⟩ = some (.int .i64 ls[k]) := (B1.cell k).trans (by rw [List.getElem?_map, List.getElem?_eq_getElem hk]; rfl)
  have hin : ls[k] ∈ ls := List.getElem_mem hk
  generalize ls[k] = x at *
  have hbl := B1.lt
  go_wp2
  go_ret
  exact ⟨x, hin, rfl, q1, hh⟩
end
section
set_option linter.unusedSimpArgs false
set_option linter.unusedVariables false
open Go.RowKit Go.ChangeShapes Go.WideShapes
theorem own_cur {w w1 : World} {g base : Nat} {e : TypeId} {size n : Nat} {v : Value} {xs : List Value} (h : w.ownsRow base e size v n xs) (hh : w.grownBy w1 (some g)) (hg : g < base) : w1.ownsRow base e size v n xs :=
  own_far (u := .slice (some ⟨g, 0, none⟩) 0 0) h hh (fun q h1 h2 => by
    have h3 : g = q := by simpa [Value.ownBlock] using h2
    have := (h.lt q h1).1
    omega)
theorem cur_below {w w1 : World} {g : Nat} {A : Option Addr} {n c : Nat} (h : Cur w g A n c) (hb : Below w.heap.size w w1) : Cur w1 g A n c := by
  obtain ⟨i, k, hk, r⟩ := h; exact ⟨i, k, hk.ext hb, r⟩
end
end Go.Proofs.Ytkfekgmdjemkbaa
