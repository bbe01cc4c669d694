/- Contracts of the laws' helpers on pieces. -/
import Derived.Test.YteajedcoidljhaaRows2
import Derived.Test.YteajedcoidljhaaOpen
namespace Go.Proofs.Yteajedcoidljhaa
set_option linter.unusedSimpArgs false
set_option linter.unusedVariables false
open Go.RowKit Go.ChangeShapes Go.WideShapes
set_option maxHeartbeats 1000000 in
theorem toPiece_c (at_ : Int) (ln : Int) (w : World) :
    Calls Try.prog 72 #[.agg #[.int .i64 at_, .int .i64 ln]] w fun e w' => e = .returned (.agg #[.int .i64 at_, .int .i64 ln]) ∧ Below w.heap.size w w' := by
  go_enter Try.func72, Try.ntmps72
  go_wp2
  go_returns
  exact ⟨rfl, by go_grown⟩
theorem info_Piece : (Try.prog.info? 60).map (fun i => (i.zero, i.size, i.bytes)) = some (some (.agg #[.int .i64 0, .int .i64 0]), 2, 16) := by kernel_rfl
set_option maxHeartbeats 2000000 in
/-- A slice that came in is copied into a row of the call's own. -/
theorem toPieceS_c (A : Option Addr) (n c : Nat) (l : List Piece) (w : World) (hn : l.length = n) (hm : n ≤ 1048576) (hr : Reads w w.heap.size 2 A n (l.flatMap Piece.cells)) :
    Calls Try.prog 35 #[.slice A n c] w fun e w' => ∃ g, e = .returned (.slice (some ⟨g, 0, none⟩) n n) ∧ w.heap.size ≤ g ∧ Blk w' g 60 (l.flatMap Piece.cells) ∧ Below w.heap.size w w' := by
  obtain ⟨i0, hi, hz0, hz1, hz2⟩ := info_parts info_Piece
  have hmk := fun W => run_make_rowN (P := Try.prog) 48 60 i0 _ 2 16 Try.underlying48 hi hz0 hz1 hz2 n n (Nat.le_refl _) (by omega) (by omega) W
  have HN := Lib.hid hn
  clear hn hi hz0 hz1 hz2
  have hsz0 := madeCells_len (.agg #[.int .i64 0, .int .i64 0] : Value).cells (n * 2)
  have HZ := Lib.hid hsz0
  generalize (madeCells (.agg #[.int .i64 0, .int .i64 0] : Value).cells (n * 2)).toList = z at *
  clear hsz0
  go_enter Try.func35, Try.ntmps35
  go_wp2
  go_loopw [4] (fun i wr => ∃ k : Nat, ∃ cs : List Value, k ≤ n ∧ i = .int .i64 k ∧ Below w.heap.size w wr ∧ Blk wr w.heap.size 60 cs ∧ Hid (cs.length = n * 2) ∧ Hid (cs.take (k * 2) = (l.take k).flatMap Piece.cells)) (fun i _ => n - (intOf i).toNat)
  case atStart => exact ⟨0, z, Nat.zero_le _, rfl, by go_grown, Blk.new _ _ _, HZ, by simp [Hid]⟩
  case round =>
    obtain ⟨k, cs, hk, rfl, hbw, hblk, hcl, htk⟩ := hrel
    have hsz := hbw.size
    have hgl := hblk.lt
    by_cases hlt : k < n
    · obtain ⟨b, o, x, rfl, hb, hxx, hcx⟩ := hr.el (fun _ => rfl) (by decide) HN.out hlt
      have c0 := (hbw.cell (p := ⟨b, o + k * 2, none⟩) hb).trans (by simpa using hcx 0 _ rfl)
      have c1 := (hbw.cell (p := ⟨b, o + k * 2 + 1, none⟩) hb).trans (by simpa using hcx 1 _ rfl)
      have HXx := Lib.hid hxx
      clear hxx hcx
      obtain ⟨v0, g0⟩ := hblk.get (i := k * 2) (by rw [hcl.out]; omega)
      obtain ⟨v1, g1⟩ := hblk.get (i := k * 2 + 1) (by rw [hcl.out]; omega)
      have f0 := hblk.frozen (k * 2)
      have f1 := hblk.frozen (k * 2 + 1)
      go_wp2_with (go_at_call 72; refine (toPiece_c _ _ _).mono ?_; rintro e w1 ⟨rfl, hb1⟩; have hk1 : Below w.heap.size w w1 := ext_step hbw hbw.size hb1; have hbk := hblk.ext hb1; have d0 := (hb1.cell (p := ⟨w.heap.size, k * 2, none⟩) hgl).trans g0; have d1 := (hb1.cell (p := ⟨w.heap.size, k * 2 + 1, none⟩) hgl).trans g1; have e0 := hbk.frozen (k * 2); have e1 := hbk.frozen (k * 2 + 1); have hgl1 := hbk.lt; clear hb1)
      go_roundw
      case rel => exact ⟨k + 1, setsAt cs (k * 2) (Piece.cells x), by omega, by go_num, (Below.setCell (Below.setCell hk1 (by simp) _) (by simp) _), ((hbk.set_ _ _).set_ _ _), by rw [Hid, setsAt_len]; exact hcl.out, take_elem (cells := Piece.cells) (fun _ => rfl) HXx.out hcl.out hlt htk.out⟩
      case measure => simp [intOf]; omega
    · go_wp2
      go_ret
      refine ⟨_, rfl, Nat.le_refl _, ?_, hbw⟩
      have h1 := htk.out
      rw [take_all HN.out hlt, List.take_of_length_le (by rw [hcl.out]; exact Nat.mul_le_mul_right _ (by omega))] at h1
      rw [← h1]
      exact hblk
set_option maxHeartbeats 1000000 in
theorem szPieceS_c (A : Option Addr) (n c : Nat) (left : Int) (w : World) (h0 : 0 ≤ left) (h1 : left ≤ 1048576) (hm : n ≤ 9223372036854775807) :
    Calls Try.prog 33 #[.slice A n c, .int .i64 left] w fun e w' => e = .returned (.int .i64 (if left - n < 0 then -1 else left - n)) ∧ w = w' := by
  by_cases h : left - n < 0
  · go_enter Try.func33, Try.ntmps33
    go_wp2
    go_ret
    exact ⟨ret_int (by first | omega | (split <;> omega)), rfl⟩
  · go_enter Try.func33, Try.ntmps33
    go_wp2
    go_ret
    exact ⟨ret_int (by first | omega | (split <;> omega)), rfl⟩
theorem szPieceS_c2 (A : Option Addr) (n c : Nat) (left : Int) (w : World) (h0 : 0 ≤ left) (h1 : left ≤ 1048576) (hm : n ≤ 9223372036854775807) :
    Calls Try.prog 33 #[.slice A n c, .int .i64 left] w fun e w' => e = .returned (.int .i64 (szI (left - n))) ∧ w = w' := szPieceS_c A n c left w h0 h1 hm
set_option maxHeartbeats 1000000 in
theorem eqPiece_c (at_ : Int) (ln : Int) (w : World) :
    Calls Try.prog 73 #[.agg #[.int .i64 at_, .int .i64 ln], .agg #[.int .i64 at_, .int .i64 ln]] w fun e w' => e = .returned (.bool true) ∧ Below w.heap.size w w' := by
  go_enter Try.func73, Try.ntmps73
  go_wp2
  go_ret
  exact ⟨rfl, by go_grown⟩
set_option maxHeartbeats 2000000 in
/-- Two slices that read as the same list are equal. -/
theorem eqPieceS_c (A A' : Option Addr) (n c c' : Nat) (l : List Piece) (w : World) (hn : l.length = n) (hm : n ≤ 140737488355328) (hr : Reads w w.heap.size 2 A n (l.flatMap Piece.cells)) (hr' : Reads w w.heap.size 2 A' n (l.flatMap Piece.cells)) :
    Calls Try.prog 37 #[.slice A n c, .slice A' n c'] w fun e w' => e = .returned (.bool true) ∧ Below w.heap.size w w' := by
  have HN := Lib.hid hn
  clear hn
  go_enter Try.func37, Try.ntmps37
  go_wp2
  go_loopw [5] (fun i wr => ∃ k : Nat, k ≤ n ∧ i = .int .i64 k ∧ Below w.heap.size w wr) (fun i _ => n - (intOf i).toNat)
  case atStart => exact ⟨0, Nat.zero_le _, rfl, Below.refl _ _⟩
  case round =>
    obtain ⟨k, hk, rfl, hbw⟩ := hrel
    have hsz := hbw.size
    by_cases hlt : k < n
    · obtain ⟨b, o, x, rfl, hb, hxx, hcx⟩ := hr.el (fun _ => rfl) (by decide) HN.out hlt
      have c0 := (hbw.cell (p := ⟨b, o + k * 2, none⟩) hb).trans (by simpa using hcx 0 _ rfl)
      have c1 := (hbw.cell (p := ⟨b, o + k * 2 + 1, none⟩) hb).trans (by simpa using hcx 1 _ rfl)
      have HXx := Lib.hid hxx
      clear hxx hcx
      obtain ⟨b', o', y, rfl, hb', hxy, hcy⟩ := hr'.el (fun _ => rfl) (by decide) HN.out hlt
      have d0 := (hbw.cell (p := ⟨b', o' + k * 2, none⟩) hb').trans (by simpa using hcy 0 _ rfl)
      have d1 := (hbw.cell (p := ⟨b', o' + k * 2 + 1, none⟩) hb').trans (by simpa using hcy 1 _ rfl)
      have HXy := Lib.hid hxy
      clear hxy hcy
      obtain rfl : x = y := by
        have h1 := HXx.out
        rw [HXy.out] at h1
        injection h1 with h1
        exact h1.symm
      have l1 : (k : Int) < (n : Int) := by omega
      have hx : ∀ t : Ext wr, t.wd.cell? ⟨b, o + k * 2, none⟩ = some (.int .i64 x.at_) ∧ t.wd.cell? ⟨b, o + k * 2 + 1, none⟩ = some (.int .i64 x.ln) ∧ t.wd.cell? ⟨b', o' + k * 2, none⟩ = some (.int .i64 x.at_) ∧ t.wd.cell? ⟨b', o' + k * 2 + 1, none⟩ = some (.int .i64 x.ln) := fun t => ⟨t.cell c0, t.cell c1, t.cell d0, t.cell d1⟩
      go_wp2_with fail
      refine wp_region_ext_lit (by kernel_rfl) (by kernel_rfl) ?_
      repeat (go_big_quiet_step (((go_at_call 73; exact ext_call (eqPiece_c _ _ _)))))
      refine wpQuiet_nil ?_
      intro _ hw'
      obtain ⟨tq, hw''⟩ := hw'
      subst hw''
      have hk1 : Below w.heap.size w tq.wd := ext_step hbw hbw.size tq.below
      go_wp2
      go_roundw
      case rel => exact ⟨k + 1, by omega, by go_num, hk1⟩
      case measure => simp [intOf]; omega
    · go_wp2
      go_ret
      exact ⟨rfl, hbw⟩
/-- What the laws write into an element's cells, from a number on. -/
def mkPieceS (q : Int) : List Value := [.int .i64 (q), .int .i64 (q + 1)]
def marksPieceS (n : Nat) (q : Int) : List Value := (List.range n).flatMap fun (i : Nat) => mkPieceS (q + (i : Int) * 2)
set_option maxHeartbeats 4000000 in
/-- Every cell of a row of the caller's own is overwritten. -/
theorem markPieceS_c (A : Option Addr) (n c base : Nat) (xs : List Value) (q : Int) (w : World) (hown : w.ownsRow base 60 2 (.slice A n c) n xs) (hq0 : 0 ≤ q) (hq1 : q ≤ 1000000000) (hm : n ≤ 4194304) :
    Calls Try.prog 40 #[.slice A n c, .int .i64 q] w fun e w' => e = .returned (.int .i64 (q + n * 2)) ∧ w'.ownsRow base 60 2 (.slice A n c) n (marksPieceS n q) ∧ w.grownBy w' (Value.slice A n c).ownBlock := by
  rcases hown.2 with ⟨hv, hn⟩ | ⟨g, cap, cur, hv, hbg, hblk, hnc, hcm, hsz, htk⟩
  · injection hv with h1 h2 h3
    subst h1; subst h3; subst hn
    go_enter Try.func40, Try.ntmps40
    go_wp2
    go_loopw [1, 5] (fun q' i wr => q' = .int .i64 q ∧ i = .int .i64 0 ∧ wr = w) (fun _ _ _ => 0)
    case atStart => exact ⟨rfl, rfl, rfl⟩
    case round =>
      obtain ⟨rfl, rfl, rfl⟩ := hrel
      go_wp2
      go_ret
      exact ⟨ret_int (by omega), ⟨by simp [marksPieceS], .inl ⟨rfl, rfl⟩⟩, World.grownBy.refl _ _⟩
  · injection hv with h1 h2 h3
    subst h1; subst h3
    have hlen := hown.1
    have hcl : cur.toList.length = c * 2 := by simpa using hsz
    have HB0 : Blk w g 60 cur.toList := hblk
    have HC0 := Lib.hid hcl
    have hblt := HB0.lt
    clear hblk hsz hcl htk hlen hown
    generalize cur.toList = cu at *
    go_enter Try.func40, Try.ntmps40
    go_wp2
    go_loopw [1, 5] (fun q' i wr => ∃ k : Nat, ∃ cs : List Value, k ≤ n ∧ q' = .int .i64 (q + (k : Int) * 2) ∧ i = .int .i64 k ∧ w.grownBy wr (some g) ∧ Blk wr g 60 cs ∧ Hid (cs.length = c * 2) ∧ Hid (cs.take (k * 2) = ((List.range n).take k).flatMap fun (i : Nat) => mkPieceS (q + (i : Int) * 2))) (fun _ i _ => n - (intOf i).toNat)
    case atStart => exact ⟨0, cu, Nat.zero_le _, by simp, rfl, World.grownBy.refl _ _, HB0, HC0, by simp [Hid]⟩
    case round =>
      obtain ⟨k, cs, hk, rfl, rfl, hgr, hbk, hcl, htk⟩ := hrel
      have hgl := hbk.lt
      have hgz := hgr.size
      by_cases hlt : k < n
      · have hr : (List.range n)[k]? = some k := by simp [hlt]
        have HR := Lib.hid hr
        clear hr
        obtain ⟨v0, g0⟩ := hbk.get (i := k * 2) (by rw [hcl.out]; omega)
        obtain ⟨v1, g1⟩ := hbk.get (i := k * 2 + 1) (by rw [hcl.out]; omega)
        have f0 := hbk.frozen (k * 2)
        have f1 := hbk.frozen (k * 2 + 1)
        go_wp2
        go_roundw
        case rel =>
          refine ⟨k + 1, setsAt cs (k * 2) (mkPieceS (q + (k : Int) * 2)), by omega, by go_num, by go_num, (only_setCell (only_setCell hgr (.inl rfl) _) (.inl rfl) _), ?_, by rw [Hid, setsAt_len]; exact hcl.out, ?_⟩
          · exact ((hbk.set_ _ _).set_ _ _)
          · have h2 : c * 2 = c * 2 := rfl
            exact take_elem (cells := fun i : Nat => mkPieceS (q + (i : Int) * 2)) (fun _ => rfl) HR.out hcl.out (by omega) htk.out
        case measure => simp [intOf]; omega
      · have hkn : k = n := by omega
        subst hkn
        go_wp2
        go_ret
        refine ⟨ret_int (by omega), ⟨?_, .inr ⟨g, c, cs.toArray, rfl, hbg, hbk, hnc, hcm, by simpa using hcl.out, ?_⟩⟩, hgr⟩
        · rw [marksPieceS, flatMap_len _ 2 (fun _ => rfl)]; simp
        · have h1 := htk.out
          rw [show (List.range k).take k = List.range k from List.take_of_length_le (by simp)] at h1
          exact h1
set_option maxHeartbeats 4000000 in
/-- A row that holds the marks holds them. -/
theorem heldPieceS_c (A : Option Addr) (n c : Nat) (q : Int) (w : World) (hr : Reads w w.heap.size 2 A n (marksPieceS n q)) (hq0 : 0 ≤ q) (hq1 : q ≤ 1000000000) (hm : n ≤ 4194304) :
    Calls Try.prog 41 #[.slice A n c, .int .i64 q] w fun e w' => e = .returned (.int .i64 (q + n * 2)) ∧ Below w.heap.size w w' := by
  go_enter Try.func41, Try.ntmps41
  go_wp2
  go_loopw [1, 5] (fun q' i wr => ∃ k : Nat, k ≤ n ∧ q' = .int .i64 (q + (k : Int) * 2) ∧ i = .int .i64 k ∧ Below w.heap.size w wr) (fun _ i _ => n - (intOf i).toNat)
  case atStart => exact ⟨0, Nat.zero_le _, by simp, rfl, Below.refl _ _⟩
  case round =>
    obtain ⟨k, hk, rfl, rfl, hbw⟩ := hrel
    have hsz := hbw.size
    by_cases hlt : k < n
    · obtain ⟨b, o, x, rfl, hb, hx, hc⟩ := Reads.el (cells := fun i : Nat => mkPieceS (q + (i : Int) * 2)) (l := List.range n) hr (fun _ => rfl) (by decide) (by simp) hlt
      have hxk : k = x := by simpa [hlt] using hx
      subst hxk
      have c0 := (hbw.cell (p := ⟨b, o + k * 2, none⟩) hb).trans (by simpa using hc 0 _ rfl)
      have c1 := (hbw.cell (p := ⟨b, o + k * 2 + 1, none⟩) hb).trans (by simpa using hc 1 _ rfl)
      clear hx hc
      go_wp2
      go_roundw
      case rel => exact ⟨k + 1, by omega, by go_num, by go_num, by go_grown⟩
      case measure => simp [intOf]; omega
    · have hkn : k = n := by omega
      subst hkn
      go_wp2
      go_ret
      exact ⟨ret_int (by omega), hbw⟩
end Go.Proofs.Yteajedcoidljhaa
