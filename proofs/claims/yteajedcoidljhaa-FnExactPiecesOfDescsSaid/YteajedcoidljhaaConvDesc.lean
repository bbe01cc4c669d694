/- Contracts of the laws' helpers on descriptors. -/
import Derived.Test.YteajedcoidljhaaRows2
import Derived.Test.YteajedcoidljhaaOpen
import Derived.Test.YteajedcoidljhaaDescOk
namespace Go.Proofs.Yteajedcoidljhaa
set_option linter.unusedSimpArgs false
set_option linter.unusedVariables false
open Go.RowKit Go.ChangeShapes Go.WideShapes
theorem info_Desc : (Try.prog.info? 62).map (fun i => (i.zero, i.size, i.bytes)) = some (some (.agg #[.int .i64 0, .int .i64 0, .int .i64 0, .int .i64 0, .int .i64 0, .int .i64 0]), 6, 48) := by kernel_rfl
set_option maxHeartbeats 2000000 in
/-- A slice that came in is copied into a row of the call's own. -/
theorem toDescS_c (A : Option Addr) (n c : Nat) (l : List Desc) (w : World) (hn : l.length = n) (hm : n ≤ 1048576) (hr : Reads w w.heap.size 6 A n (l.flatMap Desc.cells)) :
    Calls Try.prog 56 #[.slice A n c] w fun e w' => ∃ g, e = .returned (.slice (some ⟨g, 0, none⟩) n n) ∧ w.heap.size ≤ g ∧ Blk w' g 62 (l.flatMap Desc.cells) ∧ Below w.heap.size w w' := by
  obtain ⟨i0, hi, hz0, hz1, hz2⟩ := info_parts info_Desc
  have hmk := fun W => run_make_rowN (P := Try.prog) 67 62 i0 _ 6 48 Try.underlying67 hi hz0 hz1 hz2 n n (Nat.le_refl _) (by omega) (by omega) W
  have HN := Lib.hid hn
  clear hn hi hz0 hz1 hz2
  have hsz0 := madeCells_len (.agg #[.int .i64 0, .int .i64 0, .int .i64 0, .int .i64 0, .int .i64 0, .int .i64 0] : Value).cells (n * 6)
  have HZ := Lib.hid hsz0
  generalize (madeCells (.agg #[.int .i64 0, .int .i64 0, .int .i64 0, .int .i64 0, .int .i64 0, .int .i64 0] : Value).cells (n * 6)).toList = z at *
  clear hsz0
  go_enter Try.func56, Try.ntmps56
  go_wp2
  go_loopw [4] (fun i wr => ∃ k : Nat, ∃ cs : List Value, k ≤ n ∧ i = .int .i64 k ∧ Below w.heap.size w wr ∧ Blk wr w.heap.size 62 cs ∧ Hid (cs.length = n * 6) ∧ Hid (cs.take (k * 6) = (l.take k).flatMap Desc.cells)) (fun i _ => n - (intOf i).toNat)
  case atStart => exact ⟨0, z, Nat.zero_le _, rfl, by go_grown, Blk.new _ _ _, HZ, by simp [Hid]⟩
  case round =>
    obtain ⟨k, cs, hk, rfl, hbw, hblk, hcl, htk⟩ := hrel
    have hsz := hbw.size
    have hgl := hblk.lt
    by_cases hlt : k < n
    · obtain ⟨b, o, x, rfl, hb, hxx, hcx⟩ := hr.el (fun _ => rfl) (by decide) HN.out hlt
      have c0 := (hbw.cell (p := ⟨b, o + k * 6, none⟩) hb).trans (by simpa using hcx 0 _ rfl)
      have c1 := (hbw.cell (p := ⟨b, o + k * 6 + 1, none⟩) hb).trans (by simpa using hcx 1 _ rfl)
      have c2 := (hbw.cell (p := ⟨b, o + k * 6 + 2, none⟩) hb).trans (by simpa using hcx 2 _ rfl)
      have c3 := (hbw.cell (p := ⟨b, o + k * 6 + 3, none⟩) hb).trans (by simpa using hcx 3 _ rfl)
      have c4 := (hbw.cell (p := ⟨b, o + k * 6 + 4, none⟩) hb).trans (by simpa using hcx 4 _ rfl)
      have c5 := (hbw.cell (p := ⟨b, o + k * 6 + 5, none⟩) hb).trans (by simpa using hcx 5 _ rfl)
      have HXx := Lib.hid hxx
      clear hxx hcx
      obtain ⟨v0, g0⟩ := hblk.get (i := k * 6) (by rw [hcl.out]; omega)
      obtain ⟨v1, g1⟩ := hblk.get (i := k * 6 + 1) (by rw [hcl.out]; omega)
      obtain ⟨v2, g2⟩ := hblk.get (i := k * 6 + 2) (by rw [hcl.out]; omega)
      obtain ⟨v3, g3⟩ := hblk.get (i := k * 6 + 3) (by rw [hcl.out]; omega)
      obtain ⟨v4, g4⟩ := hblk.get (i := k * 6 + 4) (by rw [hcl.out]; omega)
      obtain ⟨v5, g5⟩ := hblk.get (i := k * 6 + 5) (by rw [hcl.out]; omega)
      have f0 := hblk.frozen (k * 6)
      have f1 := hblk.frozen (k * 6 + 1)
      have f2 := hblk.frozen (k * 6 + 2)
      have f3 := hblk.frozen (k * 6 + 3)
      have f4 := hblk.frozen (k * 6 + 4)
      have f5 := hblk.frozen (k * 6 + 5)
      go_wp2_with (go_at_call 83; refine (toDesc_c _ _ _ _ _ _ _).mono ?_; rintro e w1 ⟨rfl, hb1⟩; have hk1 : Below w.heap.size w w1 := ext_step hbw hbw.size hb1; have hbk := hblk.ext hb1; have d0 := (hb1.cell (p := ⟨w.heap.size, k * 6, none⟩) hgl).trans g0; have d1 := (hb1.cell (p := ⟨w.heap.size, k * 6 + 1, none⟩) hgl).trans g1; have d2 := (hb1.cell (p := ⟨w.heap.size, k * 6 + 2, none⟩) hgl).trans g2; have d3 := (hb1.cell (p := ⟨w.heap.size, k * 6 + 3, none⟩) hgl).trans g3; have d4 := (hb1.cell (p := ⟨w.heap.size, k * 6 + 4, none⟩) hgl).trans g4; have d5 := (hb1.cell (p := ⟨w.heap.size, k * 6 + 5, none⟩) hgl).trans g5; have e0 := hbk.frozen (k * 6); have e1 := hbk.frozen (k * 6 + 1); have e2 := hbk.frozen (k * 6 + 2); have e3 := hbk.frozen (k * 6 + 3); have e4 := hbk.frozen (k * 6 + 4); have e5 := hbk.frozen (k * 6 + 5); have hgl1 := hbk.lt; clear hb1)
      go_roundw
      case rel => exact ⟨k + 1, setsAt cs (k * 6) (Desc.cells x), by omega, by go_num, (Below.setCell (Below.setCell (Below.setCell (Below.setCell (Below.setCell (Below.setCell hk1 (by simp) _) (by simp) _) (by simp) _) (by simp) _) (by simp) _) (by simp) _), ((((((hbk.set_ _ _).set_ _ _).set_ _ _).set_ _ _).set_ _ _).set_ _ _), by rw [Hid, setsAt_len]; exact hcl.out, take_elem (cells := Desc.cells) (fun _ => rfl) HXx.out hcl.out hlt htk.out⟩
      case measure => simp [intOf]; omega
    · go_wp2
      go_ret
      refine ⟨_, rfl, Nat.le_refl _, ?_, hbw⟩
      have h1 := htk.out
      rw [take_all HN.out hlt, List.take_of_length_le (by rw [hcl.out]; exact Nat.mul_le_mul_right _ (by omega))] at h1
      rw [← h1]
      exact hblk
set_option maxHeartbeats 1000000 in
theorem szDescS_c (A : Option Addr) (n c : Nat) (left : Int) (w : World) (h0 : 0 ≤ left) (h1 : left ≤ 1048576) (hm : n ≤ 9223372036854775807) :
    Calls Try.prog 54 #[.slice A n c, .int .i64 left] w fun e w' => e = .returned (.int .i64 (if left - n < 0 then -1 else left - n)) ∧ w = w' := by
  by_cases h : left - n < 0
  · go_enter Try.func54, Try.ntmps54
    go_wp2
    go_ret
    exact ⟨ret_int (by first | omega | (split <;> omega)), rfl⟩
  · go_enter Try.func54, Try.ntmps54
    go_wp2
    go_ret
    exact ⟨ret_int (by first | omega | (split <;> omega)), rfl⟩
theorem szDescS_c2 (A : Option Addr) (n c : Nat) (left : Int) (w : World) (h0 : 0 ≤ left) (h1 : left ≤ 1048576) (hm : n ≤ 9223372036854775807) :
    Calls Try.prog 54 #[.slice A n c, .int .i64 left] w fun e w' => e = .returned (.int .i64 (szI (left - n))) ∧ w = w' := szDescS_c A n c left w h0 h1 hm
set_option maxHeartbeats 1000000 in
theorem eqDesc_c (op : Int) (fl : Int) (ln : Int) (at_ : Int) (sz : Int) (ck : Int) (w : World) :
    Calls Try.prog 48 #[.agg #[.int .i64 op, .int .i64 fl, .int .i64 ln, .int .i64 at_, .int .i64 sz, .int .i64 ck], .agg #[.int .i64 op, .int .i64 fl, .int .i64 ln, .int .i64 at_, .int .i64 sz, .int .i64 ck]] w fun e w' => e = .returned (.bool true) ∧ Below w.heap.size w w' := by
  go_enter Try.func48, Try.ntmps48
  go_wp2
  go_ret
  exact ⟨rfl, by go_grown⟩
set_option maxHeartbeats 2000000 in
/-- Two slices that read as the same list are equal. -/
theorem eqDescS_c (A A' : Option Addr) (n c c' : Nat) (l : List Desc) (w : World) (hn : l.length = n) (hm : n ≤ 140737488355328) (hr : Reads w w.heap.size 6 A n (l.flatMap Desc.cells)) (hr' : Reads w w.heap.size 6 A' n (l.flatMap Desc.cells)) :
    Calls Try.prog 51 #[.slice A n c, .slice A' n c'] w fun e w' => e = .returned (.bool true) ∧ Below w.heap.size w w' := by
  have HN := Lib.hid hn
  clear hn
  go_enter Try.func51, Try.ntmps51
  go_wp2
  go_loopw [5] (fun i wr => ∃ k : Nat, k ≤ n ∧ i = .int .i64 k ∧ Below w.heap.size w wr) (fun i _ => n - (intOf i).toNat)
  case atStart => exact ⟨0, Nat.zero_le _, rfl, Below.refl _ _⟩
  case round =>
    obtain ⟨k, hk, rfl, hbw⟩ := hrel
    have hsz := hbw.size
    by_cases hlt : k < n
    · obtain ⟨b, o, x, rfl, hb, hxx, hcx⟩ := hr.el (fun _ => rfl) (by decide) HN.out hlt
      have c0 := (hbw.cell (p := ⟨b, o + k * 6, none⟩) hb).trans (by simpa using hcx 0 _ rfl)
      have c1 := (hbw.cell (p := ⟨b, o + k * 6 + 1, none⟩) hb).trans (by simpa using hcx 1 _ rfl)
      have c2 := (hbw.cell (p := ⟨b, o + k * 6 + 2, none⟩) hb).trans (by simpa using hcx 2 _ rfl)
      have c3 := (hbw.cell (p := ⟨b, o + k * 6 + 3, none⟩) hb).trans (by simpa using hcx 3 _ rfl)
      have c4 := (hbw.cell (p := ⟨b, o + k * 6 + 4, none⟩) hb).trans (by simpa using hcx 4 _ rfl)
      have c5 := (hbw.cell (p := ⟨b, o + k * 6 + 5, none⟩) hb).trans (by simpa using hcx 5 _ rfl)
      have HXx := Lib.hid hxx
      clear hxx hcx
      obtain ⟨b', o', y, rfl, hb', hxy, hcy⟩ := hr'.el (fun _ => rfl) (by decide) HN.out hlt
      have d0 := (hbw.cell (p := ⟨b', o' + k * 6, none⟩) hb').trans (by simpa using hcy 0 _ rfl)
      have d1 := (hbw.cell (p := ⟨b', o' + k * 6 + 1, none⟩) hb').trans (by simpa using hcy 1 _ rfl)
      have d2 := (hbw.cell (p := ⟨b', o' + k * 6 + 2, none⟩) hb').trans (by simpa using hcy 2 _ rfl)
      have d3 := (hbw.cell (p := ⟨b', o' + k * 6 + 3, none⟩) hb').trans (by simpa using hcy 3 _ rfl)
      have d4 := (hbw.cell (p := ⟨b', o' + k * 6 + 4, none⟩) hb').trans (by simpa using hcy 4 _ rfl)
      have d5 := (hbw.cell (p := ⟨b', o' + k * 6 + 5, none⟩) hb').trans (by simpa using hcy 5 _ rfl)
      have HXy := Lib.hid hxy
      clear hxy hcy
      obtain rfl : x = y := by
        have h1 := HXx.out
        rw [HXy.out] at h1
        injection h1 with h1
        exact h1.symm
      have l1 : (k : Int) < (n : Int) := by omega
      have hx : ∀ t : Ext wr, t.wd.cell? ⟨b, o + k * 6, none⟩ = some (.int .i64 x.op) ∧ t.wd.cell? ⟨b, o + k * 6 + 1, none⟩ = some (.int .i64 x.fl) ∧ t.wd.cell? ⟨b, o + k * 6 + 2, none⟩ = some (.int .i64 x.ln) ∧ t.wd.cell? ⟨b, o + k * 6 + 3, none⟩ = some (.int .i64 x.at_) ∧ t.wd.cell? ⟨b, o + k * 6 + 4, none⟩ = some (.int .i64 x.sz) ∧ t.wd.cell? ⟨b, o + k * 6 + 5, none⟩ = some (.int .i64 x.ck) ∧ t.wd.cell? ⟨b', o' + k * 6, none⟩ = some (.int .i64 x.op) ∧ t.wd.cell? ⟨b', o' + k * 6 + 1, none⟩ = some (.int .i64 x.fl) ∧ t.wd.cell? ⟨b', o' + k * 6 + 2, none⟩ = some (.int .i64 x.ln) ∧ t.wd.cell? ⟨b', o' + k * 6 + 3, none⟩ = some (.int .i64 x.at_) ∧ t.wd.cell? ⟨b', o' + k * 6 + 4, none⟩ = some (.int .i64 x.sz) ∧ t.wd.cell? ⟨b', o' + k * 6 + 5, none⟩ = some (.int .i64 x.ck) := fun t => ⟨t.cell c0, t.cell c1, t.cell c2, t.cell c3, t.cell c4, t.cell c5, t.cell d0, t.cell d1, t.cell d2, t.cell d3, t.cell d4, t.cell d5⟩
      go_wp2_with fail
      refine wp_region_ext_lit (by kernel_rfl) (by kernel_rfl) ?_
      repeat (go_big_quiet_step (((go_at_call 48; exact ext_call (eqDesc_c _ _ _ _ _ _ _)))))
      refine wpQuiet_nil ?_
      intro _ hw'
      obtain ⟨tq, hw''⟩ := hw'
      subst hw''
      have hk1 : Below w.heap.size w tq.wd := ext_step hbw hbw.size tq.below
      go_wp2
      go_roundw
      case rel => exact ⟨k + 1, by omega, by go_num, hk1⟩
      case measure => simp [intOf]; omega
    · go_wp2
      go_ret
      exact ⟨rfl, hbw⟩
/-- What the laws write into an element's cells, from a number on. -/
def mkDescS (q : Int) : List Value := [.int .i64 (q), .int .i64 (q + 1), .int .i64 (q + 1 + 1), .int .i64 (q + 1 + 1 + 1), .int .i64 (q + 1 + 1 + 1 + 1), .int .i64 (q + 1 + 1 + 1 + 1 + 1)]
def marksDescS (n : Nat) (q : Int) : List Value := (List.range n).flatMap fun (i : Nat) => mkDescS (q + (i : Int) * 6)
set_option maxHeartbeats 4000000 in
/-- Every cell of a row of the caller's own is overwritten. -/
theorem markDescS_c (A : Option Addr) (n c base : Nat) (xs : List Value) (q : Int) (w : World) (hown : w.ownsRow base 62 6 (.slice A n c) n xs) (hq0 : 0 ≤ q) (hq1 : q ≤ 1000000000) (hm : n ≤ 4194304) :
    Calls Try.prog 52 #[.slice A n c, .int .i64 q] w fun e w' => e = .returned (.int .i64 (q + n * 6)) ∧ w'.ownsRow base 62 6 (.slice A n c) n (marksDescS n q) ∧ w.grownBy w' (Value.slice A n c).ownBlock := by
  rcases hown.2 with ⟨hv, hn⟩ | ⟨g, cap, cur, hv, hbg, hblk, hnc, hcm, hsz, htk⟩
  · injection hv with h1 h2 h3
    subst h1; subst h3; subst hn
    go_enter Try.func52, Try.ntmps52
    go_wp2
    go_loopw [1, 5] (fun q' i wr => q' = .int .i64 q ∧ i = .int .i64 0 ∧ wr = w) (fun _ _ _ => 0)
    case atStart => exact ⟨rfl, rfl, rfl⟩
    case round =>
      obtain ⟨rfl, rfl, rfl⟩ := hrel
      go_wp2
      go_ret
      exact ⟨ret_int (by omega), ⟨by simp [marksDescS], .inl ⟨rfl, rfl⟩⟩, World.grownBy.refl _ _⟩
  · injection hv with h1 h2 h3
    subst h1; subst h3
    have hlen := hown.1
    have hcl : cur.toList.length = c * 6 := by simpa using hsz
    have HB0 : Blk w g 62 cur.toList := hblk
    have HC0 := Lib.hid hcl
    have hblt := HB0.lt
    clear hblk hsz hcl htk hlen hown
    generalize cur.toList = cu at *
    go_enter Try.func52, Try.ntmps52
    go_wp2
    go_loopw [1, 5] (fun q' i wr => ∃ k : Nat, ∃ cs : List Value, k ≤ n ∧ q' = .int .i64 (q + (k : Int) * 6) ∧ i = .int .i64 k ∧ w.grownBy wr (some g) ∧ Blk wr g 62 cs ∧ Hid (cs.length = c * 6) ∧ Hid (cs.take (k * 6) = ((List.range n).take k).flatMap fun (i : Nat) => mkDescS (q + (i : Int) * 6))) (fun _ i _ => n - (intOf i).toNat)
    case atStart => exact ⟨0, cu, Nat.zero_le _, by simp, rfl, World.grownBy.refl _ _, HB0, HC0, by simp [Hid]⟩
    case round =>
      obtain ⟨k, cs, hk, rfl, rfl, hgr, hbk, hcl, htk⟩ := hrel
      have hgl := hbk.lt
      have hgz := hgr.size
      by_cases hlt : k < n
      · have hr : (List.range n)[k]? = some k := by simp [hlt]
        have HR := Lib.hid hr
        clear hr
        obtain ⟨v0, g0⟩ := hbk.get (i := k * 6) (by rw [hcl.out]; omega)
        obtain ⟨v1, g1⟩ := hbk.get (i := k * 6 + 1) (by rw [hcl.out]; omega)
        obtain ⟨v2, g2⟩ := hbk.get (i := k * 6 + 2) (by rw [hcl.out]; omega)
        obtain ⟨v3, g3⟩ := hbk.get (i := k * 6 + 3) (by rw [hcl.out]; omega)
        obtain ⟨v4, g4⟩ := hbk.get (i := k * 6 + 4) (by rw [hcl.out]; omega)
        obtain ⟨v5, g5⟩ := hbk.get (i := k * 6 + 5) (by rw [hcl.out]; omega)
        have f0 := hbk.frozen (k * 6)
        have f1 := hbk.frozen (k * 6 + 1)
        have f2 := hbk.frozen (k * 6 + 2)
        have f3 := hbk.frozen (k * 6 + 3)
        have f4 := hbk.frozen (k * 6 + 4)
        have f5 := hbk.frozen (k * 6 + 5)
        go_wp2
        go_roundw
        case rel =>
          refine ⟨k + 1, setsAt cs (k * 6) (mkDescS (q + (k : Int) * 6)), by omega, by go_num, by go_num, (only_setCell (only_setCell (only_setCell (only_setCell (only_setCell (only_setCell hgr (.inl rfl) _) (.inl rfl) _) (.inl rfl) _) (.inl rfl) _) (.inl rfl) _) (.inl rfl) _), ?_, by rw [Hid, setsAt_len]; exact hcl.out, ?_⟩
          · exact ((((((hbk.set_ _ _).set_ _ _).set_ _ _).set_ _ _).set_ _ _).set_ _ _)
          · have h2 : c * 6 = c * 6 := rfl
            exact take_elem (cells := fun i : Nat => mkDescS (q + (i : Int) * 6)) (fun _ => rfl) HR.out hcl.out (by omega) htk.out
        case measure => simp [intOf]; omega
      · have hkn : k = n := by omega
        subst hkn
        go_wp2
        go_ret
        refine ⟨ret_int (by omega), ⟨?_, .inr ⟨g, c, cs.toArray, rfl, hbg, hbk, hnc, hcm, by simpa using hcl.out, ?_⟩⟩, hgr⟩
        · rw [marksDescS, flatMap_len _ 6 (fun _ => rfl)]; simp
        · have h1 := htk.out
          rw [show (List.range k).take k = List.range k from List.take_of_length_le (by simp)] at h1
          exact h1
set_option maxHeartbeats 4000000 in
/-- A row that holds the marks holds them. -/
theorem heldDescS_c (A : Option Addr) (n c : Nat) (q : Int) (w : World) (hr : Reads w w.heap.size 6 A n (marksDescS n q)) (hq0 : 0 ≤ q) (hq1 : q ≤ 1000000000) (hm : n ≤ 4194304) :
    Calls Try.prog 53 #[.slice A n c, .int .i64 q] w fun e w' => e = .returned (.int .i64 (q + n * 6)) ∧ Below w.heap.size w w' := by
  go_enter Try.func53, Try.ntmps53
  go_wp2
  go_loopw [1, 5] (fun q' i wr => ∃ k : Nat, k ≤ n ∧ q' = .int .i64 (q + (k : Int) * 6) ∧ i = .int .i64 k ∧ Below w.heap.size w wr) (fun _ i _ => n - (intOf i).toNat)
  case atStart => exact ⟨0, Nat.zero_le _, by simp, rfl, Below.refl _ _⟩
  case round =>
    obtain ⟨k, hk, rfl, rfl, hbw⟩ := hrel
    have hsz := hbw.size
    by_cases hlt : k < n
    · obtain ⟨b, o, x, rfl, hb, hx, hc⟩ := Reads.el (cells := fun i : Nat => mkDescS (q + (i : Int) * 6)) (l := List.range n) hr (fun _ => rfl) (by decide) (by simp) hlt
      have hxk : k = x := by simpa [hlt] using hx
      subst hxk
      have c0 := (hbw.cell (p := ⟨b, o + k * 6, none⟩) hb).trans (by simpa using hc 0 _ rfl)
      have c1 := (hbw.cell (p := ⟨b, o + k * 6 + 1, none⟩) hb).trans (by simpa using hc 1 _ rfl)
      have c2 := (hbw.cell (p := ⟨b, o + k * 6 + 2, none⟩) hb).trans (by simpa using hc 2 _ rfl)
      have c3 := (hbw.cell (p := ⟨b, o + k * 6 + 3, none⟩) hb).trans (by simpa using hc 3 _ rfl)
      have c4 := (hbw.cell (p := ⟨b, o + k * 6 + 4, none⟩) hb).trans (by simpa using hc 4 _ rfl)
      have c5 := (hbw.cell (p := ⟨b, o + k * 6 + 5, none⟩) hb).trans (by simpa using hc 5 _ rfl)
      clear hx hc
      go_wp2
      go_roundw
      case rel => exact ⟨k + 1, by omega, by go_num, by go_num, by go_grown⟩
      case measure => simp [intOf]; omega
    · have hkn : k = n := by omega
      subst hkn
      go_wp2
      go_ret
      exact ⟨ret_int (by omega), hbw⟩
end Go.Proofs.Yteajedcoidljhaa
