/- Contracts of the laws' helpers on rules, slots and steerings: to, sz, eq. -/
import Derived.Test.YtifbfmafogmemaaStP
import Derived.Test.YtifbfmafogmemaaConvInt
import Derived.Test.YtifbfmafogmemaaConvIntT
import Derived.Test.YtifbfmafogmemaaSlots4
import Derived.Test.YtifbfmafogmemaaRetB
namespace Go.Proofs.Ytifbfmafogmemaa
set_option linter.unusedSimpArgs false
set_option linter.unusedVariables false
open Go.RowKit Go.ChangeShapes Go.WideShapes
set_option maxHeartbeats 1000000 in
theorem toRule_c (prio : Int) (kind : Int) (sip : Int) (sbits : Int) (fport : Int) (lport : Int) (vlan : Int) (action : Int) (queue : Int) (w : World) :
    Calls Try.prog 148 #[.agg #[.int .i64 prio, .int .i64 kind, .int .i64 sip, .int .i64 sbits, .int .i64 fport, .int .i64 lport, .int .i64 vlan, .int .i64 action, .int .i64 queue]] w fun e w' => e = .returned (.agg #[.int .i64 prio, .int .i64 kind, .int .i64 sip, .int .i64 sbits, .int .i64 fport, .int .i64 lport, .int .i64 vlan, .int .i64 action, .int .i64 queue]) ∧ Below w.heap.size w w' := by
  go_enter Try.func148, Try.ntmps148
  go_wp2
  go_returns
  exact ⟨rfl, by go_grown⟩
theorem info_Rule : (Try.prog.info? 121).map (fun i => (i.zero, i.size, i.bytes)) = some (some (.agg #[.int .i64 0, .int .i64 0, .int .i64 0, .int .i64 0, .int .i64 0, .int .i64 0, .int .i64 0, .int .i64 0, .int .i64 0]), 9, 72) := by kernel_rfl
set_option maxHeartbeats 2000000 in
/-- A slice that came in is copied into a row of the call's own. -/
theorem toRuleS_c (A : Option Addr) (n c : Nat) (l : List Rule) (w : World) (hn : l.length = n) (hm : n ≤ 1048576) (hr : Reads w w.heap.size 9 A n (l.flatMap Rule.cells)) :
    Calls Try.prog 83 #[.slice A n c] w fun e w' => ∃ g, e = .returned (.slice (some ⟨g, 0, none⟩) n n) ∧ w.heap.size ≤ g ∧ Blk w' g 121 (l.flatMap Rule.cells) ∧ Below w.heap.size w w' := by
  obtain ⟨i0, hi, hz0, hz1, hz2⟩ := info_parts info_Rule
  have hmk := fun W => run_make_rowN (P := Try.prog) 52 121 i0 _ 9 72 Try.underlying52 hi hz0 hz1 hz2 n n (Nat.le_refl _) (by omega) (by omega) W
  have HN := Lib.hid hn
  clear hn hi hz0 hz1 hz2
  have hsz0 := madeCells_len (.agg #[.int .i64 0, .int .i64 0, .int .i64 0, .int .i64 0, .int .i64 0, .int .i64 0, .int .i64 0, .int .i64 0, .int .i64 0] : Value).cells (n * 9)
  have HZ := Lib.hid hsz0
  generalize (madeCells (.agg #[.int .i64 0, .int .i64 0, .int .i64 0, .int .i64 0, .int .i64 0, .int .i64 0, .int .i64 0, .int .i64 0, .int .i64 0] : Value).cells (n * 9)).toList = z at *
  clear hsz0
  go_enter Try.func83, Try.ntmps83
  go_wp2
  go_loopw [4] (fun i wr => ∃ k : Nat, ∃ cs : List Value, k ≤ n ∧ i = .int .i64 k ∧ Below w.heap.size w wr ∧ Blk wr w.heap.size 121 cs ∧ Hid (cs.length = n * 9) ∧ Hid (cs.take (k * 9) = (l.take k).flatMap Rule.cells)) (fun i _ => n - (intOf i).toNat)
  case atStart => exact ⟨0, z, Nat.zero_le _, rfl, by go_grown, Blk.new _ _ _, HZ, by simp [Hid]⟩
  case round =>
    obtain ⟨k, cs, hk, rfl, hbw, hblk, hcl, htk⟩ := hrel
    have hsz := hbw.size
    have hgl := hblk.lt
    by_cases hlt : k < n
    · obtain ⟨b, o, x, rfl, hb, hxx, hcx⟩ := hr.el (fun _ => rfl) (by decide) HN.out hlt
      have c0 := (hbw.cell (p := ⟨b, o + k * 9, none⟩) hb).trans (by simpa using hcx 0 _ rfl)
      have c1 := (hbw.cell (p := ⟨b, o + k * 9 + 1, none⟩) hb).trans (by simpa using hcx 1 _ rfl)
      have c2 := (hbw.cell (p := ⟨b, o + k * 9 + 2, none⟩) hb).trans (by simpa using hcx 2 _ rfl)
      have c3 := (hbw.cell (p := ⟨b, o + k * 9 + 3, none⟩) hb).trans (by simpa using hcx 3 _ rfl)
      have c4 := (hbw.cell (p := ⟨b, o + k * 9 + 4, none⟩) hb).trans (by simpa using hcx 4 _ rfl)
      have c5 := (hbw.cell (p := ⟨b, o + k * 9 + 5, none⟩) hb).trans (by simpa using hcx 5 _ rfl)
      have c6 := (hbw.cell (p := ⟨b, o + k * 9 + 6, none⟩) hb).trans (by simpa using hcx 6 _ rfl)
      have c7 := (hbw.cell (p := ⟨b, o + k * 9 + 7, none⟩) hb).trans (by simpa using hcx 7 _ rfl)
      have c8 := (hbw.cell (p := ⟨b, o + k * 9 + 8, none⟩) hb).trans (by simpa using hcx 8 _ rfl)
      have HXx := Lib.hid hxx
      clear hxx hcx
      obtain ⟨v0, g0⟩ := hblk.get (i := k * 9) (by rw [hcl.out]; omega)
      obtain ⟨v1, g1⟩ := hblk.get (i := k * 9 + 1) (by rw [hcl.out]; omega)
      obtain ⟨v2, g2⟩ := hblk.get (i := k * 9 + 2) (by rw [hcl.out]; omega)
      obtain ⟨v3, g3⟩ := hblk.get (i := k * 9 + 3) (by rw [hcl.out]; omega)
      obtain ⟨v4, g4⟩ := hblk.get (i := k * 9 + 4) (by rw [hcl.out]; omega)
      obtain ⟨v5, g5⟩ := hblk.get (i := k * 9 + 5) (by rw [hcl.out]; omega)
      obtain ⟨v6, g6⟩ := hblk.get (i := k * 9 + 6) (by rw [hcl.out]; omega)
      obtain ⟨v7, g7⟩ := hblk.get (i := k * 9 + 7) (by rw [hcl.out]; omega)
      obtain ⟨v8, g8⟩ := hblk.get (i := k * 9 + 8) (by rw [hcl.out]; omega)
      have f0 := hblk.frozen (k * 9)
      have f1 := hblk.frozen (k * 9 + 1)
      have f2 := hblk.frozen (k * 9 + 2)
      have f3 := hblk.frozen (k * 9 + 3)
      have f4 := hblk.frozen (k * 9 + 4)
      have f5 := hblk.frozen (k * 9 + 5)
      have f6 := hblk.frozen (k * 9 + 6)
      have f7 := hblk.frozen (k * 9 + 7)
      have f8 := hblk.frozen (k * 9 + 8)
      go_wp2_with (go_at_call 148; refine (toRule_c _ _ _ _ _ _ _ _ _ _).mono ?_; rintro e w1 ⟨rfl, hb1⟩; have hk1 : Below w.heap.size w w1 := ext_step hbw hbw.size hb1; have hbk := hblk.ext hb1; have d0 := (hb1.cell (p := ⟨w.heap.size, k * 9, none⟩) hgl).trans g0; have d1 := (hb1.cell (p := ⟨w.heap.size, k * 9 + 1, none⟩) hgl).trans g1; have d2 := (hb1.cell (p := ⟨w.heap.size, k * 9 + 2, none⟩) hgl).trans g2; have d3 := (hb1.cell (p := ⟨w.heap.size, k * 9 + 3, none⟩) hgl).trans g3; have d4 := (hb1.cell (p := ⟨w.heap.size, k * 9 + 4, none⟩) hgl).trans g4; have d5 := (hb1.cell (p := ⟨w.heap.size, k * 9 + 5, none⟩) hgl).trans g5; have d6 := (hb1.cell (p := ⟨w.heap.size, k * 9 + 6, none⟩) hgl).trans g6; have d7 := (hb1.cell (p := ⟨w.heap.size, k * 9 + 7, none⟩) hgl).trans g7; have d8 := (hb1.cell (p := ⟨w.heap.size, k * 9 + 8, none⟩) hgl).trans g8; have e0 := hbk.frozen (k * 9); have e1 := hbk.frozen (k * 9 + 1); have e2 := hbk.frozen (k * 9 + 2); have e3 := hbk.frozen (k * 9 + 3); have e4 := hbk.frozen (k * 9 + 4); have e5 := hbk.frozen (k * 9 + 5); have e6 := hbk.frozen (k * 9 + 6); have e7 := hbk.frozen (k * 9 + 7); have e8 := hbk.frozen (k * 9 + 8); have hgl1 := hbk.lt; clear hb1)
      go_roundw
      case rel => exact ⟨k + 1, setsAt cs (k * 9) (Rule.cells x), by omega, by go_num, (Below.setCell (Below.setCell (Below.setCell (Below.setCell (Below.setCell (Below.setCell (Below.setCell (Below.setCell (Below.setCell hk1 (by simp) _) (by simp) _) (by simp) _) (by simp) _) (by simp) _) (by simp) _) (by simp) _) (by simp) _) (by simp) _), (((((((((hbk.set_ _ _).set_ _ _).set_ _ _).set_ _ _).set_ _ _).set_ _ _).set_ _ _).set_ _ _).set_ _ _), by rw [Hid, setsAt_len]; exact hcl.out, take_elem (cells := Rule.cells) (fun _ => rfl) HXx.out hcl.out hlt htk.out⟩
      case measure => simp [intOf]; omega
    · go_wp2
      go_ret
      refine ⟨_, rfl, Nat.le_refl _, ?_, hbw⟩
      have h1 := htk.out
      rw [take_all HN.out hlt, List.take_of_length_le (by rw [hcl.out]; exact Nat.mul_le_mul_right _ (by omega))] at h1
      rw [← h1]
      exact hblk
set_option maxHeartbeats 1000000 in
theorem szRuleS_c (A : Option Addr) (n c : Nat) (left : Int) (w : World) (h0 : 0 ≤ left) (h1 : left ≤ 1048576) (hm : n ≤ 9223372036854775807) :
    Calls Try.prog 76 #[.slice A n c, .int .i64 left] w fun e w' => e = .returned (.int .i64 (if left - n < 0 then -1 else left - n)) ∧ w = w' := by
  by_cases h : left - n < 0
  · go_enter Try.func76, Try.ntmps76
    go_wp2
    go_ret
    exact ⟨ret_int (by first | omega | (split <;> omega)), rfl⟩
  · go_enter Try.func76, Try.ntmps76
    go_wp2
    go_ret
    exact ⟨ret_int (by first | omega | (split <;> omega)), rfl⟩
theorem szRuleS_c2 (A : Option Addr) (n c : Nat) (left : Int) (w : World) (h0 : 0 ≤ left) (h1 : left ≤ 1048576) (hm : n ≤ 9223372036854775807) :
    Calls Try.prog 76 #[.slice A n c, .int .i64 left] w fun e w' => e = .returned (.int .i64 (szI (left - n))) ∧ w = w' := szRuleS_c A n c left w h0 h1 hm
set_option maxHeartbeats 1000000 in
theorem eqRule_c (prio : Int) (kind : Int) (sip : Int) (sbits : Int) (fport : Int) (lport : Int) (vlan : Int) (action : Int) (queue : Int) (w : World) :
    Calls Try.prog 154 #[.agg #[.int .i64 prio, .int .i64 kind, .int .i64 sip, .int .i64 sbits, .int .i64 fport, .int .i64 lport, .int .i64 vlan, .int .i64 action, .int .i64 queue], .agg #[.int .i64 prio, .int .i64 kind, .int .i64 sip, .int .i64 sbits, .int .i64 fport, .int .i64 lport, .int .i64 vlan, .int .i64 action, .int .i64 queue]] w fun e w' => e = .returned (.bool true) ∧ Below w.heap.size w w' := by
  go_enter Try.func154, Try.ntmps154
  go_wp2
  go_ret
  exact ⟨rfl, by go_grown⟩
set_option maxHeartbeats 2000000 in
/-- Two slices that read as the same list are equal. -/
theorem eqRuleS_c (A A' : Option Addr) (n c c' : Nat) (l : List Rule) (w : World) (hn : l.length = n) (hm : n ≤ 140737488355328) (hr : Reads w w.heap.size 9 A n (l.flatMap Rule.cells)) (hr' : Reads w w.heap.size 9 A' n (l.flatMap Rule.cells)) :
    Calls Try.prog 90 #[.slice A n c, .slice A' n c'] w fun e w' => e = .returned (.bool true) ∧ Below w.heap.size w w' := by
  have HN := Lib.hid hn
  clear hn
  go_enter Try.func90, Try.ntmps90
  go_wp2
  go_loopw [5] (fun i wr => ∃ k : Nat, k ≤ n ∧ i = .int .i64 k ∧ Below w.heap.size w wr) (fun i _ => n - (intOf i).toNat)
  case atStart => exact ⟨0, Nat.zero_le _, rfl, Below.refl _ _⟩
  case round =>
    obtain ⟨k, hk, rfl, hbw⟩ := hrel
    have hsz := hbw.size
    by_cases hlt : k < n
    · obtain ⟨b, o, x, rfl, hb, hxx, hcx⟩ := hr.el (fun _ => rfl) (by decide) HN.out hlt
      have c0 := (hbw.cell (p := ⟨b, o + k * 9, none⟩) hb).trans (by simpa using hcx 0 _ rfl)
      have c1 := (hbw.cell (p := ⟨b, o + k * 9 + 1, none⟩) hb).trans (by simpa using hcx 1 _ rfl)
      have c2 := (hbw.cell (p := ⟨b, o + k * 9 + 2, none⟩) hb).trans (by simpa using hcx 2 _ rfl)
      have c3 := (hbw.cell (p := ⟨b, o + k * 9 + 3, none⟩) hb).trans (by simpa using hcx 3 _ rfl)
      have c4 := (hbw.cell (p := ⟨b, o + k * 9 + 4, none⟩) hb).trans (by simpa using hcx 4 _ rfl)
      have c5 := (hbw.cell (p := ⟨b, o + k * 9 + 5, none⟩) hb).trans (by simpa using hcx 5 _ rfl)
      have c6 := (hbw.cell (p := ⟨b, o + k * 9 + 6, none⟩) hb).trans (by simpa using hcx 6 _ rfl)
      have c7 := (hbw.cell (p := ⟨b, o + k * 9 + 7, none⟩) hb).trans (by simpa using hcx 7 _ rfl)
      have c8 := (hbw.cell (p := ⟨b, o + k * 9 + 8, none⟩) hb).trans (by simpa using hcx 8 _ rfl)
      have HXx := Lib.hid hxx
      clear hxx hcx
      obtain ⟨b', o', y, rfl, hb', hxy, hcy⟩ := hr'.el (fun _ => rfl) (by decide) HN.out hlt
      have d0 := (hbw.cell (p := ⟨b', o' + k * 9, none⟩) hb').trans (by simpa using hcy 0 _ rfl)
      have d1 := (hbw.cell (p := ⟨b', o' + k * 9 + 1, none⟩) hb').trans (by simpa using hcy 1 _ rfl)
      have d2 := (hbw.cell (p := ⟨b', o' + k * 9 + 2, none⟩) hb').trans (by simpa using hcy 2 _ rfl)
      have d3 := (hbw.cell (p := ⟨b', o' + k * 9 + 3, none⟩) hb').trans (by simpa using hcy 3 _ rfl)
      have d4 := (hbw.cell (p := ⟨b', o' + k * 9 + 4, none⟩) hb').trans (by simpa using hcy 4 _ rfl)
      have d5 := (hbw.cell (p := ⟨b', o' + k * 9 + 5, none⟩) hb').trans (by simpa using hcy 5 _ rfl)
      have d6 := (hbw.cell (p := ⟨b', o' + k * 9 + 6, none⟩) hb').trans (by simpa using hcy 6 _ rfl)
      have d7 := (hbw.cell (p := ⟨b', o' + k * 9 + 7, none⟩) hb').trans (by simpa using hcy 7 _ rfl)
      have d8 := (hbw.cell (p := ⟨b', o' + k * 9 + 8, none⟩) hb').trans (by simpa using hcy 8 _ rfl)
      have HXy := Lib.hid hxy
      clear hxy hcy
      obtain rfl : x = y := by
        have h1 := HXx.out
        rw [HXy.out] at h1
        injection h1 with h1
        exact h1.symm
      have l1 : (k : Int) < (n : Int) := by omega
      have hx : ∀ t : Ext wr, t.wd.cell? ⟨b, o + k * 9, none⟩ = some (.int .i64 x.prio) ∧ t.wd.cell? ⟨b, o + k * 9 + 1, none⟩ = some (.int .i64 x.kind) ∧ t.wd.cell? ⟨b, o + k * 9 + 2, none⟩ = some (.int .i64 x.sip) ∧ t.wd.cell? ⟨b, o + k * 9 + 3, none⟩ = some (.int .i64 x.sbits) ∧ t.wd.cell? ⟨b, o + k * 9 + 4, none⟩ = some (.int .i64 x.fport) ∧ t.wd.cell? ⟨b, o + k * 9 + 5, none⟩ = some (.int .i64 x.lport) ∧ t.wd.cell? ⟨b, o + k * 9 + 6, none⟩ = some (.int .i64 x.vlan) ∧ t.wd.cell? ⟨b, o + k * 9 + 7, none⟩ = some (.int .i64 x.action) ∧ t.wd.cell? ⟨b, o + k * 9 + 8, none⟩ = some (.int .i64 x.queue) ∧ t.wd.cell? ⟨b', o' + k * 9, none⟩ = some (.int .i64 x.prio) ∧ t.wd.cell? ⟨b', o' + k * 9 + 1, none⟩ = some (.int .i64 x.kind) ∧ t.wd.cell? ⟨b', o' + k * 9 + 2, none⟩ = some (.int .i64 x.sip) ∧ t.wd.cell? ⟨b', o' + k * 9 + 3, none⟩ = some (.int .i64 x.sbits) ∧ t.wd.cell? ⟨b', o' + k * 9 + 4, none⟩ = some (.int .i64 x.fport) ∧ t.wd.cell? ⟨b', o' + k * 9 + 5, none⟩ = some (.int .i64 x.lport) ∧ t.wd.cell? ⟨b', o' + k * 9 + 6, none⟩ = some (.int .i64 x.vlan) ∧ t.wd.cell? ⟨b', o' + k * 9 + 7, none⟩ = some (.int .i64 x.action) ∧ t.wd.cell? ⟨b', o' + k * 9 + 8, none⟩ = some (.int .i64 x.queue) := fun t => ⟨t.cell c0, t.cell c1, t.cell c2, t.cell c3, t.cell c4, t.cell c5, t.cell c6, t.cell c7, t.cell c8, t.cell d0, t.cell d1, t.cell d2, t.cell d3, t.cell d4, t.cell d5, t.cell d6, t.cell d7, t.cell d8⟩
      go_wp2_with fail
      refine wp_region_ext_lit (by kernel_rfl) (by kernel_rfl) ?_
      repeat (go_big_quiet_step (((go_at_call 154; exact ext_call (eqRule_c _ _ _ _ _ _ _ _ _ _)))))
      refine wpQuiet_nil ?_
      intro _ hw'
      obtain ⟨tq, hw''⟩ := hw'
      subst hw''
      have hk1 : Below w.heap.size w tq.wd := ext_step hbw hbw.size tq.below
      go_wp2
      go_roundw
      case rel => exact ⟨k + 1, by omega, by go_num, hk1⟩
      case measure => simp [intOf]; omega
    · go_wp2
      go_ret
      exact ⟨rfl, hbw⟩
set_option maxHeartbeats 2000000 in
theorem toSlot_c (state : Int) (flow_kind : Int) (flow_sip : Int) (flow_dip : Int) (flow_sport : Int) (flow_dport : Int) (queue : Int) (w : World) :
    Calls Try.prog 186 #[.agg #[.int .i64 state, .int .i64 flow_kind, .int .i64 flow_sip, .int .i64 flow_dip, .int .i64 flow_sport, .int .i64 flow_dport, .int .i64 queue]] w fun e w' => e = .returned (.agg #[.int .i64 state, .int .i64 flow_kind, .int .i64 flow_sip, .int .i64 flow_dip, .int .i64 flow_sport, .int .i64 flow_dport, .int .i64 queue]) ∧ Below w.heap.size w w' := by
  go_enter Try.func186, Try.ntmps186
  go_wp2_with (go_in; skip)
  go_returns
  exact ⟨rfl, by go_grown⟩
theorem info_Slot : (Try.prog.info? 124).map (fun i => (i.zero, i.size, i.bytes)) = some (some (.agg #[.int .i64 0, .int .i64 0, .int .i64 0, .int .i64 0, .int .i64 0, .int .i64 0, .int .i64 0]), 7, 56) := by kernel_rfl
set_option maxHeartbeats 2000000 in
/-- A slice that came in is copied into a row of the call's own. -/
theorem toSlotS_c (A : Option Addr) (n c : Nat) (l : List Slot) (w : World) (hn : l.length = n) (hm : n ≤ 1048576) (hr : Reads w w.heap.size 7 A n (l.flatMap Slot.cells)) :
    Calls Try.prog 149 #[.slice A n c] w fun e w' => ∃ g, e = .returned (.slice (some ⟨g, 0, none⟩) n n) ∧ w.heap.size ≤ g ∧ Blk w' g 124 (l.flatMap Slot.cells) ∧ Below w.heap.size w w' := by
  obtain ⟨i0, hi, hz0, hz1, hz2⟩ := info_parts info_Slot
  have hmk := fun W => run_make_rowN (P := Try.prog) 53 124 i0 _ 7 56 Try.underlying53 hi hz0 hz1 hz2 n n (Nat.le_refl _) (by omega) (by omega) W
  have HN := Lib.hid hn
  clear hn hi hz0 hz1 hz2
  have hsz0 := madeCells_len (.agg #[.int .i64 0, .int .i64 0, .int .i64 0, .int .i64 0, .int .i64 0, .int .i64 0, .int .i64 0] : Value).cells (n * 7)
  have HZ := Lib.hid hsz0
  generalize (madeCells (.agg #[.int .i64 0, .int .i64 0, .int .i64 0, .int .i64 0, .int .i64 0, .int .i64 0, .int .i64 0] : Value).cells (n * 7)).toList = z at *
  clear hsz0
  go_enter Try.func149, Try.ntmps149
  go_wp2
  go_loopw [4] (fun i wr => ∃ k : Nat, ∃ cs : List Value, k ≤ n ∧ i = .int .i64 k ∧ Below w.heap.size w wr ∧ Blk wr w.heap.size 124 cs ∧ Hid (cs.length = n * 7) ∧ Hid (cs.take (k * 7) = (l.take k).flatMap Slot.cells)) (fun i _ => n - (intOf i).toNat)
  case atStart => exact ⟨0, z, Nat.zero_le _, rfl, by go_grown, Blk.new _ _ _, HZ, by simp [Hid]⟩
  case round =>
    obtain ⟨k, cs, hk, rfl, hbw, hblk, hcl, htk⟩ := hrel
    have hsz := hbw.size
    have hgl := hblk.lt
    by_cases hlt : k < n
    · obtain ⟨b, o, x, rfl, hb, hxx, hcx⟩ := hr.el (fun _ => rfl) (by decide) HN.out hlt
      have c0 := (hbw.cell (p := ⟨b, o + k * 7, none⟩) hb).trans (by simpa using hcx 0 _ rfl)
      have c1 := (hbw.cell (p := ⟨b, o + k * 7 + 1, none⟩) hb).trans (by simpa using hcx 1 _ rfl)
      have c2 := (hbw.cell (p := ⟨b, o + k * 7 + 2, none⟩) hb).trans (by simpa using hcx 2 _ rfl)
      have c3 := (hbw.cell (p := ⟨b, o + k * 7 + 3, none⟩) hb).trans (by simpa using hcx 3 _ rfl)
      have c4 := (hbw.cell (p := ⟨b, o + k * 7 + 4, none⟩) hb).trans (by simpa using hcx 4 _ rfl)
      have c5 := (hbw.cell (p := ⟨b, o + k * 7 + 5, none⟩) hb).trans (by simpa using hcx 5 _ rfl)
      have c6 := (hbw.cell (p := ⟨b, o + k * 7 + 6, none⟩) hb).trans (by simpa using hcx 6 _ rfl)
      have HXx := Lib.hid hxx
      clear hxx hcx
      obtain ⟨v0, g0⟩ := hblk.get (i := k * 7) (by rw [hcl.out]; omega)
      obtain ⟨v1, g1⟩ := hblk.get (i := k * 7 + 1) (by rw [hcl.out]; omega)
      obtain ⟨v2, g2⟩ := hblk.get (i := k * 7 + 2) (by rw [hcl.out]; omega)
      obtain ⟨v3, g3⟩ := hblk.get (i := k * 7 + 3) (by rw [hcl.out]; omega)
      obtain ⟨v4, g4⟩ := hblk.get (i := k * 7 + 4) (by rw [hcl.out]; omega)
      obtain ⟨v5, g5⟩ := hblk.get (i := k * 7 + 5) (by rw [hcl.out]; omega)
      obtain ⟨v6, g6⟩ := hblk.get (i := k * 7 + 6) (by rw [hcl.out]; omega)
      have f0 := hblk.frozen (k * 7)
      have f1 := hblk.frozen (k * 7 + 1)
      have f2 := hblk.frozen (k * 7 + 2)
      have f3 := hblk.frozen (k * 7 + 3)
      have f4 := hblk.frozen (k * 7 + 4)
      have f5 := hblk.frozen (k * 7 + 5)
      have f6 := hblk.frozen (k * 7 + 6)
      go_wp2_with (go_at_call 186; refine (toSlot_c _ _ _ _ _ _ _ _).mono ?_; rintro e w1 ⟨rfl, hb1⟩; have hk1 : Below w.heap.size w w1 := ext_step hbw hbw.size hb1; have hbk := hblk.ext hb1; have d0 := (hb1.cell (p := ⟨w.heap.size, k * 7, none⟩) hgl).trans g0; have d1 := (hb1.cell (p := ⟨w.heap.size, k * 7 + 1, none⟩) hgl).trans g1; have d2 := (hb1.cell (p := ⟨w.heap.size, k * 7 + 2, none⟩) hgl).trans g2; have d3 := (hb1.cell (p := ⟨w.heap.size, k * 7 + 3, none⟩) hgl).trans g3; have d4 := (hb1.cell (p := ⟨w.heap.size, k * 7 + 4, none⟩) hgl).trans g4; have d5 := (hb1.cell (p := ⟨w.heap.size, k * 7 + 5, none⟩) hgl).trans g5; have d6 := (hb1.cell (p := ⟨w.heap.size, k * 7 + 6, none⟩) hgl).trans g6; have e0 := hbk.frozen (k * 7); have e1 := hbk.frozen (k * 7 + 1); have e2 := hbk.frozen (k * 7 + 2); have e3 := hbk.frozen (k * 7 + 3); have e4 := hbk.frozen (k * 7 + 4); have e5 := hbk.frozen (k * 7 + 5); have e6 := hbk.frozen (k * 7 + 6); have hgl1 := hbk.lt; clear hb1)
      go_roundw
      case rel => exact ⟨k + 1, setsAt cs (k * 7) (Slot.cells x), by omega, by go_num, (Below.setCell (Below.setCell (Below.setCell (Below.setCell (Below.setCell (Below.setCell (Below.setCell hk1 (by simp) _) (by simp) _) (by simp) _) (by simp) _) (by simp) _) (by simp) _) (by simp) _), (((((((hbk.set_ _ _).set_ _ _).set_ _ _).set_ _ _).set_ _ _).set_ _ _).set_ _ _), by rw [Hid, setsAt_len]; exact hcl.out, take_elem (cells := Slot.cells) (fun _ => rfl) HXx.out hcl.out hlt htk.out⟩
      case measure => simp [intOf]; omega
    · go_wp2
      go_ret
      refine ⟨_, rfl, Nat.le_refl _, ?_, hbw⟩
      have h1 := htk.out
      rw [take_all HN.out hlt, List.take_of_length_le (by rw [hcl.out]; exact Nat.mul_le_mul_right _ (by omega))] at h1
      rw [← h1]
      exact hblk
set_option maxHeartbeats 1000000 in
theorem szSlotS_c (A : Option Addr) (n c : Nat) (left : Int) (w : World) (h0 : 0 ≤ left) (h1 : left ≤ 1048576) (hm : n ≤ 9223372036854775807) :
    Calls Try.prog 141 #[.slice A n c, .int .i64 left] w fun e w' => e = .returned (.int .i64 (if left - n < 0 then -1 else left - n)) ∧ w = w' := by
  by_cases h : left - n < 0
  · go_enter Try.func141, Try.ntmps141
    go_wp2
    go_ret
    exact ⟨ret_int (by first | omega | (split <;> omega)), rfl⟩
  · go_enter Try.func141, Try.ntmps141
    go_wp2
    go_ret
    exact ⟨ret_int (by first | omega | (split <;> omega)), rfl⟩
theorem szSlotS_c2 (A : Option Addr) (n c : Nat) (left : Int) (w : World) (h0 : 0 ≤ left) (h1 : left ≤ 1048576) (hm : n ≤ 9223372036854775807) :
    Calls Try.prog 141 #[.slice A n c, .int .i64 left] w fun e w' => e = .returned (.int .i64 (szI (left - n))) ∧ w = w' := szSlotS_c A n c left w h0 h1 hm
set_option maxHeartbeats 2000000 in
theorem eqSlot_c (state : Int) (flow_kind : Int) (flow_sip : Int) (flow_dip : Int) (flow_sport : Int) (flow_dport : Int) (queue : Int) (w : World) :
    Calls Try.prog 189 #[.agg #[.int .i64 state, .int .i64 flow_kind, .int .i64 flow_sip, .int .i64 flow_dip, .int .i64 flow_sport, .int .i64 flow_dport, .int .i64 queue], .agg #[.int .i64 state, .int .i64 flow_kind, .int .i64 flow_sip, .int .i64 flow_dip, .int .i64 flow_sport, .int .i64 flow_dport, .int .i64 queue]] w fun e w' => e = .returned (.bool true) ∧ Below w.heap.size w w' := by
  go_enter Try.func189, Try.ntmps189
  go_wp2_with (go_in; skip)
  go_ret
  exact ⟨rfl, by go_grown⟩
set_option maxHeartbeats 2000000 in
/-- Two slices that read as the same list are equal. -/
theorem eqSlotS_c (A A' : Option Addr) (n c c' : Nat) (l : List Slot) (w : World) (hn : l.length = n) (hm : n ≤ 140737488355328) (hr : Reads w w.heap.size 7 A n (l.flatMap Slot.cells)) (hr' : Reads w w.heap.size 7 A' n (l.flatMap Slot.cells)) :
    Calls Try.prog 155 #[.slice A n c, .slice A' n c'] w fun e w' => e = .returned (.bool true) ∧ Below w.heap.size w w' := by
  have HN := Lib.hid hn
  clear hn
  go_enter Try.func155, Try.ntmps155
  go_wp2
  go_loopw [5] (fun i wr => ∃ k : Nat, k ≤ n ∧ i = .int .i64 k ∧ Below w.heap.size w wr) (fun i _ => n - (intOf i).toNat)
  case atStart => exact ⟨0, Nat.zero_le _, rfl, Below.refl _ _⟩
  case round =>
    obtain ⟨k, hk, rfl, hbw⟩ := hrel
    have hsz := hbw.size
    by_cases hlt : k < n
    · obtain ⟨b, o, x, rfl, hb, hxx, hcx⟩ := hr.el (fun _ => rfl) (by decide) HN.out hlt
      have c0 := (hbw.cell (p := ⟨b, o + k * 7, none⟩) hb).trans (by simpa using hcx 0 _ rfl)
      have c1 := (hbw.cell (p := ⟨b, o + k * 7 + 1, none⟩) hb).trans (by simpa using hcx 1 _ rfl)
      have c2 := (hbw.cell (p := ⟨b, o + k * 7 + 2, none⟩) hb).trans (by simpa using hcx 2 _ rfl)
      have c3 := (hbw.cell (p := ⟨b, o + k * 7 + 3, none⟩) hb).trans (by simpa using hcx 3 _ rfl)
      have c4 := (hbw.cell (p := ⟨b, o + k * 7 + 4, none⟩) hb).trans (by simpa using hcx 4 _ rfl)
      have c5 := (hbw.cell (p := ⟨b, o + k * 7 + 5, none⟩) hb).trans (by simpa using hcx 5 _ rfl)
      have c6 := (hbw.cell (p := ⟨b, o + k * 7 + 6, none⟩) hb).trans (by simpa using hcx 6 _ rfl)
      have HXx := Lib.hid hxx
      clear hxx hcx
      obtain ⟨b', o', y, rfl, hb', hxy, hcy⟩ := hr'.el (fun _ => rfl) (by decide) HN.out hlt
      have d0 := (hbw.cell (p := ⟨b', o' + k * 7, none⟩) hb').trans (by simpa using hcy 0 _ rfl)
      have d1 := (hbw.cell (p := ⟨b', o' + k * 7 + 1, none⟩) hb').trans (by simpa using hcy 1 _ rfl)
      have d2 := (hbw.cell (p := ⟨b', o' + k * 7 + 2, none⟩) hb').trans (by simpa using hcy 2 _ rfl)
      have d3 := (hbw.cell (p := ⟨b', o' + k * 7 + 3, none⟩) hb').trans (by simpa using hcy 3 _ rfl)
      have d4 := (hbw.cell (p := ⟨b', o' + k * 7 + 4, none⟩) hb').trans (by simpa using hcy 4 _ rfl)
      have d5 := (hbw.cell (p := ⟨b', o' + k * 7 + 5, none⟩) hb').trans (by simpa using hcy 5 _ rfl)
      have d6 := (hbw.cell (p := ⟨b', o' + k * 7 + 6, none⟩) hb').trans (by simpa using hcy 6 _ rfl)
      have HXy := Lib.hid hxy
      clear hxy hcy
      obtain rfl : x = y := by
        have h1 := HXx.out
        rw [HXy.out] at h1
        injection h1 with h1
        exact h1.symm
      have l1 : (k : Int) < (n : Int) := by omega
      have hx : ∀ t : Ext wr, t.wd.cell? ⟨b, o + k * 7, none⟩ = some (.int .i64 x.state) ∧ t.wd.cell? ⟨b, o + k * 7 + 1, none⟩ = some (.int .i64 x.flow_kind) ∧ t.wd.cell? ⟨b, o + k * 7 + 2, none⟩ = some (.int .i64 x.flow_sip) ∧ t.wd.cell? ⟨b, o + k * 7 + 3, none⟩ = some (.int .i64 x.flow_dip) ∧ t.wd.cell? ⟨b, o + k * 7 + 4, none⟩ = some (.int .i64 x.flow_sport) ∧ t.wd.cell? ⟨b, o + k * 7 + 5, none⟩ = some (.int .i64 x.flow_dport) ∧ t.wd.cell? ⟨b, o + k * 7 + 6, none⟩ = some (.int .i64 x.queue) ∧ t.wd.cell? ⟨b', o' + k * 7, none⟩ = some (.int .i64 x.state) ∧ t.wd.cell? ⟨b', o' + k * 7 + 1, none⟩ = some (.int .i64 x.flow_kind) ∧ t.wd.cell? ⟨b', o' + k * 7 + 2, none⟩ = some (.int .i64 x.flow_sip) ∧ t.wd.cell? ⟨b', o' + k * 7 + 3, none⟩ = some (.int .i64 x.flow_dip) ∧ t.wd.cell? ⟨b', o' + k * 7 + 4, none⟩ = some (.int .i64 x.flow_sport) ∧ t.wd.cell? ⟨b', o' + k * 7 + 5, none⟩ = some (.int .i64 x.flow_dport) ∧ t.wd.cell? ⟨b', o' + k * 7 + 6, none⟩ = some (.int .i64 x.queue) := fun t => ⟨t.cell c0, t.cell c1, t.cell c2, t.cell c3, t.cell c4, t.cell c5, t.cell c6, t.cell d0, t.cell d1, t.cell d2, t.cell d3, t.cell d4, t.cell d5, t.cell d6⟩
      go_wp2_with fail
      refine wp_region_ext_lit (by kernel_rfl) (by kernel_rfl) ?_
      repeat (go_big_quiet_step (((go_at_call 189; exact ext_call (eqSlot_c _ _ _ _ _ _ _ _)))))
      refine wpQuiet_nil ?_
      intro _ hw'
      obtain ⟨tq, hw''⟩ := hw'
      subst hw''
      have hk1 : Below w.heap.size w tq.wd := ext_step hbw hbw.size tq.below
      go_wp2
      go_roundw
      case rel => exact ⟨k + 1, by omega, by go_num, hk1⟩
      case measure => simp [intOf]; omega
    · go_wp2
      go_ret
      exact ⟨rfl, hbw⟩
end Go.Proofs.Ytifbfmafogmemaa
