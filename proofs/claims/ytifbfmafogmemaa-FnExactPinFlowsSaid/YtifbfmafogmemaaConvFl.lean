/- Contracts of the laws' helpers on flows; held of steerings. -/
import Derived.Test.YtifbfmafogmemaaConvSt3
namespace Go.Proofs.Ytifbfmafogmemaa
set_option linter.unusedSimpArgs false
set_option linter.unusedVariables false
open Go.RowKit Go.ChangeShapes Go.WideShapes
set_option maxHeartbeats 1000000 in
theorem toFlow_c (kind : Int) (sip : Int) (dip : Int) (sport : Int) (dport : Int) (w : World) :
    Calls Try.prog 96 #[.agg #[.int .i64 kind, .int .i64 sip, .int .i64 dip, .int .i64 sport, .int .i64 dport]] w fun e w' => e = .returned (.agg #[.int .i64 kind, .int .i64 sip, .int .i64 dip, .int .i64 sport, .int .i64 dport]) ∧ Below w.heap.size w w' := by
  go_enter Try.func96, Try.ntmps96
  go_wp2
  go_returns
  exact ⟨rfl, by go_grown⟩
theorem info_Flow : (Try.prog.info? 84).map (fun i => (i.zero, i.size, i.bytes)) = some (some (.agg #[.int .i64 0, .int .i64 0, .int .i64 0, .int .i64 0, .int .i64 0]), 5, 40) := by kernel_rfl
set_option maxHeartbeats 2000000 in
/-- A slice that came in is copied into a row of the call's own. -/
theorem toFlowS_c (A : Option Addr) (n c : Nat) (l : List Flow) (w : World) (hn : l.length = n) (hm : n ≤ 1048576) (hr : Reads w w.heap.size 5 A n (l.flatMap Flow.cells)) :
    Calls Try.prog 28 #[.slice A n c] w fun e w' => ∃ g, e = .returned (.slice (some ⟨g, 0, none⟩) n n) ∧ w.heap.size ≤ g ∧ Blk w' g 84 (l.flatMap Flow.cells) ∧ Below w.heap.size w w' := by
  obtain ⟨i0, hi, hz0, hz1, hz2⟩ := info_parts info_Flow
  have hmk := fun W => run_make_rowN (P := Try.prog) 66 84 i0 _ 5 40 Try.underlying66 hi hz0 hz1 hz2 n n (Nat.le_refl _) (by omega) (by omega) W
  have HN := Lib.hid hn
  clear hn hi hz0 hz1 hz2
  have hsz0 := madeCells_len (.agg #[.int .i64 0, .int .i64 0, .int .i64 0, .int .i64 0, .int .i64 0] : Value).cells (n * 5)
  have HZ := Lib.hid hsz0
  generalize (madeCells (.agg #[.int .i64 0, .int .i64 0, .int .i64 0, .int .i64 0, .int .i64 0] : Value).cells (n * 5)).toList = z at *
  clear hsz0
  go_enter Try.func28, Try.ntmps28
  go_wp2
  go_loopw [4] (fun i wr => ∃ k : Nat, ∃ cs : List Value, k ≤ n ∧ i = .int .i64 k ∧ Below w.heap.size w wr ∧ Blk wr w.heap.size 84 cs ∧ Hid (cs.length = n * 5) ∧ Hid (cs.take (k * 5) = (l.take k).flatMap Flow.cells)) (fun i _ => n - (intOf i).toNat)
  case atStart => exact ⟨0, z, Nat.zero_le _, rfl, by go_grown, Blk.new _ _ _, HZ, by simp [Hid]⟩
  case round =>
    obtain ⟨k, cs, hk, rfl, hbw, hblk, hcl, htk⟩ := hrel
    have hsz := hbw.size
    have hgl := hblk.lt
    by_cases hlt : k < n
    · obtain ⟨b, o, x, rfl, hb, hxx, hcx⟩ := hr.el (fun _ => rfl) (by decide) HN.out hlt
      have c0 := (hbw.cell (p := ⟨b, o + k * 5, none⟩) hb).trans (by simpa using hcx 0 _ rfl)
      have c1 := (hbw.cell (p := ⟨b, o + k * 5 + 1, none⟩) hb).trans (by simpa using hcx 1 _ rfl)
      have c2 := (hbw.cell (p := ⟨b, o + k * 5 + 2, none⟩) hb).trans (by simpa using hcx 2 _ rfl)
      have c3 := (hbw.cell (p := ⟨b, o + k * 5 + 3, none⟩) hb).trans (by simpa using hcx 3 _ rfl)
      have c4 := (hbw.cell (p := ⟨b, o + k * 5 + 4, none⟩) hb).trans (by simpa using hcx 4 _ rfl)
      have HXx := Lib.hid hxx
      clear hxx hcx
      obtain ⟨v0, g0⟩ := hblk.get (i := k * 5) (by rw [hcl.out]; omega)
      obtain ⟨v1, g1⟩ := hblk.get (i := k * 5 + 1) (by rw [hcl.out]; omega)
      obtain ⟨v2, g2⟩ := hblk.get (i := k * 5 + 2) (by rw [hcl.out]; omega)
      obtain ⟨v3, g3⟩ := hblk.get (i := k * 5 + 3) (by rw [hcl.out]; omega)
      obtain ⟨v4, g4⟩ := hblk.get (i := k * 5 + 4) (by rw [hcl.out]; omega)
      have f0 := hblk.frozen (k * 5)
      have f1 := hblk.frozen (k * 5 + 1)
      have f2 := hblk.frozen (k * 5 + 2)
      have f3 := hblk.frozen (k * 5 + 3)
      have f4 := hblk.frozen (k * 5 + 4)
      go_wp2_with (go_at_call 96; refine (toFlow_c _ _ _ _ _ _).mono ?_; rintro e w1 ⟨rfl, hb1⟩; have hk1 : Below w.heap.size w w1 := ext_step hbw hbw.size hb1; have hbk := hblk.ext hb1; have d0 := (hb1.cell (p := ⟨w.heap.size, k * 5, none⟩) hgl).trans g0; have d1 := (hb1.cell (p := ⟨w.heap.size, k * 5 + 1, none⟩) hgl).trans g1; have d2 := (hb1.cell (p := ⟨w.heap.size, k * 5 + 2, none⟩) hgl).trans g2; have d3 := (hb1.cell (p := ⟨w.heap.size, k * 5 + 3, none⟩) hgl).trans g3; have d4 := (hb1.cell (p := ⟨w.heap.size, k * 5 + 4, none⟩) hgl).trans g4; have e0 := hbk.frozen (k * 5); have e1 := hbk.frozen (k * 5 + 1); have e2 := hbk.frozen (k * 5 + 2); have e3 := hbk.frozen (k * 5 + 3); have e4 := hbk.frozen (k * 5 + 4); have hgl1 := hbk.lt; clear hb1)
      go_roundw
      case rel => exact ⟨k + 1, setsAt cs (k * 5) (Flow.cells x), by omega, by go_num, (Below.setCell (Below.setCell (Below.setCell (Below.setCell (Below.setCell hk1 (by simp) _) (by simp) _) (by simp) _) (by simp) _) (by simp) _), (((((hbk.set_ _ _).set_ _ _).set_ _ _).set_ _ _).set_ _ _), by rw [Hid, setsAt_len]; exact hcl.out, take_elem (cells := Flow.cells) (fun _ => rfl) HXx.out hcl.out hlt htk.out⟩
      case measure => simp [intOf]; omega
    · go_wp2
      go_ret
      refine ⟨_, rfl, Nat.le_refl _, ?_, hbw⟩
      have h1 := htk.out
      rw [take_all HN.out hlt, List.take_of_length_le (by rw [hcl.out]; exact Nat.mul_le_mul_right _ (by omega))] at h1
      rw [← h1]
      exact hblk
set_option maxHeartbeats 1000000 in
theorem szFlowS_c (A : Option Addr) (n c : Nat) (left : Int) (w : World) (h0 : 0 ≤ left) (h1 : left ≤ 1048576) (hm : n ≤ 9223372036854775807) :
    Calls Try.prog 26 #[.slice A n c, .int .i64 left] w fun e w' => e = .returned (.int .i64 (if left - n < 0 then -1 else left - n)) ∧ w = w' := by
  by_cases h : left - n < 0
  · go_enter Try.func26, Try.ntmps26
    go_wp2
    go_ret
    exact ⟨ret_int (by first | omega | (split <;> omega)), rfl⟩
  · go_enter Try.func26, Try.ntmps26
    go_wp2
    go_ret
    exact ⟨ret_int (by first | omega | (split <;> omega)), rfl⟩
theorem szFlowS_c2 (A : Option Addr) (n c : Nat) (left : Int) (w : World) (h0 : 0 ≤ left) (h1 : left ≤ 1048576) (hm : n ≤ 9223372036854775807) :
    Calls Try.prog 26 #[.slice A n c, .int .i64 left] w fun e w' => e = .returned (.int .i64 (szI (left - n))) ∧ w = w' := szFlowS_c A n c left w h0 h1 hm
set_option maxHeartbeats 1000000 in
theorem eqFlow_c (kind : Int) (sip : Int) (dip : Int) (sport : Int) (dport : Int) (w : World) :
    Calls Try.prog 100 #[.agg #[.int .i64 kind, .int .i64 sip, .int .i64 dip, .int .i64 sport, .int .i64 dport], .agg #[.int .i64 kind, .int .i64 sip, .int .i64 dip, .int .i64 sport, .int .i64 dport]] w fun e w' => e = .returned (.bool true) ∧ Below w.heap.size w w' := by
  go_enter Try.func100, Try.ntmps100
  go_wp2
  go_ret
  exact ⟨rfl, by go_grown⟩
set_option maxHeartbeats 2000000 in
/-- Two slices that read as the same list are equal. -/
theorem eqFlowS_c (A A' : Option Addr) (n c c' : Nat) (l : List Flow) (w : World) (hn : l.length = n) (hm : n ≤ 140737488355328) (hr : Reads w w.heap.size 5 A n (l.flatMap Flow.cells)) (hr' : Reads w w.heap.size 5 A' n (l.flatMap Flow.cells)) :
    Calls Try.prog 30 #[.slice A n c, .slice A' n c'] w fun e w' => e = .returned (.bool true) ∧ Below w.heap.size w w' := by
  have HN := Lib.hid hn
  clear hn
  go_enter Try.func30, Try.ntmps30
  go_wp2
  go_loopw [5] (fun i wr => ∃ k : Nat, k ≤ n ∧ i = .int .i64 k ∧ Below w.heap.size w wr) (fun i _ => n - (intOf i).toNat)
  case atStart => exact ⟨0, Nat.zero_le _, rfl, Below.refl _ _⟩
  case round =>
    obtain ⟨k, hk, rfl, hbw⟩ := hrel
    have hsz := hbw.size
    by_cases hlt : k < n
    · obtain ⟨b, o, x, rfl, hb, hxx, hcx⟩ := hr.el (fun _ => rfl) (by decide) HN.out hlt
      have c0 := (hbw.cell (p := ⟨b, o + k * 5, none⟩) hb).trans (by simpa using hcx 0 _ rfl)
      have c1 := (hbw.cell (p := ⟨b, o + k * 5 + 1, none⟩) hb).trans (by simpa using hcx 1 _ rfl)
      have c2 := (hbw.cell (p := ⟨b, o + k * 5 + 2, none⟩) hb).trans (by simpa using hcx 2 _ rfl)
      have c3 := (hbw.cell (p := ⟨b, o + k * 5 + 3, none⟩) hb).trans (by simpa using hcx 3 _ rfl)
      have c4 := (hbw.cell (p := ⟨b, o + k * 5 + 4, none⟩) hb).trans (by simpa using hcx 4 _ rfl)
      have HXx := Lib.hid hxx
      clear hxx hcx
      obtain ⟨b', o', y, rfl, hb', hxy, hcy⟩ := hr'.el (fun _ => rfl) (by decide) HN.out hlt
      have d0 := (hbw.cell (p := ⟨b', o' + k * 5, none⟩) hb').trans (by simpa using hcy 0 _ rfl)
      have d1 := (hbw.cell (p := ⟨b', o' + k * 5 + 1, none⟩) hb').trans (by simpa using hcy 1 _ rfl)
      have d2 := (hbw.cell (p := ⟨b', o' + k * 5 + 2, none⟩) hb').trans (by simpa using hcy 2 _ rfl)
      have d3 := (hbw.cell (p := ⟨b', o' + k * 5 + 3, none⟩) hb').trans (by simpa using hcy 3 _ rfl)
      have d4 := (hbw.cell (p := ⟨b', o' + k * 5 + 4, none⟩) hb').trans (by simpa using hcy 4 _ rfl)
      have HXy := Lib.hid hxy
      clear hxy hcy
      obtain rfl : x = y := by
        have h1 := HXx.out
        rw [HXy.out] at h1
        injection h1 with h1
        exact h1.symm
      have l1 : (k : Int) < (n : Int) := by omega
      have hx : ∀ t : Ext wr, t.wd.cell? ⟨b, o + k * 5, none⟩ = some (.int .i64 x.kind) ∧ t.wd.cell? ⟨b, o + k * 5 + 1, none⟩ = some (.int .i64 x.sip) ∧ t.wd.cell? ⟨b, o + k * 5 + 2, none⟩ = some (.int .i64 x.dip) ∧ t.wd.cell? ⟨b, o + k * 5 + 3, none⟩ = some (.int .i64 x.sport) ∧ t.wd.cell? ⟨b, o + k * 5 + 4, none⟩ = some (.int .i64 x.dport) ∧ t.wd.cell? ⟨b', o' + k * 5, none⟩ = some (.int .i64 x.kind) ∧ t.wd.cell? ⟨b', o' + k * 5 + 1, none⟩ = some (.int .i64 x.sip) ∧ t.wd.cell? ⟨b', o' + k * 5 + 2, none⟩ = some (.int .i64 x.dip) ∧ t.wd.cell? ⟨b', o' + k * 5 + 3, none⟩ = some (.int .i64 x.sport) ∧ t.wd.cell? ⟨b', o' + k * 5 + 4, none⟩ = some (.int .i64 x.dport) := fun t => ⟨t.cell c0, t.cell c1, t.cell c2, t.cell c3, t.cell c4, t.cell d0, t.cell d1, t.cell d2, t.cell d3, t.cell d4⟩
      go_wp2_with fail
      refine wp_region_ext_lit (by kernel_rfl) (by kernel_rfl) ?_
      repeat (go_big_quiet_step (((go_at_call 100; exact ext_call (eqFlow_c _ _ _ _ _ _)))))
      refine wpQuiet_nil ?_
      intro _ hw'
      obtain ⟨tq, hw''⟩ := hw'
      subst hw''
      have hk1 : Below w.heap.size w tq.wd := ext_step hbw hbw.size tq.below
      go_wp2
      go_roundw
      case rel => exact ⟨k + 1, by omega, by go_num, hk1⟩
      case measure => simp [intOf]; omega
    · go_wp2
      go_ret
      exact ⟨rfl, hbw⟩
/-- What the laws write into an element's cells, from a number on. -/
def mkFlowS (q : Int) : List Value := [.int .i64 (q), .int .i64 (q + 1), .int .i64 (q + 1 + 1), .int .i64 (q + 1 + 1 + 1), .int .i64 (q + 1 + 1 + 1 + 1)]
def marksFlowS (n : Nat) (q : Int) : List Value := (List.range n).flatMap fun (i : Nat) => mkFlowS (q + (i : Int) * 5)
set_option maxHeartbeats 4000000 in
/-- Every cell of a row of the caller's own is overwritten. -/
theorem markFlowS_c (A : Option Addr) (n c base : Nat) (xs : List Value) (q : Int) (w : World) (hown : w.ownsRow base 84 5 (.slice A n c) n xs) (hq0 : 0 ≤ q) (hq1 : q ≤ 1000000000) (hm : n ≤ 4194304) :
    Calls Try.prog 32 #[.slice A n c, .int .i64 q] w fun e w' => e = .returned (.int .i64 (q + n * 5)) ∧ w'.ownsRow base 84 5 (.slice A n c) n (marksFlowS n q) ∧ w.grownBy w' (Value.slice A n c).ownBlock := by
  rcases hown.2 with ⟨hv, hn⟩ | ⟨g, cap, cur, hv, hbg, hblk, hnc, hcm, hsz, htk⟩
  · injection hv with h1 h2 h3
    subst h1; subst h3; subst hn
    go_enter Try.func32, Try.ntmps32
    go_wp2
    go_loopw [1, 5] (fun q' i wr => q' = .int .i64 q ∧ i = .int .i64 0 ∧ wr = w) (fun _ _ _ => 0)
    case atStart => exact ⟨rfl, rfl, rfl⟩
    case round =>
      obtain ⟨rfl, rfl, rfl⟩ := hrel
      go_wp2
      go_ret
      exact ⟨ret_int (by omega), ⟨by simp [marksFlowS], .inl ⟨rfl, rfl⟩⟩, World.grownBy.refl _ _⟩
  · injection hv with h1 h2 h3
    subst h1; subst h3
    have hlen := hown.1
    have hcl : cur.toList.length = c * 5 := by simpa using hsz
    have HB0 : Blk w g 84 cur.toList := hblk
    have HC0 := Lib.hid hcl
    have hblt := HB0.lt
    clear hblk hsz hcl htk hlen hown
    generalize cur.toList = cu at *
    go_enter Try.func32, Try.ntmps32
    go_wp2
    go_loopw [1, 5] (fun q' i wr => ∃ k : Nat, ∃ cs : List Value, k ≤ n ∧ q' = .int .i64 (q + (k : Int) * 5) ∧ i = .int .i64 k ∧ w.grownBy wr (some g) ∧ Blk wr g 84 cs ∧ Hid (cs.length = c * 5) ∧ Hid (cs.take (k * 5) = ((List.range n).take k).flatMap fun (i : Nat) => mkFlowS (q + (i : Int) * 5))) (fun _ i _ => n - (intOf i).toNat)
    case atStart => exact ⟨0, cu, Nat.zero_le _, by simp, rfl, World.grownBy.refl _ _, HB0, HC0, by simp [Hid]⟩
    case round =>
      obtain ⟨k, cs, hk, rfl, rfl, hgr, hbk, hcl, htk⟩ := hrel
      have hgl := hbk.lt
      have hgz := hgr.size
      by_cases hlt : k < n
      · have hr : (List.range n)[k]? = some k := by simp [hlt]
        have HR := Lib.hid hr
        clear hr
        obtain ⟨v0, g0⟩ := hbk.get (i := k * 5) (by rw [hcl.out]; omega)
        obtain ⟨v1, g1⟩ := hbk.get (i := k * 5 + 1) (by rw [hcl.out]; omega)
        obtain ⟨v2, g2⟩ := hbk.get (i := k * 5 + 2) (by rw [hcl.out]; omega)
        obtain ⟨v3, g3⟩ := hbk.get (i := k * 5 + 3) (by rw [hcl.out]; omega)
        obtain ⟨v4, g4⟩ := hbk.get (i := k * 5 + 4) (by rw [hcl.out]; omega)
        have f0 := hbk.frozen (k * 5)
        have f1 := hbk.frozen (k * 5 + 1)
        have f2 := hbk.frozen (k * 5 + 2)
        have f3 := hbk.frozen (k * 5 + 3)
        have f4 := hbk.frozen (k * 5 + 4)
        go_wp2
        go_roundw
        case rel =>
          refine ⟨k + 1, setsAt cs (k * 5) (mkFlowS (q + (k : Int) * 5)), by omega, by go_num, by go_num, (only_setCell (only_setCell (only_setCell (only_setCell (only_setCell hgr (.inl rfl) _) (.inl rfl) _) (.inl rfl) _) (.inl rfl) _) (.inl rfl) _), ?_, by rw [Hid, setsAt_len]; exact hcl.out, ?_⟩
          · exact (((((hbk.set_ _ _).set_ _ _).set_ _ _).set_ _ _).set_ _ _)
          · have h2 : c * 5 = c * 5 := rfl
            exact take_elem (cells := fun i : Nat => mkFlowS (q + (i : Int) * 5)) (fun _ => rfl) HR.out hcl.out (by omega) htk.out
        case measure => simp [intOf]; omega
      · have hkn : k = n := by omega
        subst hkn
        go_wp2
        go_ret
        refine ⟨ret_int (by omega), ⟨?_, .inr ⟨g, c, cs.toArray, rfl, hbg, hbk, hnc, hcm, by simpa using hcl.out, ?_⟩⟩, hgr⟩
        · rw [marksFlowS, flatMap_len _ 5 (fun _ => rfl)]; simp
        · have h1 := htk.out
          rw [show (List.range k).take k = List.range k from List.take_of_length_le (by simp)] at h1
          exact h1
set_option maxRecDepth 100000 in
set_option maxHeartbeats 4000000 in
/-- A row that holds the marks holds them. -/
theorem heldRuleS_c (A : Option Addr) (n c : Nat) (q : Int) (w : World) (hr : Reads w w.heap.size 9 A n (marksRuleS n q)) (hq0 : 0 ≤ q) (hq1 : q ≤ 1000000000) (hm : n ≤ 4194304) :
    Calls Try.prog 104 #[.slice A n c, .int .i64 q] w fun e w' => e = .returned (.int .i64 (q + n * 9)) ∧ Below w.heap.size w w' := by
  go_enter Try.func104, Try.ntmps104
  go_wp2
  go_loopw [1, 5] (fun q' i wr => ∃ k : Nat, k ≤ n ∧ q' = .int .i64 (q + (k : Int) * 9) ∧ i = .int .i64 k ∧ Below w.heap.size w wr) (fun _ i _ => n - (intOf i).toNat)
  case atStart => exact ⟨0, Nat.zero_le _, by simp, rfl, Below.refl _ _⟩
  case round =>
    obtain ⟨k, hk, rfl, rfl, hbw⟩ := hrel
    have hsz := hbw.size
    by_cases hlt : k < n
    · obtain ⟨b, o, x, rfl, hb, hx, hc⟩ := Reads.el (cells := fun i : Nat => mkRuleS (q + (i : Int) * 9)) (l := List.range n) hr (fun _ => rfl) (by decide) (by simp) hlt
      have hxk : k = x := by simpa [hlt] using hx
      subst hxk
      have c0 := (hbw.cell (p := ⟨b, o + k * 9, none⟩) hb).trans (by simpa using hc 0 _ rfl)
      have c1 := (hbw.cell (p := ⟨b, o + k * 9 + 1, none⟩) hb).trans (by simpa using hc 1 _ rfl)
      have c2 := (hbw.cell (p := ⟨b, o + k * 9 + 2, none⟩) hb).trans (by simpa using hc 2 _ rfl)
      have c3 := (hbw.cell (p := ⟨b, o + k * 9 + 3, none⟩) hb).trans (by simpa using hc 3 _ rfl)
      have c4 := (hbw.cell (p := ⟨b, o + k * 9 + 4, none⟩) hb).trans (by simpa using hc 4 _ rfl)
      have c5 := (hbw.cell (p := ⟨b, o + k * 9 + 5, none⟩) hb).trans (by simpa using hc 5 _ rfl)
      have c6 := (hbw.cell (p := ⟨b, o + k * 9 + 6, none⟩) hb).trans (by simpa using hc 6 _ rfl)
      have c7 := (hbw.cell (p := ⟨b, o + k * 9 + 7, none⟩) hb).trans (by simpa using hc 7 _ rfl)
      have c8 := (hbw.cell (p := ⟨b, o + k * 9 + 8, none⟩) hb).trans (by simpa using hc 8 _ rfl)
      clear hx hc
      go_wp2
      go_roundw
      case rel => exact ⟨k + 1, by omega, by go_num, by go_num, by go_grown⟩
      case measure => simp [intOf]; omega
    · have hkn : k = n := by omega
      subst hkn
      go_wp2
      go_ret
      exact ⟨ret_int (by omega), hbw⟩
set_option maxRecDepth 100000 in
set_option maxHeartbeats 4000000 in
/-- A row that holds the marks holds them. -/
theorem heldSlotS_c (A : Option Addr) (n c : Nat) (q : Int) (w : World) (hr : Reads w w.heap.size 7 A n (marksSlotS n q)) (hq0 : 0 ≤ q) (hq1 : q ≤ 1000000000) (hm : n ≤ 4194304) :
    Calls Try.prog 164 #[.slice A n c, .int .i64 q] w fun e w' => e = .returned (.int .i64 (q + n * 7)) ∧ Below w.heap.size w w' := by
  go_enter Try.func164, Try.ntmps164
  go_wp2
  go_loopw [1, 5] (fun q' i wr => ∃ k : Nat, k ≤ n ∧ q' = .int .i64 (q + (k : Int) * 7) ∧ i = .int .i64 k ∧ Below w.heap.size w wr) (fun _ i _ => n - (intOf i).toNat)
  case atStart => exact ⟨0, Nat.zero_le _, by simp, rfl, Below.refl _ _⟩
  case round =>
    obtain ⟨k, hk, rfl, rfl, hbw⟩ := hrel
    have hsz := hbw.size
    by_cases hlt : k < n
    · obtain ⟨b, o, x, rfl, hb, hx, hc⟩ := Reads.el (cells := fun i : Nat => mkSlotS (q + (i : Int) * 7)) (l := List.range n) hr (fun _ => rfl) (by decide) (by simp) hlt
      have hxk : k = x := by simpa [hlt] using hx
      subst hxk
      have c0 := (hbw.cell (p := ⟨b, o + k * 7, none⟩) hb).trans (by simpa using hc 0 _ rfl)
      have c1 := (hbw.cell (p := ⟨b, o + k * 7 + 1, none⟩) hb).trans (by simpa using hc 1 _ rfl)
      have c2 := (hbw.cell (p := ⟨b, o + k * 7 + 2, none⟩) hb).trans (by simpa using hc 2 _ rfl)
      have c3 := (hbw.cell (p := ⟨b, o + k * 7 + 3, none⟩) hb).trans (by simpa using hc 3 _ rfl)
      have c4 := (hbw.cell (p := ⟨b, o + k * 7 + 4, none⟩) hb).trans (by simpa using hc 4 _ rfl)
      have c5 := (hbw.cell (p := ⟨b, o + k * 7 + 5, none⟩) hb).trans (by simpa using hc 5 _ rfl)
      have c6 := (hbw.cell (p := ⟨b, o + k * 7 + 6, none⟩) hb).trans (by simpa using hc 6 _ rfl)
      clear hx hc
      go_wp2
      go_roundw
      case rel => exact ⟨k + 1, by omega, by go_num, by go_num, by go_grown⟩
      case measure => simp [intOf]; omega
    · have hkn : k = n := by omega
      subst hkn
      go_wp2
      go_ret
      exact ⟨ret_int (by omega), hbw⟩
set_option maxHeartbeats 1000000 in
theorem heldFlowTable_c (A : Option Addr) (n c : Nat) (q : Int) (w : World) (hr : Reads w w.heap.size 7 A n (marksSlotS n q)) (hq0 : 0 ≤ q) (hq1 : q ≤ 1000000000) (hm : n ≤ 4194304) :
    Calls Try.prog 105 #[.agg #[.slice A n c], .int .i64 q] w fun e w' => e = .returned (.int .i64 (q + n * 7)) ∧ Below w.heap.size w w' := by
  go_enter Try.func105, Try.ntmps105
  go_wp2_with fail
  refine (heldSlotS_c _ _ _ _ _ (hr.to (by go_grown)) hq0 hq1 hm).mono ?_
  rintro e w1 ⟨rfl, hb⟩
  have k1 : Below w.heap.size w w1 := ext_step (by go_grown) (by go_size) hb
  clear hb
  go_wp2
  go_ret
  exact ⟨ret_int (by omega), k1⟩
set_option maxHeartbeats 1000000 in
theorem heldSpread_c (key : ByteArray) (A : Option Addr) (n c : Nat) (q : Int) (w : World) (hr : Reads w w.heap.size 1 A n (marksIntS n q)) (hq0 : 0 ≤ q) (hq1 : q ≤ 1000000000) (hm : n ≤ 4194304) :
    Calls Try.prog 106 #[.agg #[.string key, .slice A n c], .int .i64 q] w fun e w' => e = .returned (.int .i64 (q + n * 1)) ∧ Below w.heap.size w w' := by
  go_enter Try.func106, Try.ntmps106
  go_wp2_with fail
  refine (heldIntS_c _ _ _ _ _ (hr.to (by go_grown)) hq0 hq1 hm).mono ?_
  rintro e w1 ⟨rfl, hb⟩
  have k1 : Below w.heap.size w w1 := ext_step (by go_grown) (by go_size) hb
  clear hb
  go_wp2
  go_ret
  exact ⟨ret_int (by omega), k1⟩
set_option maxHeartbeats 2000000 in
theorem heldSteering_c (Ar : Option Addr) (nr cr : Nat) (As : Option Addr) (ns cs : Nat) (key : ByteArray) (At : Option Addr) (nt ct : Nat) (q : Int) (w : World) (h1 : Reads w w.heap.size 9 Ar nr (marksRuleS nr q)) (h2 : Reads w w.heap.size 7 As ns (marksSlotS ns (q + nr * 9))) (h3 : Reads w w.heap.size 1 At nt (marksIntS nt (q + nr * 9 + ns * 7))) (hq0 : 0 ≤ q) (hq1 : q ≤ 100000000) (hm1 : nr ≤ 1048576) (hm2 : ns ≤ 1048576) (hm3 : nt ≤ 1048576) :
    Calls Try.prog 33 #[.agg #[.slice Ar nr cr, .slice As ns cs, .string key, .slice At nt ct], .int .i64 q] w fun e w' => e = .returned (.int .i64 (q + nr * 9 + ns * 7 + nt * 1)) ∧ Below w.heap.size w w' := by
  go_enter Try.func33, Try.ntmps33
  go_wp2_with fail
  have k0 : Below w.heap.size w (w.alloc (.cells #[.slice Ar nr cr, .slice As ns cs, .string key, .slice At nt ct] 58)) := by go_grown
  have bl0 : w.heap.size < (w.alloc (.cells #[.slice Ar nr cr, .slice As ns cs, .string key, .slice At nt ct] 58)).heap.size := by go_size
  have hk0 : Blk (w.alloc (.cells #[.slice Ar nr cr, .slice As ns cs, .string key, .slice At nt ct] 58)) (w.heap.size) 58 [.slice Ar nr cr, .slice As ns cs, .string key, .slice At nt ct] := by simpa using Blk.new w 58 [.slice Ar nr cr, .slice As ns cs, .string key, .slice At nt ct]
  have p0 := k0.size
  generalize hW0 : (w.alloc (.cells #[.slice Ar nr cr, .slice As ns cs, .string key, .slice At nt ct] 58)) = w0 at *
  clear hW0
  refine (heldRuleS_c _ _ _ _ _ ((h1.below k0).more k0.size) hq0 (by omega) (by omega)).mono ?_
  rintro e w1 ⟨rfl, hb⟩
  have k1 : Below w.heap.size w w1 := ext_step k0 (by omega) hb
  have p1 := hb.size
  replace hk0 := hk0.ext hb
  have bl0 := Nat.lt_of_lt_of_le bl0 hb.size
  clear hb
  have bx0_1 := hk0.at_ 1 _ rfl
  go_wp2_with fail
  refine (heldFlowTable_c _ _ _ _ _ ((h2.below k1).more k1.size) (by omega) (by omega) (by omega)).mono ?_
  rintro e w2 ⟨rfl, hb⟩
  have k2 : Below w.heap.size w w2 := ext_step k1 (by omega) hb
  have p2 := hb.size
  replace hk0 := hk0.ext hb
  clear bx0_1
  have bl0 := Nat.lt_of_lt_of_le bl0 hb.size
  clear hb
  have bx0_2 := hk0.at_ 2 _ rfl
  have bx0_3 := hk0.at_ 3 _ rfl
  go_wp2_with fail
  refine (heldSpread_c key _ _ _ _ _ ((h3.below k2).more k2.size) (by omega) (by omega) (by omega)).mono ?_
  rintro e w3 ⟨rfl, hb⟩
  have k3 : Below w.heap.size w w3 := ext_step k2 (by omega) hb
  have p3 := hb.size
  replace hk0 := hk0.ext hb
  clear bx0_2 bx0_3
  have bl0 := Nat.lt_of_lt_of_le bl0 hb.size
  clear hb
  go_wp2
  go_ret
  exact ⟨ret_int (by omega), k3⟩
end Go.Proofs.Ytifbfmafogmemaa
