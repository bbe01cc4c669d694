/- Contracts of PoolOk: impl and spec. -/
import Derived.Test.YtnkcomclhmlefaaPoolP
import Derived.Test.YtnkcomclhmlefaaOpen
namespace Go.Proofs.Ytnkcomclhmlefaa
set_option linter.unusedSimpArgs false
set_option linter.unusedVariables false
open Go.RowKit Go.ChangeShapes Go.WideShapes
theorem info_bool : (Try.prog.info? 4).map (fun i => (i.zero, i.size, i.bytes)) = some (some (.bool false), 1, 1) := by kernel_rfl
set_option maxRecDepth 100000 in
set_option maxHeartbeats 4000000 in
theorem implPoolOk_c (base size count : Int) (A : Option Addr) (n c : Nat) (l : List Int) (w : World) (hn : l.length = n) (hm : n ≤ 17592186044416) (hr : Reads w w.heap.size 1 A n (l.flatMap fun x : Int => [Value.int .i64 x])) :
    Calls Try.prog 27 #[.agg #[.int .i64 base, .int .i64 size, .int .i64 count, .slice A n c]] w fun e w' => e = .returned (.bool (poolB base size count l)) ∧ Below w.heap.size w w' := by
  cases e1 : inB base 0 130944
  · go_enter Try.func27, Try.ntmps27
    go_wp2_with (go_at_call 28; refine (calls_bool (between_c _ _ _ _) (by assumption)).mono ?_; rintro e w1 ⟨rfl, rfl⟩)
    go_ret
    exact ⟨ret_bool (by simp [poolB, poolH, e1]), by go_grown⟩
  · cases e2 : inB size 1 512
    · go_enter Try.func27, Try.ntmps27
      go_wp2_with (go_at_call 28; refine (calls_bool (between_c _ _ _ _) (by assumption)).mono ?_; rintro e w1 ⟨rfl, rfl⟩)
      go_ret
      exact ⟨ret_bool (by simp [poolB, poolH, e1, e2]), by go_grown⟩
    · cases e3 : inB count 0 16
      · go_enter Try.func27, Try.ntmps27
        go_wp2_with (go_at_call 28; refine (calls_bool (between_c _ _ _ _) (by assumption)).mono ?_; rintro e w1 ⟨rfl, rfl⟩)
        go_ret
        exact ⟨ret_bool (by simp [poolB, poolH, e1, e2, e3]), by go_grown⟩
      · have hH : poolH base size count = true := by simp [poolH, e1, e2, e3]
        have HH := Lib.hid hH
        obtain ⟨i0, hi, hz0, hz1, hz2⟩ := info_parts info_bool
        obtain ⟨b1, b2⟩ := inB_t e3
        obtain ⟨m, rfl⟩ := Int.eq_ofNat_of_zero_le b1
        have hmk := fun W => run_make_rowN (P := Try.prog) 69 4 i0 _ 1 1 Try.underlying69 hi hz0 hz1 hz2 m m (Nat.le_refl _) (by omega) (by omega) W
        rw [made_bool] at hmk
        have HN := Lib.hid hn
        clear hn hi hz0 hz1 hz2 hH
        go_enter Try.func27, Try.ntmps27
        go_wp2_with (go_at_call 28; refine (calls_bool (between_c _ _ _ _) (by assumption)).mono ?_; rintro e w1 ⟨rfl, rfl⟩)
        clear e1 e2 e3 hmk
        go_loopw [28] (fun i wr => ∃ k : Nat, k ≤ n ∧ i = .int .i64 k ∧ Below w.heap.size w wr ∧ wr.cell? ⟨w.heap.size, 2, none⟩ = some (.int .i64 (m : Int)) ∧ wr.cell? ⟨w.heap.size, 3, none⟩ = some (.slice A n c) ∧ Blk wr (w.heap.size + 1) 4 (seenC m (l.take k)) ∧ Hid (freeR m l k = true)) (fun i _ => n - (intOf i).toNat)
        case atStart => exact ⟨0, Nat.zero_le _, rfl, by go_grown, by simp [go_sem], by simp [go_sem], blk_after, by simp [Hid, freeR]⟩
        case round =>
          obtain ⟨k, hk, rfl, hbw, z2, z3, hseen, hall⟩ := hrel
          have hsz := hbw.size
          have hgl := hseen.lt
          by_cases hlt : k < n
          · obtain ⟨b, o, x, rfl, hb, hxx, hcx⟩ := hr.el (fun _ => rfl) (by decide) HN.out hlt
            have c0 := (hbw.cell (p := ⟨b, o + k, none⟩) hb).trans (by simpa using hcx 0 _ rfl)
            have HXx := Lib.hid hxx
            clear hxx hcx
            have a1 : (0 : Int) ≤ (m : Int) := by omega
            have a2 : (m : Int) ≤ 16 := by omega
            cases f1 : inB x 0 ((m : Int) - 1)
            · have hB := freeR_bad HN.out HXx.out (by rw [f1]; rfl)
              have HB := Lib.hid hB
              clear hB
              go_wp2_with (go_at_call 28; refine (calls_bool (between_c _ _ _ _) (by assumption)).mono ?_; rintro e w1 ⟨rfl, rfl⟩)
              go_ret
              exact ⟨ret_bool (by rw [poolB, HH.out, HN.out, HB.out]; rfl), by first | exact below_drewN hbw _ | go_grown⟩
            · obtain ⟨x1, x2⟩ := inB_t f1
              obtain ⟨j, rfl⟩ := Int.eq_ofNat_of_zero_le x1
              have hjm : j < m := by omega
              have j1 : (j : Int) < (m : Int) := by omega
              have g0 := (hseen.cell j).trans (seenC_get _ hjm)
              have fz := hseen.frozen j
              cases f2 : decide ((j : Int) ∈ l.take k)
              · rw [f2] at g0
                have hN := freeR_next hall.out HXx.out f1 f2
                have HNx := Lib.hid hN
                have hS := seenC_set (l.take k) hjm
                rw [← take_next HXx.out] at hS
                have HS := Lib.hid hS
                clear hN hS f2
                go_wp2_with (go_at_call 28; refine (calls_bool (between_c _ _ _ _) (by assumption)).mono ?_; rintro e w1 ⟨rfl, rfl⟩)
                go_roundw
                case rel => exact ⟨k + 1, by omega, by go_num, hbw.setCell (by show w.heap.size ≤ w.heap.size + 1; omega) _, by rw [World.cell?_setCell_other _ _ _ _ (by simp)]; exact z2, by rw [World.cell?_setCell_other _ _ _ _ (by simp)]; exact z3, by rw [← HS.out]; exact hseen.set_ _ _, HNx⟩
                case measure => simp [intOf]; omega
              · rw [f2] at g0
                have hB := freeR_bad HN.out HXx.out (by rw [f1, f2]; rfl)
                have HB := Lib.hid hB
                clear hB f2
                go_wp2_with (go_at_call 28; refine (calls_bool (between_c _ _ _ _) (by assumption)).mono ?_; rintro e w1 ⟨rfl, rfl⟩)
                go_ret
                exact ⟨ret_bool (by rw [poolB, HH.out, HN.out, HB.out]; rfl), by first | exact below_drewN hbw _ | go_grown⟩
          · have hkn : k = n := by omega
            subst hkn
            go_wp2
            go_ret
            exact ⟨ret_bool (by rw [poolB, HH.out, HN.out, hall.out]; rfl), by go_grown⟩
set_option maxRecDepth 100000 in
set_option maxHeartbeats 4000000 in
theorem specPoolOk_c (base size count : Int) (A : Option Addr) (n c : Nat) (l : List Int) (w : World) (hn : l.length = n) (hm : n ≤ 17592186044416) (hr : Reads w w.heap.size 1 A n (l.flatMap fun x : Int => [Value.int .i64 x])) :
    Calls Try.prog 20 #[.agg #[.int .i64 base, .int .i64 size, .int .i64 count, .slice A n c]] w fun e w' => e = .returned (.bool (poolB base size count l)) ∧ Below w.heap.size w w' := by
  cases e1 : inB base 0 130944
  · go_enter Try.func20, Try.ntmps20
    go_wp2_with (go_at_call 21; refine (calls_bool (l01In_c _ _ _ _) (by assumption)).mono ?_; rintro e w1 ⟨rfl, rfl⟩)
    go_ret
    exact ⟨ret_bool (by simp [poolB, poolH, e1]), by go_grown⟩
  · cases e2 : inB size 1 512
    · go_enter Try.func20, Try.ntmps20
      go_wp2_with (go_at_call 21; refine (calls_bool (l01In_c _ _ _ _) (by assumption)).mono ?_; rintro e w1 ⟨rfl, rfl⟩)
      go_ret
      exact ⟨ret_bool (by simp [poolB, poolH, e1, e2]), by go_grown⟩
    · cases e3 : inB count 0 16
      · go_enter Try.func20, Try.ntmps20
        go_wp2_with (go_at_call 21; refine (calls_bool (l01In_c _ _ _ _) (by assumption)).mono ?_; rintro e w1 ⟨rfl, rfl⟩)
        go_ret
        exact ⟨ret_bool (by simp [poolB, poolH, e1, e2, e3]), by go_grown⟩
      · have hH : poolH base size count = true := by simp [poolH, e1, e2, e3]
        have HH := Lib.hid hH
        obtain ⟨i0, hi, hz0, hz1, hz2⟩ := info_parts info_bool
        obtain ⟨b1, b2⟩ := inB_t e3
        obtain ⟨m, rfl⟩ := Int.eq_ofNat_of_zero_le b1
        have hmk := fun W => run_make_rowN (P := Try.prog) 69 4 i0 _ 1 1 Try.underlying69 hi hz0 hz1 hz2 m m (Nat.le_refl _) (by omega) (by omega) W
        rw [made_bool] at hmk
        have HN := Lib.hid hn
        clear hn hi hz0 hz1 hz2 hH
        go_enter Try.func20, Try.ntmps20
        go_wp2_with (go_at_call 21; refine (calls_bool (l01In_c _ _ _ _) (by assumption)).mono ?_; rintro e w1 ⟨rfl, rfl⟩)
        clear e1 e2 e3 hmk
        go_loopw [4] (fun i wr => ∃ k : Nat, k ≤ n ∧ i = .int .i64 k ∧ Below w.heap.size w wr ∧ wr.cell? ⟨w.heap.size, 2, none⟩ = some (.int .i64 (m : Int)) ∧ wr.cell? ⟨w.heap.size, 3, none⟩ = some (.slice A n c) ∧ Blk wr (w.heap.size + 1) 4 (seenC m (l.take k)) ∧ Hid (freeR m l k = true)) (fun i _ => n - (intOf i).toNat)
        case atStart => exact ⟨0, Nat.zero_le _, rfl, by go_grown, by simp [go_sem], by simp [go_sem], blk_after, by simp [Hid, freeR]⟩
        case round =>
          obtain ⟨k, hk, rfl, hbw, z2, z3, hseen, hall⟩ := hrel
          have hsz := hbw.size
          have hgl := hseen.lt
          by_cases hlt : k < n
          · obtain ⟨b, o, x, rfl, hb, hxx, hcx⟩ := hr.el (fun _ => rfl) (by decide) HN.out hlt
            have c0 := (hbw.cell (p := ⟨b, o + k, none⟩) hb).trans (by simpa using hcx 0 _ rfl)
            have HXx := Lib.hid hxx
            clear hxx hcx
            have a1 : (0 : Int) ≤ (m : Int) := by omega
            have a2 : (m : Int) ≤ 16 := by omega
            cases f1 : inB x 0 ((m : Int) - 1)
            · have hB := freeR_bad HN.out HXx.out (by rw [f1]; rfl)
              have HB := Lib.hid hB
              clear hB
              go_wp2_with fail
              go_quiet ((go_at_call 21; exact quiet_left (calls_bool (l01In_c _ _ _ _) (by assumption))))
              go_wp2
              go_ret
              exact ⟨ret_bool (by rw [poolB, HH.out, HN.out, HB.out]; rfl), by first | exact below_drewN hbw _ | go_grown⟩
            · obtain ⟨x1, x2⟩ := inB_t f1
              obtain ⟨j, rfl⟩ := Int.eq_ofNat_of_zero_le x1
              have hjm : j < m := by omega
              have j1 : (j : Int) < (m : Int) := by omega
              have g0 := (hseen.cell j).trans (seenC_get _ hjm)
              have fz := hseen.frozen j
              cases f2 : decide ((j : Int) ∈ l.take k)
              · rw [f2] at g0
                have hN := freeR_next hall.out HXx.out f1 f2
                have HNx := Lib.hid hN
                have hS := seenC_set (l.take k) hjm
                rw [← take_next HXx.out] at hS
                have HS := Lib.hid hS
                clear hN hS f2
                go_wp2_with fail
                go_quiet ((go_at_call 21; exact quiet_left (calls_bool (l01In_c _ _ _ _) (by assumption))))
                go_wp2
                go_roundw
                case rel => exact ⟨k + 1, by omega, by go_num, (below_drewN hbw _).setCell (by show w.heap.size ≤ w.heap.size + 1; omega) _, by rw [World.cell?_setCell_other _ _ _ _ (by simp)]; exact z2, by rw [World.cell?_setCell_other _ _ _ _ (by simp)]; exact z3, by rw [← HS.out]; exact (hseen.drewN _).set_ _ _, HNx⟩
                case measure => simp [intOf]; omega
              · rw [f2] at g0
                have hB := freeR_bad HN.out HXx.out (by rw [f1, f2]; rfl)
                have HB := Lib.hid hB
                clear hB f2
                go_wp2_with fail
                go_quiet ((go_at_call 21; exact quiet_left (calls_bool (l01In_c _ _ _ _) (by assumption))))
                go_wp2
                go_ret
                exact ⟨ret_bool (by rw [poolB, HH.out, HN.out, HB.out]; rfl), by first | exact below_drewN hbw _ | go_grown⟩
          · have hkn : k = n := by omega
            subst hkn
            go_wp2
            go_ret
            exact ⟨ret_bool (by rw [poolB, HH.out, HN.out, hall.out]; rfl), by go_grown⟩
end Go.Proofs.Ytnkcomclhmlefaa
