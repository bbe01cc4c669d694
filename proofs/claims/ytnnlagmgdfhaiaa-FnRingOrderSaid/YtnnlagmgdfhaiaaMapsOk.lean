/- Contracts on mappings: pageMapping, MappingsOk, place, Translate: impl and spec. -/
import Derived.Test.YtnnlagmgdfhaiaaMapsP
import Derived.Test.YtnnlagmgdfhaiaaRows2
namespace Go.Proofs.Ytnnlagmgdfhaiaa
set_option linter.unusedSimpArgs false
set_option linter.unusedVariables false
open Go.RowKit Go.ChangeShapes Go.WideShapes
set_option maxHeartbeats 1000000 in
theorem pageMapping_c (A : Option Addr) (n c : Nat) (l : List Mapping) (w : World) (hn : l.length = n) (hm : n ≤ 35184372088832) (hr : Reads w w.heap.size 4 A n (l.flatMap Mapping.cells)) (d v : Int) :
    Calls Try.prog 92 #[.slice A n c, .int .i64 d, .int .i64 v] w fun e w' => e = .returned (.int .i64 (pmI l d v)) ∧ Below w.heap.size w w' := by
  have HN := Lib.hid hn
  clear hn
  go_enter Try.func92, Try.ntmps92
  go_wp2
  go_loopw [11] (fun i wr => ∃ k : Nat, k ≤ n ∧ i = .int .i64 k ∧ Below w.heap.size w wr ∧ Hid ((l.take k).all (fun y => !hitM d v y) = true)) (fun i _ => n - (intOf i).toNat)
  case atStart => exact ⟨0, Nat.zero_le _, rfl, Below.refl _ _, rfl⟩
  case round =>
    obtain ⟨k, hk, rfl, hbw, hall⟩ := hrel
    have hsz := hbw.size
    by_cases hlt : k < n
    · obtain ⟨b, o, x, rfl, hb, hxx, hcx⟩ := hr.el (fun _ => rfl) (by decide) HN.out hlt
      have c0 := (hbw.cell (p := ⟨b, o + k * 4, none⟩) hb).trans (by simpa using hcx 0 _ rfl)
      have c1 := (hbw.cell (p := ⟨b, o + k * 4 + 1, none⟩) hb).trans (by simpa using hcx 1 _ rfl)
      have c2 := (hbw.cell (p := ⟨b, o + k * 4 + 2, none⟩) hb).trans (by simpa using hcx 2 _ rfl)
      have c3 := (hbw.cell (p := ⟨b, o + k * 4 + 3, none⟩) hb).trans (by simpa using hcx 3 _ rfl)
      have HXx := Lib.hid hxx
      clear hxx hcx
      by_cases e1 : x.dom = d
      · by_cases e2 : x.vir = v
        · have hp : pmI l d v = k := pm_at hall.out HXx.out (by simp [hitM, e1, e2])
          have HP := Lib.hid hp
          have b1 : (x.dom == d) = true := by simpa using e1
          have b2 : (x.vir == v) = true := by simpa using e2
          clear hp e1 e2
          go_wp2
          go_ret
          exact ⟨ret_int HP.out.symm, by go_grown⟩
        · have hp := all_take (p := fun y => !hitM d v y) hall.out HXx.out (by simp [hitM, e2])
          have HP := Lib.hid hp
          have b1 : (x.dom == d) = true := by simpa using e1
          have b2 : (x.vir == v) = false := by simpa using e2
          clear hp e1 e2
          go_wp2
          go_roundw
          case rel => exact ⟨k + 1, by omega, by go_num, by go_grown, HP⟩
          case measure => simp [intOf]; omega
      · have hp := all_take (p := fun y => !hitM d v y) hall.out HXx.out (by simp [hitM, e1])
        have HP := Lib.hid hp
        have b1 : (x.dom == d) = false := by simpa using e1
        clear hp e1
        go_wp2
        go_roundw
        case rel => exact ⟨k + 1, by omega, by go_num, by go_grown, HP⟩
        case measure => simp [intOf]; omega
    · have hp := hall.out
      rw [take_all HN.out hlt] at hp
      have HP := Lib.hid (pm_none hp)
      clear hp
      go_wp2
      go_ret
      exact ⟨ret_int HP.out.symm, by go_grown⟩
set_option maxHeartbeats 2000000 in
theorem implMappingsOk_c (A : Option Addr) (n c : Nat) (l : List Mapping) (w : World) (hn : l.length = n) (hm : n ≤ 35184372088832) (hr : Reads w w.heap.size 4 A n (l.flatMap Mapping.cells)) :
    Calls Try.prog 38 #[.slice A n c] w fun e w' => e = .returned (.bool (mapsB l)) ∧ Below w.heap.size w w' := by
  have HN := Lib.hid hn
  clear hn
  go_enter Try.func38, Try.ntmps38
  go_wp2
  go_loopw [7] (fun i wr => ∃ k : Nat, k ≤ n ∧ i = .int .i64 k ∧ Below w.heap.size w wr ∧ Hid (mapsR l k = true)) (fun i _ => n - (intOf i).toNat)
  case atStart => exact ⟨0, Nat.zero_le _, rfl, Below.refl _ _, rfl⟩
  case round =>
    obtain ⟨k, hk, rfl, hbw, hall⟩ := hrel
    have hsz := hbw.size
    by_cases hlt : k < n
    · obtain ⟨b, o, x, rfl, hb, hxx, hcx⟩ := hr.el (fun _ => rfl) (by decide) HN.out hlt
      have c0 := (hbw.cell (p := ⟨b, o + k * 4, none⟩) hb).trans (by simpa using hcx 0 _ rfl)
      have c1 := (hbw.cell (p := ⟨b, o + k * 4 + 1, none⟩) hb).trans (by simpa using hcx 1 _ rfl)
      have c2 := (hbw.cell (p := ⟨b, o + k * 4 + 2, none⟩) hb).trans (by simpa using hcx 2 _ rfl)
      have c3 := (hbw.cell (p := ⟨b, o + k * 4 + 3, none⟩) hb).trans (by simpa using hcx 3 _ rfl)
      have HXx := Lib.hid hxx
      clear hxx hcx
      cases e1 : inB x.dom 0 7
      · have hB := mapsR_bad (k := k) HXx.out HN.out (by simp [mapIn, e1])
        have HB := Lib.hid hB
        clear hB
        go_wp2_with (go_at_call 78; refine (calls_bool (between_c _ _ _ _) (by assumption)).mono ?_; rintro e w1 ⟨rfl, rfl⟩)
        go_ret
        exact ⟨ret_bool HB.out.symm, by go_grown⟩
      · cases e2 : inB x.vir 0 1023
        · have hB := mapsR_bad (k := k) HXx.out HN.out (by simp [mapIn, e1, e2])
          have HB := Lib.hid hB
          clear hB
          go_wp2_with (go_at_call 78; refine (calls_bool (between_c _ _ _ _) (by assumption)).mono ?_; rintro e w1 ⟨rfl, rfl⟩)
          go_ret
          exact ⟨ret_bool HB.out.symm, by go_grown⟩
        · cases e3 : inB x.phy 0 63
          · have hB := mapsR_bad (k := k) HXx.out HN.out (by simp [mapIn, e1, e2, e3])
            have HB := Lib.hid hB
            clear hB
            go_wp2_with (go_at_call 78; refine (calls_bool (between_c _ _ _ _) (by assumption)).mono ?_; rintro e w1 ⟨rfl, rfl⟩)
            go_ret
            exact ⟨ret_bool HB.out.symm, by go_grown⟩
          · by_cases e4 : pmI l x.dom x.vir = k
            · have hn1 := mapsR_ok hall.out HXx.out (by simp [mapIn, e1, e2, e3]) e4
              have HN1 := Lib.hid hn1
              have b4 : (pmI l x.dom x.vir != (k : Int)) = false := by simpa using e4
              clear hn1 e4
              go_wp2_with (first | (go_at_call 78; refine (calls_bool (between_c _ _ _ _) (by assumption)).mono ?_; rintro e w1 ⟨rfl, rfl⟩) | (go_at_call 92; refine (pageMapping_c _ _ _ l _ HN.out hm (hr.to (by go_grown)) _ _).mono ?_; rintro e w1 ⟨rfl, hb⟩; have hk1 : Below w.heap.size w w1 := ext_step (by go_grown) (by go_size) hb; clear hb))
              go_roundw
              case rel => exact ⟨k + 1, by omega, by go_num, hk1, HN1⟩
              case measure => simp [intOf]; omega
            · have b4 : (pmI l x.dom x.vir != (k : Int)) = true := by simpa using e4
              have hB := mapsR_bad (k := k) HXx.out HN.out (by simp [e4])
              have HB := Lib.hid hB
              clear hB
              go_wp2_with (first | (go_at_call 78; refine (calls_bool (between_c _ _ _ _) (by assumption)).mono ?_; rintro e w1 ⟨rfl, rfl⟩) | (go_at_call 92; refine (pageMapping_c _ _ _ l _ HN.out hm (hr.to (by go_grown)) _ _).mono ?_; rintro e w1 ⟨rfl, hb⟩; have hk1 : Below w.heap.size w w1 := ext_step (by go_grown) (by go_size) hb; clear hb))
              go_ret
              exact ⟨ret_bool HB.out.symm, hk1⟩
    · go_wp2
      go_ret
      exact ⟨ret_bool (by have h := hall.out; have h2 := HN.out; have h3 : k = n := by omega
                          rw [mapsB, h2, ← h3, h]; simp; omega), by go_grown⟩
set_option maxHeartbeats 4000000 in
theorem specMappingsOk_c (A : Option Addr) (n c : Nat) (l : List Mapping) (w : World) (hn : l.length = n) (hm : n ≤ 35184372088832) (hr : Reads w w.heap.size 4 A n (l.flatMap Mapping.cells)) :
    Calls Try.prog 96 #[.slice A n c] w fun e w' => e = .returned (.bool (mapsB l)) ∧ Below w.heap.size w w' := by
  have HN := Lib.hid hn
  clear hn
  by_cases h96 : 96 < n
  · go_enter Try.func96, Try.ntmps96
    go_wp2
    go_ret
    exact ⟨ret_bool (by have h2 := HN.out; rw [mapsB, h2]; simp; omega), Below.refl _ _⟩
  · go_enter Try.func96, Try.ntmps96
    go_wp2
    go_loopw [3] (fun i wr => ∃ k : Nat, k ≤ n ∧ i = .int .i64 k ∧ Below w.heap.size w wr ∧ Hid (mapsR l k = true)) (fun i _ => n - (intOf i).toNat)
    case atStart => exact ⟨0, Nat.zero_le _, rfl, Below.refl _ _, rfl⟩
    case round =>
      obtain ⟨k, hk, rfl, hbw, hall⟩ := hrel
      have hsz := hbw.size
      by_cases hlt : k < n
      · obtain ⟨b, o, x, rfl, hb, hxx, hcx⟩ := hr.el (fun _ => rfl) (by decide) HN.out hlt
        have c0 := (hbw.cell (p := ⟨b, o + k * 4, none⟩) hb).trans (by simpa using hcx 0 _ rfl)
        have c1 := (hbw.cell (p := ⟨b, o + k * 4 + 1, none⟩) hb).trans (by simpa using hcx 1 _ rfl)
        have c2 := (hbw.cell (p := ⟨b, o + k * 4 + 2, none⟩) hb).trans (by simpa using hcx 2 _ rfl)
        have c3 := (hbw.cell (p := ⟨b, o + k * 4 + 3, none⟩) hb).trans (by simpa using hcx 3 _ rfl)
        have HXx := Lib.hid hxx
        clear hxx hcx
        cases e1 : inB x.dom 0 7
        · have hB := mapsR_bad (k := k) HXx.out HN.out (by simp [mapIn, e1])
          have HB := Lib.hid hB
          clear hB
          go_wp2_with (go_at_call 121; refine (calls_bool (l01In_c _ _ _ _) (by assumption)).mono ?_; rintro e w1 ⟨rfl, rfl⟩)
          go_ret
          exact ⟨ret_bool HB.out.symm, by go_grown⟩
        · cases e2 : inB x.vir 0 1023
          · have hB := mapsR_bad (k := k) HXx.out HN.out (by simp [mapIn, e1, e2])
            have HB := Lib.hid hB
            clear hB
            go_wp2_with (go_at_call 121; refine (calls_bool (l01In_c _ _ _ _) (by assumption)).mono ?_; rintro e w1 ⟨rfl, rfl⟩)
            go_ret
            exact ⟨ret_bool HB.out.symm, by go_grown⟩
          · cases e3 : inB x.phy 0 63
            · have hB := mapsR_bad (k := k) HXx.out HN.out (by simp [mapIn, e1, e2, e3])
              have HB := Lib.hid hB
              clear hB
              go_wp2_with (go_at_call 121; refine (calls_bool (l01In_c _ _ _ _) (by assumption)).mono ?_; rintro e w1 ⟨rfl, rfl⟩)
              go_ret
              exact ⟨ret_bool HB.out.symm, by go_grown⟩
            · have HI : Hid (mapIn x = true) := by simp [Hid, mapIn, e1, e2, e3]
              go_wp2_with (go_at_call 121; refine (calls_bool (l01In_c _ _ _ _) (by assumption)).mono ?_; rintro e w1 ⟨rfl, rfl⟩)
              have q0 : Hid ((wr.alloc (.cells #[.int .i64 x.dom, .int .i64 x.vir, .int .i64 x.phy, .bool x.wr] 51)).cell? ⟨wr.heap.size, 0, none⟩ = some (.int .i64 x.dom)) := by simp [Hid, go_sem]
              have q1 : Hid ((wr.alloc (.cells #[.int .i64 x.dom, .int .i64 x.vir, .int .i64 x.phy, .bool x.wr] 51)).cell? ⟨wr.heap.size, 1, none⟩ = some (.int .i64 x.vir)) := by simp [Hid, go_sem]
              go_loopw [5] (fun i wi => ∃ j : Nat, j ≤ k ∧ i = .int .i64 j ∧ Below w.heap.size w wi ∧ wi.cell? ⟨wr.heap.size, 0, none⟩ = some (.int .i64 x.dom) ∧ wi.cell? ⟨wr.heap.size, 1, none⟩ = some (.int .i64 x.vir) ∧ Hid ((l.take j).all (fun y => !hitM x.dom x.vir y) = true)) (fun i _ => k - (intOf i).toNat)
              case atStart => exact ⟨0, Nat.zero_le _, rfl, by go_grown, q0.out, q1.out, rfl⟩
              case round =>
                obtain ⟨j, hj, rfl, hbi, z0, z1, hno⟩ := hrel
                have hszi := hbi.size
                by_cases hjk : j < k
                · have hjn : j < n := by omega
                  obtain ⟨b2, o2, y, hA2, hb2, hxy, hcy⟩ := hr.el (fun _ => rfl) (by decide) HN.out hjn
                  injection hA2 with hA2
                  injection hA2 with hA3 hA4
                  subst hA3
                  subst hA4
                  have d0 := (hbi.cell (p := ⟨b, o + j * 4, none⟩) hb2).trans (by simpa using hcy 0 _ rfl)
                  have d1 := (hbi.cell (p := ⟨b, o + j * 4 + 1, none⟩) hb2).trans (by simpa using hcy 1 _ rfl)
                  have d2 := (hbi.cell (p := ⟨b, o + j * 4 + 2, none⟩) hb2).trans (by simpa using hcy 2 _ rfl)
                  have d3 := (hbi.cell (p := ⟨b, o + j * 4 + 3, none⟩) hb2).trans (by simpa using hcy 3 _ rfl)
                  have HXy := Lib.hid hxy
                  clear hxy hcy hb2
                  by_cases f1 : y.dom = x.dom
                  · by_cases f2 : y.vir = x.vir
                    · have hp : pmI l x.dom x.vir = j := pm_at hno.out HXy.out (by simp [hitM, f1, f2])
                      have hB := mapsR_bad (k := k) HXx.out HN.out (by rw [hp]; simp; omega)
                      have HB := Lib.hid hB
                      have g1 : (y.dom == x.dom) = true := by simpa using f1
                      have g2 : (y.vir == x.vir) = true := by simpa using f2
                      clear hp hB f1 f2
                      go_wp2_with fail
                      go_quiet (fail)
                      go_wp2
                      go_ret
                      exact ⟨ret_bool HB.out.symm, below_drewN hbi _⟩
                    · have hp := all_take (p := fun y => !hitM x.dom x.vir y) hno.out HXy.out (by simp [hitM, f2])
                      have HP := Lib.hid hp
                      have g1 : (y.dom == x.dom) = true := by simpa using f1
                      have g2 : (y.vir == x.vir) = false := by simpa using f2
                      clear hp f1 f2
                      go_wp2_with fail
                      go_quiet (fail)
                      go_wp2
                      go_roundw
                      case rel => exact ⟨j + 1, by omega, by go_num, below_drewN hbi _, z0, z1, HP⟩
                      case measure => simp [intOf]; omega
                  · have hp := all_take (p := fun y => !hitM x.dom x.vir y) hno.out HXy.out (by simp [hitM, f1])
                    have HP := Lib.hid hp
                    have g1 : (y.dom == x.dom) = false := by simpa using f1
                    clear hp f1
                    go_wp2_with fail
                    go_quiet (fail)
                    go_wp2
                    go_roundw
                    case rel => exact ⟨j + 1, by omega, by go_num, below_drewN hbi _, z0, z1, HP⟩
                    case measure => simp [intOf]; omega
                · have hjk2 : j = k := by omega
                  subst hjk2
                  have hp := pm_at hno.out HXx.out (by simp [hitM])
                  have hn1 := mapsR_ok hall.out HXx.out HI.out hp
                  have HN1 := Lib.hid hn1
                  clear hp hn1
                  go_wp2
                  go_roundw
                  case rel => exact ⟨j + 1, by omega, by go_num, hbi, HN1⟩
                  case measure => simp [intOf]; omega
      · go_wp2
        go_ret
        exact ⟨ret_bool (by have h := hall.out; have h2 := HN.out; have h3 : k = n := by omega
                            rw [mapsB, h2, ← h3, h]; simp; omega), by go_grown⟩
end Go.Proofs.Ytnnlagmgdfhaiaa
