/- Contracts: SteeringOk: impl and spec. -/
import Derived.Test.YtkfekgmdjemkbaaStC
import Derived.Test.YtkfekgmdjemkbaaStH
namespace Go.Proofs.Ytkfekgmdjemkbaa
set_option linter.unusedSimpArgs false
set_option linter.unusedVariables false
open Go.RowKit Go.ChangeShapes Go.WideShapes
theorem steer_badR {rs : List Rule} {l : List Slot} {key : ByteArray} {tb : List Int} {q : Int} {k : Nat} {x : Rule} (hx : rs[k]? = some x) (h : q ≤ x.queue) : steerB rs l key tb q = false := by
  have : rs.all (fun r => !decide (q ≤ r.queue)) = false := all_bad (p := fun r : Rule => !decide (q ≤ r.queue)) hx (by rw [decide_eq_true h]; rfl)
  rw [steerB, this]; simp
theorem steer_badS {rs : List Rule} {l : List Slot} {key : ByteArray} {tb : List Int} {q : Int} {k : Nat} {x : Slot} (hx : l[k]? = some x) (h : q ≤ x.queue) : steerB rs l key tb q = false := by
  have : l.all (fun r => !decide (q ≤ r.queue)) = false := all_bad (p := fun r : Slot => !decide (q ≤ r.queue)) hx (by rw [decide_eq_true h]; rfl)
  rw [steerB, this]; simp
/-- A slot of a valid table that is not used has queue 0. -/
theorem slot_q {l : List Slot} (h : tableB l = true) {k : Nat} {x : Slot} (hx : slt l k = x) (hk : k < l.length) : x.state = 1 ∨ x.queue = 0 := by
  rw [tableB, Bool.and_eq_true, decide_eq_true_eq] at h
  have a := slotsR_el h.2 (show k < 8 by omega)
  rw [slotB, hx, slot0] at a
  simp only [Bool.and_eq_true, Bool.or_eq_true, decide_eq_true_eq] at a
  rcases a.1.2 with h1 | h1
  · exact .inl h1
  · exact .inr h1.2
set_option maxRecDepth 100000 in
set_option maxHeartbeats 8000000 in
theorem implSteeringOk_c (Ar : Option Addr) (nr cr : Nat) (rs : List Rule) (As : Option Addr) (ns cs : Nat) (l : List Slot) (key : ByteArray) (At : Option Addr) (nt ct : Nat) (tb : List Int) (q : Int) (w : World) (hnr : rs.length = nr) (hmr : nr ≤ 1048576) (hrr : Reads w w.heap.size 9 Ar nr (rs.flatMap Rule.cells)) (hns : l.length = ns) (hms : ns ≤ 1048576) (hrs : Reads w w.heap.size 7 As ns (l.flatMap Slot.cells)) (hnt : tb.length = nt) (hmt : nt ≤ 1048576) (hrt : Reads w w.heap.size 1 At nt (tb.flatMap fun x : Int => [Value.int .i64 x])) :
    Calls Try.prog 11 #[.agg #[.slice Ar nr cr, .slice As ns cs, .string key, .slice At nt ct], .int .i64 q] w fun e w' => e = .returned (.bool (steerB rs l key tb q)) ∧ Below w.heap.size w w' := by
  have hR := fun (u : World) (hu : Reads u u.heap.size 9 Ar nr (rs.flatMap Rule.cells)) => implRulesOk_c Ar nr cr rs u hnr hmr hu
  have hT := fun (u : World) (hu : Reads u u.heap.size 7 As ns (l.flatMap Slot.cells)) => implTableOk_c As ns cs l u hns hms hu
  have hS := fun (u : World) (hu : Reads u u.heap.size 1 At nt (tb.flatMap fun x : Int => [Value.int .i64 x])) => implSpreadOk_c key At nt ct tb q u hnt hmt hu
  have HNr := Lib.hid hnr
  have HNs := Lib.hid hns
  clear hnr hns
  cases h1 : rulesB rs
  · simp only [h1] at hR
    rw [show steerB rs l key tb q = false by simp [steerB, h1]]
    go_enter Try.func11, Try.ntmps11
    go_wp2_with fail
    have k0 : Below w.heap.size w (w.alloc (.cells #[.slice Ar nr cr, .slice As ns cs, .string key, .slice At nt ct] 32)) := by go_grown
    have bl0 : w.heap.size < (w.alloc (.cells #[.slice Ar nr cr, .slice As ns cs, .string key, .slice At nt ct] 32)).heap.size := by go_size
    have hk0 : Blk (w.alloc (.cells #[.slice Ar nr cr, .slice As ns cs, .string key, .slice At nt ct] 32)) (w.heap.size) 32 [.slice Ar nr cr, .slice As ns cs, .string key, .slice At nt ct] := by simpa using Blk.new w 32 [.slice Ar nr cr, .slice As ns cs, .string key, .slice At nt ct]
    have p0 := k0.size
    generalize hW0 : (w.alloc (.cells #[.slice Ar nr cr, .slice As ns cs, .string key, .slice At nt ct] 32)) = w0 at *
    clear hW0
    refine (hR _ ((hrr.below k0).more k0.size)).mono ?_
    rintro e w1 ⟨rfl, hb⟩
    have k1 : Below w.heap.size w w1 := ext_step k0 (by omega) hb
    have p1 := hb.size
    replace hk0 := hk0.ext hb
    have bl0 := Nat.lt_of_lt_of_le bl0 hb.size
    clear hb
    go_wp2
    go_ret
    exact ⟨rfl, k1⟩
  · simp only [h1] at hR
    cases h2 : tableB l
    · simp only [h2] at hT
      rw [show steerB rs l key tb q = false by simp [steerB, h2]]
      go_enter Try.func11, Try.ntmps11
      go_wp2_with fail
      have k0 : Below w.heap.size w (w.alloc (.cells #[.slice Ar nr cr, .slice As ns cs, .string key, .slice At nt ct] 32)) := by go_grown
      have bl0 : w.heap.size < (w.alloc (.cells #[.slice Ar nr cr, .slice As ns cs, .string key, .slice At nt ct] 32)).heap.size := by go_size
      have hk0 : Blk (w.alloc (.cells #[.slice Ar nr cr, .slice As ns cs, .string key, .slice At nt ct] 32)) (w.heap.size) 32 [.slice Ar nr cr, .slice As ns cs, .string key, .slice At nt ct] := by simpa using Blk.new w 32 [.slice Ar nr cr, .slice As ns cs, .string key, .slice At nt ct]
      have p0 := k0.size
      generalize hW0 : (w.alloc (.cells #[.slice Ar nr cr, .slice As ns cs, .string key, .slice At nt ct] 32)) = w0 at *
      clear hW0
      refine (hR _ ((hrr.below k0).more k0.size)).mono ?_
      rintro e w1 ⟨rfl, hb⟩
      have k1 : Below w.heap.size w w1 := ext_step k0 (by omega) hb
      have p1 := hb.size
      replace hk0 := hk0.ext hb
      have bl0 := Nat.lt_of_lt_of_le bl0 hb.size
      clear hb
      have bx0_1 := hk0.at_ 1 _ rfl
      go_wp2_with fail
      refine (hT _ ((hrs.below k1).more k1.size)).mono ?_
      rintro e w2 ⟨rfl, hb⟩
      have k2 : Below w.heap.size w w2 := ext_step k1 (by omega) hb
      have p2 := hb.size
      replace hk0 := hk0.ext hb
      clear bx0_1
      have bl0 := Nat.lt_of_lt_of_le bl0 hb.size
      clear hb
      go_wp2
      go_ret
      exact ⟨rfl, k2⟩
    · simp only [h2] at hT
      cases h3 : spreadB key tb q
      · simp only [h3] at hS
        rw [show steerB rs l key tb q = false by simp [steerB, h3]]
        go_enter Try.func11, Try.ntmps11
        go_wp2_with fail
        have k0 : Below w.heap.size w (w.alloc (.cells #[.slice Ar nr cr, .slice As ns cs, .string key, .slice At nt ct] 32)) := by go_grown
        have bl0 : w.heap.size < (w.alloc (.cells #[.slice Ar nr cr, .slice As ns cs, .string key, .slice At nt ct] 32)).heap.size := by go_size
        have hk0 : Blk (w.alloc (.cells #[.slice Ar nr cr, .slice As ns cs, .string key, .slice At nt ct] 32)) (w.heap.size) 32 [.slice Ar nr cr, .slice As ns cs, .string key, .slice At nt ct] := by simpa using Blk.new w 32 [.slice Ar nr cr, .slice As ns cs, .string key, .slice At nt ct]
        have p0 := k0.size
        generalize hW0 : (w.alloc (.cells #[.slice Ar nr cr, .slice As ns cs, .string key, .slice At nt ct] 32)) = w0 at *
        clear hW0
        refine (hR _ ((hrr.below k0).more k0.size)).mono ?_
        rintro e w1 ⟨rfl, hb⟩
        have k1 : Below w.heap.size w w1 := ext_step k0 (by omega) hb
        have p1 := hb.size
        replace hk0 := hk0.ext hb
        have bl0 := Nat.lt_of_lt_of_le bl0 hb.size
        clear hb
        have bx0_1 := hk0.at_ 1 _ rfl
        go_wp2_with fail
        refine (hT _ ((hrs.below k1).more k1.size)).mono ?_
        rintro e w2 ⟨rfl, hb⟩
        have k2 : Below w.heap.size w w2 := ext_step k1 (by omega) hb
        have p2 := hb.size
        replace hk0 := hk0.ext hb
        clear bx0_1
        have bl0 := Nat.lt_of_lt_of_le bl0 hb.size
        clear hb
        have bx0_2 := hk0.at_ 2 _ rfl
        have bx0_3 := hk0.at_ 3 _ rfl
        go_wp2_with fail
        refine (hS _ ((hrt.below k2).more k2.size)).mono ?_
        rintro e w3 ⟨rfl, hb⟩
        have k3 : Below w.heap.size w w3 := ext_step k2 (by omega) hb
        have p3 := hb.size
        replace hk0 := hk0.ext hb
        clear bx0_2 bx0_3
        have bl0 := Nat.lt_of_lt_of_le bl0 hb.size
        clear hb
        go_wp2
        go_ret
        exact ⟨rfl, k3⟩
      · simp only [h3] at hS
        have hq1 := inB_t (spread_t h3).1
        go_enter Try.func11, Try.ntmps11
        go_wp2_with fail
        have k0 : Below w.heap.size w (w.alloc (.cells #[.slice Ar nr cr, .slice As ns cs, .string key, .slice At nt ct] 32)) := by go_grown
        have bl0 : w.heap.size < (w.alloc (.cells #[.slice Ar nr cr, .slice As ns cs, .string key, .slice At nt ct] 32)).heap.size := by go_size
        have hk0 : Blk (w.alloc (.cells #[.slice Ar nr cr, .slice As ns cs, .string key, .slice At nt ct] 32)) (w.heap.size) 32 [.slice Ar nr cr, .slice As ns cs, .string key, .slice At nt ct] := by simpa using Blk.new w 32 [.slice Ar nr cr, .slice As ns cs, .string key, .slice At nt ct]
        have p0 := k0.size
        generalize hW0 : (w.alloc (.cells #[.slice Ar nr cr, .slice As ns cs, .string key, .slice At nt ct] 32)) = w0 at *
        clear hW0
        refine (hR _ ((hrr.below k0).more k0.size)).mono ?_
        rintro e w1 ⟨rfl, hb⟩
        have k1 : Below w.heap.size w w1 := ext_step k0 (by omega) hb
        have p1 := hb.size
        replace hk0 := hk0.ext hb
        have bl0 := Nat.lt_of_lt_of_le bl0 hb.size
        clear hb
        have bx0_1 := hk0.at_ 1 _ rfl
        go_wp2_with fail
        refine (hT _ ((hrs.below k1).more k1.size)).mono ?_
        rintro e w2 ⟨rfl, hb⟩
        have k2 : Below w.heap.size w w2 := ext_step k1 (by omega) hb
        have p2 := hb.size
        replace hk0 := hk0.ext hb
        clear bx0_1
        have bl0 := Nat.lt_of_lt_of_le bl0 hb.size
        clear hb
        have bx0_2 := hk0.at_ 2 _ rfl
        have bx0_3 := hk0.at_ 3 _ rfl
        go_wp2_with fail
        refine (hS _ ((hrt.below k2).more k2.size)).mono ?_
        rintro e w3 ⟨rfl, hb⟩
        have k3 : Below w.heap.size w w3 := ext_step k2 (by omega) hb
        have p3 := hb.size
        replace hk0 := hk0.ext hb
        clear bx0_2 bx0_3
        have bl0 := Nat.lt_of_lt_of_le bl0 hb.size
        clear hb
        have bx0_0 := hk0.at_ 0 _ rfl
        have bx0_1 := hk0.at_ 1 _ rfl
        have bx0_2 := hk0.at_ 2 _ rfl
        have bx0_3 := hk0.at_ 3 _ rfl
        go_wp2
        go_loopw [29] (fun i wr => ∃ k : Nat, k ≤ nr ∧ i = .int .i64 k ∧ Below w3.heap.size w3 wr ∧ Hid ((rs.take k).all (fun y => !decide (q ≤ y.queue)) = true)) (fun i _ => nr - (intOf i).toNat)
        case atStart => exact ⟨0, Nat.zero_le _, rfl, Below.refl _ _, rfl⟩
        case round =>
          obtain ⟨k, hk, rfl, hbi, hall⟩ := hrel
          have hbw : Below w.heap.size w wr := ext_step k3 k3.size hbi
          have hsz := hbw.size
          have hsi := hbi.size
          have hkb := hk0.ext hbi
          have hkl := hkb.lt
          have t0 := hkb.at_ 0 _ rfl
          have t1 := hkb.at_ 1 _ rfl
          by_cases hlt : k < nr
          · obtain ⟨b, o, x, rfl, hb, hxx, hcx⟩ := hrr.el (fun _ => rfl) (by decide) HNr.out hlt
            have c0 := (hbw.cell (p := ⟨b, o + k * 9, none⟩) hb).trans (by simpa using hcx 0 _ rfl)
            have c1 := (hbw.cell (p := ⟨b, o + k * 9 + 1, none⟩) hb).trans (by simpa using hcx 1 _ rfl)
            have c2 := (hbw.cell (p := ⟨b, o + k * 9 + 2, none⟩) hb).trans (by simpa using hcx 2 _ rfl)
            have c3 := (hbw.cell (p := ⟨b, o + k * 9 + 3, none⟩) hb).trans (by simpa using hcx 3 _ rfl)
            have c4 := (hbw.cell (p := ⟨b, o + k * 9 + 4, none⟩) hb).trans (by simpa using hcx 4 _ rfl)
            have c5 := (hbw.cell (p := ⟨b, o + k * 9 + 5, none⟩) hb).trans (by simpa using hcx 5 _ rfl)
            have c6 := (hbw.cell (p := ⟨b, o + k * 9 + 6, none⟩) hb).trans (by simpa using hcx 6 _ rfl)
            have c7 := (hbw.cell (p := ⟨b, o + k * 9 + 7, none⟩) hb).trans (by simpa using hcx 7 _ rfl)
            have c8 := (hbw.cell (p := ⟨b, o + k * 9 + 8, none⟩) hb).trans (by simpa using hcx 8 _ rfl)
            have HXx := Lib.hid hxx
            clear hxx hcx
            have hx0 := ruleB_t (rulesB_el h1 (List.mem_of_getElem? HXx.out))
            cases b1 : (x.action == 0)
            · have hx1 : ¬ x.action = 0 := by simpa using b1
              have HP := Lib.hid (all_take (p := fun y => !decide (q ≤ y.queue)) hall.out HXx.out (by rw [decide_eq_false (show ¬ q ≤ x.queue by omega)]; rfl))
              go_wp2
              go_roundw
              case rel => exact ⟨k + 1, by omega, by go_num, by first | exact hbi | go_grown, HP⟩
              case measure => simp [intOf]; omega
            · by_cases hq : q ≤ x.queue
              · have HP := Lib.hid (show steerB rs l key tb q = false from steer_badR HXx.out (by omega))
                go_wp2
                go_ret
                exact ⟨ret_bool HP.out.symm, by first | exact hbw | go_grown⟩
              · have HP := Lib.hid (all_take (p := fun y => !decide (q ≤ y.queue)) hall.out HXx.out (by rw [decide_eq_false (show ¬ q ≤ x.queue by omega)]; rfl))
                go_wp2
                go_roundw
                case rel => exact ⟨k + 1, by omega, by go_num, by first | exact hbi | go_grown, HP⟩
                case measure => simp [intOf]; omega
          · have hkn : k = nr := by omega
            have hp := hall.out
            rw [take_all HNr.out hlt] at hp
            have HA := Lib.hid hp
            clear hp hall
            have hb9 := hbi
            go_wp2
            obtain ⟨wq, hwq⟩ : ∃ W, W = wr := ⟨_, rfl⟩
            go_loopw [47] (fun i wr => ∃ k : Nat, k ≤ ns ∧ i = .int .i64 k ∧ Below w3.heap.size w3 wr ∧ Hid ((l.take k).all (fun y => !decide (q ≤ y.queue)) = true)) (fun i _ => ns - (intOf i).toNat)
            case atStart => exact ⟨0, Nat.zero_le _, rfl, hb9, rfl⟩
            case round =>
              obtain ⟨k, hk, rfl, hbi, hall⟩ := hrel
              have hbw : Below w.heap.size w wr := ext_step k3 k3.size hbi
              have hsz := hbw.size
              have hsi := hbi.size
              have hkb := hk0.ext hbi
              have hkl := hkb.lt
              have t0 := hkb.at_ 0 _ rfl
              have t1 := hkb.at_ 1 _ rfl
              by_cases hlt : k < ns
              · obtain ⟨b, o, x, rfl, hb, hxx, hcx⟩ := hrs.el (fun _ => rfl) (by decide) HNs.out hlt
                have c0 := (hbw.cell (p := ⟨b, o + k * 7, none⟩) hb).trans (by simpa using hcx 0 _ rfl)
                have c1 := (hbw.cell (p := ⟨b, o + k * 7 + 1, none⟩) hb).trans (by simpa using hcx 1 _ rfl)
                have c2 := (hbw.cell (p := ⟨b, o + k * 7 + 2, none⟩) hb).trans (by simpa using hcx 2 _ rfl)
                have c3 := (hbw.cell (p := ⟨b, o + k * 7 + 3, none⟩) hb).trans (by simpa using hcx 3 _ rfl)
                have c4 := (hbw.cell (p := ⟨b, o + k * 7 + 4, none⟩) hb).trans (by simpa using hcx 4 _ rfl)
                have c5 := (hbw.cell (p := ⟨b, o + k * 7 + 5, none⟩) hb).trans (by simpa using hcx 5 _ rfl)
                have c6 := (hbw.cell (p := ⟨b, o + k * 7 + 6, none⟩) hb).trans (by simpa using hcx 6 _ rfl)
                have HXx := Lib.hid hxx
                clear hxx hcx
                have hx0 := slot_q h2 (slt_get HXx.out) (by have := HNs.out; omega)
                cases b1 : (x.state == 1)
                · have hx1 : ¬ x.state = 1 := by simpa using b1
                  have HP := Lib.hid (all_take (p := fun y => !decide (q ≤ y.queue)) hall.out HXx.out (by rw [decide_eq_false (show ¬ q ≤ x.queue by omega)]; rfl))
                  go_wp2
                  go_roundw
                  case rel => exact ⟨k + 1, by omega, by go_num, by first | exact hbi | go_grown, HP⟩
                  case measure => simp [intOf]; omega
                · by_cases hq : q ≤ x.queue
                  · have HP := Lib.hid (show steerB rs l key tb q = false from steer_badS HXx.out (by omega))
                    go_wp2
                    go_ret
                    exact ⟨ret_bool HP.out.symm, by first | exact hbw | go_grown⟩
                  · have HP := Lib.hid (all_take (p := fun y => !decide (q ≤ y.queue)) hall.out HXx.out (by rw [decide_eq_false (show ¬ q ≤ x.queue by omega)]; rfl))
                    go_wp2
                    go_roundw
                    case rel => exact ⟨k + 1, by omega, by go_num, by first | exact hbi | go_grown, HP⟩
                    case measure => simp [intOf]; omega
              · have hkn : k = ns := by omega
                have hp := hall.out
                rw [take_all HNs.out hlt] at hp
                have HP := Lib.hid (show steerB rs l key tb q = true by rw [steerB, h1, h2, h3, HA.out, hp]; rfl)
                clear hp
                go_wp2
                go_ret
                exact ⟨ret_bool HP.out.symm, hbw⟩
set_option maxRecDepth 100000 in
set_option maxHeartbeats 8000000 in
theorem specSteeringOk_c (Ar : Option Addr) (nr cr : Nat) (rs : List Rule) (As : Option Addr) (ns cs : Nat) (l : List Slot) (key : ByteArray) (At : Option Addr) (nt ct : Nat) (tb : List Int) (q : Int) (w : World) (hnr : rs.length = nr) (hmr : nr ≤ 1048576) (hrr : Reads w w.heap.size 9 Ar nr (rs.flatMap Rule.cells)) (hns : l.length = ns) (hms : ns ≤ 1048576) (hrs : Reads w w.heap.size 7 As ns (l.flatMap Slot.cells)) (hnt : tb.length = nt) (hmt : nt ≤ 1048576) (hrt : Reads w w.heap.size 1 At nt (tb.flatMap fun x : Int => [Value.int .i64 x])) :
    Calls Try.prog 32 #[.agg #[.slice Ar nr cr, .slice As ns cs, .string key, .slice At nt ct], .int .i64 q] w fun e w' => e = .returned (.bool (steerB rs l key tb q)) ∧ Below w.heap.size w w' := by
  have hR := fun (u : World) (hu : Reads u u.heap.size 9 Ar nr (rs.flatMap Rule.cells)) => specRulesOk_c Ar nr cr rs u hnr hmr hu
  have hT := fun (u : World) (hu : Reads u u.heap.size 7 As ns (l.flatMap Slot.cells)) => specTableOk_c As ns cs l u hns hms hu
  have hS := fun (u : World) (hu : Reads u u.heap.size 1 At nt (tb.flatMap fun x : Int => [Value.int .i64 x])) => specSpreadOk_c key At nt ct tb q u hnt hmt hu
  have HNr := Lib.hid hnr
  have HNs := Lib.hid hns
  clear hnr hns
  cases h1 : rulesB rs
  · simp only [h1] at hR
    rw [show steerB rs l key tb q = false by simp [steerB, h1]]
    go_enter Try.func32, Try.ntmps32
    go_wp2_with fail
    have k0 : Below w.heap.size w (w.alloc (.cells #[.slice Ar nr cr, .slice As ns cs, .string key, .slice At nt ct] 32)) := by go_grown
    have bl0 : w.heap.size < (w.alloc (.cells #[.slice Ar nr cr, .slice As ns cs, .string key, .slice At nt ct] 32)).heap.size := by go_size
    have hk0 : Blk (w.alloc (.cells #[.slice Ar nr cr, .slice As ns cs, .string key, .slice At nt ct] 32)) (w.heap.size) 32 [.slice Ar nr cr, .slice As ns cs, .string key, .slice At nt ct] := by simpa using Blk.new w 32 [.slice Ar nr cr, .slice As ns cs, .string key, .slice At nt ct]
    have p0 := k0.size
    generalize hW0 : (w.alloc (.cells #[.slice Ar nr cr, .slice As ns cs, .string key, .slice At nt ct] 32)) = w0 at *
    clear hW0
    refine (hR _ ((hrr.below k0).more k0.size)).mono ?_
    rintro e w1 ⟨rfl, hb⟩
    have k1 : Below w.heap.size w w1 := ext_step k0 (by omega) hb
    have p1 := hb.size
    replace hk0 := hk0.ext hb
    have bl0 := Nat.lt_of_lt_of_le bl0 hb.size
    clear hb
    go_wp2
    go_ret
    exact ⟨rfl, k1⟩
  · simp only [h1] at hR
    cases h2 : tableB l
    · simp only [h2] at hT
      rw [show steerB rs l key tb q = false by simp [steerB, h2]]
      go_enter Try.func32, Try.ntmps32
      go_wp2_with fail
      have k0 : Below w.heap.size w (w.alloc (.cells #[.slice Ar nr cr, .slice As ns cs, .string key, .slice At nt ct] 32)) := by go_grown
      have bl0 : w.heap.size < (w.alloc (.cells #[.slice Ar nr cr, .slice As ns cs, .string key, .slice At nt ct] 32)).heap.size := by go_size
      have hk0 : Blk (w.alloc (.cells #[.slice Ar nr cr, .slice As ns cs, .string key, .slice At nt ct] 32)) (w.heap.size) 32 [.slice Ar nr cr, .slice As ns cs, .string key, .slice At nt ct] := by simpa using Blk.new w 32 [.slice Ar nr cr, .slice As ns cs, .string key, .slice At nt ct]
      have p0 := k0.size
      generalize hW0 : (w.alloc (.cells #[.slice Ar nr cr, .slice As ns cs, .string key, .slice At nt ct] 32)) = w0 at *
      clear hW0
      refine (hR _ ((hrr.below k0).more k0.size)).mono ?_
      rintro e w1 ⟨rfl, hb⟩
      have k1 : Below w.heap.size w w1 := ext_step k0 (by omega) hb
      have p1 := hb.size
      replace hk0 := hk0.ext hb
      have bl0 := Nat.lt_of_lt_of_le bl0 hb.size
      clear hb
      have bx0_1 := hk0.at_ 1 _ rfl
      go_wp2_with fail
      refine (hT _ ((hrs.below k1).more k1.size)).mono ?_
      rintro e w2 ⟨rfl, hb⟩
      have k2 : Below w.heap.size w w2 := ext_step k1 (by omega) hb
      have p2 := hb.size
      replace hk0 := hk0.ext hb
      clear bx0_1
      have bl0 := Nat.lt_of_lt_of_le bl0 hb.size
      clear hb
      go_wp2
      go_ret
      exact ⟨rfl, k2⟩
    · simp only [h2] at hT
      cases h3 : spreadB key tb q
      · simp only [h3] at hS
        rw [show steerB rs l key tb q = false by simp [steerB, h3]]
        go_enter Try.func32, Try.ntmps32
        go_wp2_with fail
        have k0 : Below w.heap.size w (w.alloc (.cells #[.slice Ar nr cr, .slice As ns cs, .string key, .slice At nt ct] 32)) := by go_grown
        have bl0 : w.heap.size < (w.alloc (.cells #[.slice Ar nr cr, .slice As ns cs, .string key, .slice At nt ct] 32)).heap.size := by go_size
        have hk0 : Blk (w.alloc (.cells #[.slice Ar nr cr, .slice As ns cs, .string key, .slice At nt ct] 32)) (w.heap.size) 32 [.slice Ar nr cr, .slice As ns cs, .string key, .slice At nt ct] := by simpa using Blk.new w 32 [.slice Ar nr cr, .slice As ns cs, .string key, .slice At nt ct]
        have p0 := k0.size
        generalize hW0 : (w.alloc (.cells #[.slice Ar nr cr, .slice As ns cs, .string key, .slice At nt ct] 32)) = w0 at *
        clear hW0
        refine (hR _ ((hrr.below k0).more k0.size)).mono ?_
        rintro e w1 ⟨rfl, hb⟩
        have k1 : Below w.heap.size w w1 := ext_step k0 (by omega) hb
        have p1 := hb.size
        replace hk0 := hk0.ext hb
        have bl0 := Nat.lt_of_lt_of_le bl0 hb.size
        clear hb
        have bx0_1 := hk0.at_ 1 _ rfl
        go_wp2_with fail
        refine (hT _ ((hrs.below k1).more k1.size)).mono ?_
        rintro e w2 ⟨rfl, hb⟩
        have k2 : Below w.heap.size w w2 := ext_step k1 (by omega) hb
        have p2 := hb.size
        replace hk0 := hk0.ext hb
        clear bx0_1
        have bl0 := Nat.lt_of_lt_of_le bl0 hb.size
        clear hb
        have bx0_2 := hk0.at_ 2 _ rfl
        have bx0_3 := hk0.at_ 3 _ rfl
        go_wp2_with fail
        refine (hS _ ((hrt.below k2).more k2.size)).mono ?_
        rintro e w3 ⟨rfl, hb⟩
        have k3 : Below w.heap.size w w3 := ext_step k2 (by omega) hb
        have p3 := hb.size
        replace hk0 := hk0.ext hb
        clear bx0_2 bx0_3
        have bl0 := Nat.lt_of_lt_of_le bl0 hb.size
        clear hb
        go_wp2
        go_ret
        exact ⟨rfl, k3⟩
      · simp only [h3] at hS
        have hq1 := inB_t (spread_t h3).1
        go_enter Try.func32, Try.ntmps32
        go_wp2_with fail
        have k0 : Below w.heap.size w (w.alloc (.cells #[.slice Ar nr cr, .slice As ns cs, .string key, .slice At nt ct] 32)) := by go_grown
        have bl0 : w.heap.size < (w.alloc (.cells #[.slice Ar nr cr, .slice As ns cs, .string key, .slice At nt ct] 32)).heap.size := by go_size
        have hk0 : Blk (w.alloc (.cells #[.slice Ar nr cr, .slice As ns cs, .string key, .slice At nt ct] 32)) (w.heap.size) 32 [.slice Ar nr cr, .slice As ns cs, .string key, .slice At nt ct] := by simpa using Blk.new w 32 [.slice Ar nr cr, .slice As ns cs, .string key, .slice At nt ct]
        have p0 := k0.size
        generalize hW0 : (w.alloc (.cells #[.slice Ar nr cr, .slice As ns cs, .string key, .slice At nt ct] 32)) = w0 at *
        clear hW0
        refine (hR _ ((hrr.below k0).more k0.size)).mono ?_
        rintro e w1 ⟨rfl, hb⟩
        have k1 : Below w.heap.size w w1 := ext_step k0 (by omega) hb
        have p1 := hb.size
        replace hk0 := hk0.ext hb
        have bl0 := Nat.lt_of_lt_of_le bl0 hb.size
        clear hb
        have bx0_1 := hk0.at_ 1 _ rfl
        go_wp2_with fail
        refine (hT _ ((hrs.below k1).more k1.size)).mono ?_
        rintro e w2 ⟨rfl, hb⟩
        have k2 : Below w.heap.size w w2 := ext_step k1 (by omega) hb
        have p2 := hb.size
        replace hk0 := hk0.ext hb
        clear bx0_1
        have bl0 := Nat.lt_of_lt_of_le bl0 hb.size
        clear hb
        have bx0_2 := hk0.at_ 2 _ rfl
        have bx0_3 := hk0.at_ 3 _ rfl
        go_wp2_with fail
        refine (hS _ ((hrt.below k2).more k2.size)).mono ?_
        rintro e w3 ⟨rfl, hb⟩
        have k3 : Below w.heap.size w w3 := ext_step k2 (by omega) hb
        have p3 := hb.size
        replace hk0 := hk0.ext hb
        clear bx0_2 bx0_3
        have bl0 := Nat.lt_of_lt_of_le bl0 hb.size
        clear hb
        have bx0_0 := hk0.at_ 0 _ rfl
        have bx0_1 := hk0.at_ 1 _ rfl
        have bx0_2 := hk0.at_ 2 _ rfl
        have bx0_3 := hk0.at_ 3 _ rfl
        go_wp2
        go_loopw [5] (fun i wr => ∃ k : Nat, k ≤ nr ∧ i = .int .i64 k ∧ Below w3.heap.size w3 wr ∧ Hid ((rs.take k).all (fun y => !decide (q ≤ y.queue)) = true)) (fun i _ => nr - (intOf i).toNat)
        case atStart => exact ⟨0, Nat.zero_le _, rfl, Below.refl _ _, rfl⟩
        case round =>
          obtain ⟨k, hk, rfl, hbi, hall⟩ := hrel
          have hbw : Below w.heap.size w wr := ext_step k3 k3.size hbi
          have hsz := hbw.size
          have hsi := hbi.size
          have hkb := hk0.ext hbi
          have hkl := hkb.lt
          have t0 := hkb.at_ 0 _ rfl
          have t1 := hkb.at_ 1 _ rfl
          by_cases hlt : k < nr
          · obtain ⟨b, o, x, rfl, hb, hxx, hcx⟩ := hrr.el (fun _ => rfl) (by decide) HNr.out hlt
            have c0 := (hbw.cell (p := ⟨b, o + k * 9, none⟩) hb).trans (by simpa using hcx 0 _ rfl)
            have c1 := (hbw.cell (p := ⟨b, o + k * 9 + 1, none⟩) hb).trans (by simpa using hcx 1 _ rfl)
            have c2 := (hbw.cell (p := ⟨b, o + k * 9 + 2, none⟩) hb).trans (by simpa using hcx 2 _ rfl)
            have c3 := (hbw.cell (p := ⟨b, o + k * 9 + 3, none⟩) hb).trans (by simpa using hcx 3 _ rfl)
            have c4 := (hbw.cell (p := ⟨b, o + k * 9 + 4, none⟩) hb).trans (by simpa using hcx 4 _ rfl)
            have c5 := (hbw.cell (p := ⟨b, o + k * 9 + 5, none⟩) hb).trans (by simpa using hcx 5 _ rfl)
            have c6 := (hbw.cell (p := ⟨b, o + k * 9 + 6, none⟩) hb).trans (by simpa using hcx 6 _ rfl)
            have c7 := (hbw.cell (p := ⟨b, o + k * 9 + 7, none⟩) hb).trans (by simpa using hcx 7 _ rfl)
            have c8 := (hbw.cell (p := ⟨b, o + k * 9 + 8, none⟩) hb).trans (by simpa using hcx 8 _ rfl)
            have HXx := Lib.hid hxx
            clear hxx hcx
            by_cases hq : q ≤ x.queue
            · have HP := Lib.hid (show steerB rs l key tb q = false from steer_badR HXx.out (by omega))
              go_wp2
              go_ret
              exact ⟨ret_bool HP.out.symm, by first | exact hbw | go_grown⟩
            · have HP := Lib.hid (all_take (p := fun y => !decide (q ≤ y.queue)) hall.out HXx.out (by rw [decide_eq_false (show ¬ q ≤ x.queue by omega)]; rfl))
              go_wp2
              go_roundw
              case rel => exact ⟨k + 1, by omega, by go_num, by first | exact hbi | go_grown, HP⟩
              case measure => simp [intOf]; omega
          · have hkn : k = nr := by omega
            have hp := hall.out
            rw [take_all HNr.out hlt] at hp
            have HA := Lib.hid hp
            clear hp hall
            have hb9 := hbi
            go_wp2
            obtain ⟨wq, hwq⟩ : ∃ W, W = wr := ⟨_, rfl⟩
            go_loopw [6] (fun i wr => ∃ k : Nat, k ≤ ns ∧ i = .int .i64 k ∧ Below w3.heap.size w3 wr ∧ Hid ((l.take k).all (fun y => !decide (q ≤ y.queue)) = true)) (fun i _ => ns - (intOf i).toNat)
            case atStart => exact ⟨0, Nat.zero_le _, rfl, hb9, rfl⟩
            case round =>
              obtain ⟨k, hk, rfl, hbi, hall⟩ := hrel
              have hbw : Below w.heap.size w wr := ext_step k3 k3.size hbi
              have hsz := hbw.size
              have hsi := hbi.size
              have hkb := hk0.ext hbi
              have hkl := hkb.lt
              have t0 := hkb.at_ 0 _ rfl
              have t1 := hkb.at_ 1 _ rfl
              by_cases hlt : k < ns
              · obtain ⟨b, o, x, rfl, hb, hxx, hcx⟩ := hrs.el (fun _ => rfl) (by decide) HNs.out hlt
                have c0 := (hbw.cell (p := ⟨b, o + k * 7, none⟩) hb).trans (by simpa using hcx 0 _ rfl)
                have c1 := (hbw.cell (p := ⟨b, o + k * 7 + 1, none⟩) hb).trans (by simpa using hcx 1 _ rfl)
                have c2 := (hbw.cell (p := ⟨b, o + k * 7 + 2, none⟩) hb).trans (by simpa using hcx 2 _ rfl)
                have c3 := (hbw.cell (p := ⟨b, o + k * 7 + 3, none⟩) hb).trans (by simpa using hcx 3 _ rfl)
                have c4 := (hbw.cell (p := ⟨b, o + k * 7 + 4, none⟩) hb).trans (by simpa using hcx 4 _ rfl)
                have c5 := (hbw.cell (p := ⟨b, o + k * 7 + 5, none⟩) hb).trans (by simpa using hcx 5 _ rfl)
                have c6 := (hbw.cell (p := ⟨b, o + k * 7 + 6, none⟩) hb).trans (by simpa using hcx 6 _ rfl)
                have HXx := Lib.hid hxx
                clear hxx hcx
                by_cases hq : q ≤ x.queue
                · have HP := Lib.hid (show steerB rs l key tb q = false from steer_badS HXx.out (by omega))
                  go_wp2
                  go_ret
                  exact ⟨ret_bool HP.out.symm, by first | exact hbw | go_grown⟩
                · have HP := Lib.hid (all_take (p := fun y => !decide (q ≤ y.queue)) hall.out HXx.out (by rw [decide_eq_false (show ¬ q ≤ x.queue by omega)]; rfl))
                  go_wp2
                  go_roundw
                  case rel => exact ⟨k + 1, by omega, by go_num, by first | exact hbi | go_grown, HP⟩
                  case measure => simp [intOf]; omega
              · have hkn : k = ns := by omega
                have hp := hall.out
                rw [take_all HNs.out hlt] at hp
                have HP := Lib.hid (show steerB rs l key tb q = true by rw [steerB, h1, h2, h3, HA.out, hp]; rfl)
                clear hp
                go_wp2
                go_ret
                exact ⟨ret_bool HP.out.symm, hbw⟩
end Go.Proofs.Ytkfekgmdjemkbaa
