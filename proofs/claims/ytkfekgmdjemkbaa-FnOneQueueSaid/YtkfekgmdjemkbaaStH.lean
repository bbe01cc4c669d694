/- Contracts on flow tables: TableOk, FindFlow: impl and spec. -/
import Derived.Test.YtkfekgmdjemkbaaStG
import Derived.Deep.DeepCutAuto
namespace Go.Proofs.Ytkfekgmdjemkbaa
set_option linter.unusedSimpArgs false
set_option linter.unusedVariables false
open Go.RowKit Go.ChangeShapes Go.WideShapes
def tabJ (l : List Slot) : Bool := decide (l.length = 8) && slotsR slotJ l 8
theorem tabJ_same {l : List Slot} (h : l.length = 8) : tabJ l = tableB l := by rw [tabJ, tableB, slots_same h]
theorem tab_bad {q : List Slot → Nat → Bool} {l : List Slot} {k : Nat} (hk : k < 8) (h : q l k = false) : (decide (l.length = 8) && slotsR q l 8) = false := by
  rw [slotsR_bad h hk, Bool.and_false]
theorem tab_all {q : List Slot → Nat → Bool} {l : List Slot} (h8 : l.length = 8) (h : slotsR q l 8 = true) : (decide (l.length = 8) && slotsR q l 8) = true := by
  rw [h, decide_eq_true h8]; rfl
theorem slot0_z {x : Slot} (h1 : inB x.state 0 2 = true) (h2 : inB x.queue 0 3 = true) (h : ¬ x.state = 1) (z : x.flow_kind = 0 ∧ x.flow_sip = 0 ∧ x.flow_dip = 0 ∧ x.flow_sport = 0 ∧ x.flow_dport = 0 ∧ x.queue = 0) : slot0 x = true := by
  have hf : x.flow = zeroF := (flow_iff x.flow zeroF).1 ⟨z.1, z.2.1, z.2.2.1, z.2.2.2.1, z.2.2.2.2.1⟩
  rw [slot0, h1, h2, decide_eq_true hf, decide_eq_true z.2.2.2.2.2]
  cases decide (x.state = 1) <;> rfl
theorem slot0_nz {x : Slot} (h : ¬ x.state = 1) (z : ¬ (x.flow_kind = 0 ∧ x.flow_sip = 0 ∧ x.flow_dip = 0 ∧ x.flow_sport = 0 ∧ x.flow_dport = 0 ∧ x.queue = 0)) : slot0 x = false := by
  cases e : slot0 x
  · rfl
  · simp only [slot0, Bool.and_eq_true, Bool.or_eq_true, decide_eq_true_eq] at e
    obtain ⟨_, h3 | ⟨h3, h4⟩⟩ := e
    · exact absurd h3 h
    · have hf := (flow_iff x.flow zeroF).2 h3
      exact absurd ⟨hf.1, hf.2.1, hf.2.2.1, hf.2.2.2.1, hf.2.2.2.2, h4⟩ z
theorem slot0_u {x : Slot} (h1 : inB x.state 0 2 = true) (h2 : inB x.queue 0 3 = true) (h : x.state = 1) : slot0 x = true := by rw [slot0, h1, h2, decide_eq_true h]; rfl
theorem clean_at {l : List Slot} {f : Flow} {i j : Nat} (h : cleanG l f i (8 - j) j = cleanB l f i) (hj : j < 8) :
    (way f j = i → cleanB l f i = true) ∧ (¬ way f j = i → (slt l (way f j)).state = 0 → cleanB l f i = false) ∧ (¬ way f j = i → ¬ (slt l (way f j)).state = 0 → cleanG l f i (8 - (j + 1)) (j + 1) = cleanB l f i) := by
  have e : cleanG l f i (8 - j) j = (if way f j = i then true else if (slt l (way f j)).state = 0 then false else cleanG l f i (8 - (j + 1)) (j + 1)) := by
    rw [show 8 - j = (7 - j) + 1 by omega, cleanG, show 8 - (j + 1) = 7 - j by omega]
  rw [e] at h
  refine ⟨fun h1 => by rw [← h, if_pos h1], fun h1 h2 => by rw [← h, if_neg h1, if_pos h2], fun h1 h2 => by rw [← h, if_neg h1, if_neg h2]⟩
/-- The slot of a flow; -1: none, or a table that is not valid. -/
def flowI (l : List Slot) (f : Flow) : Int := if tableB l then soI l f else -1
set_option maxRecDepth 100000 in
set_option maxHeartbeats 8000000 in
theorem implTableOk0_c (A : Option Addr) (n c : Nat) (l : List Slot) (w : World) (hn : l.length = n) (hm : n ≤ 1048576) (hr : Reads w w.heap.size 7 A n (l.flatMap Slot.cells)) (h8 : n = 8) :
    Calls Try.prog 25 #[.agg #[.slice A n c]] w fun e w' => e = .returned (.bool (tabJ l)) ∧ Below w.heap.size w w' := by
  have HN := Lib.hid hn
  clear hn
  have h8i : (n : Int) = 8 := by omega
  subst h8
  go_enter Try.func25, Try.ntmps25
  go_wp2
  go_loopw [14] (fun i wr => ∃ k : Nat, k ≤ 8 ∧ i = .int .i64 k ∧ Below w.heap.size w wr ∧ Blk wr w.heap.size 27 [.slice A (8 : Nat) c] ∧ Hid (slotsR slotJ l k = true)) (fun i _ => 8 - (intOf i).toNat)
  case atStart => exact ⟨0, by decide, rfl, by go_grown, Blk.new _ _ _, rfl⟩
  case round =>
    obtain ⟨k, hk, rfl, hbw, hkt, hall⟩ := hrel
    have hsz := hbw.size
    have htl := hkt.lt
    have t0 := hkt.at_ 0 _ rfl
    by_cases hlt : k < 8
    · have hr0 := hr
      obtain ⟨b, o, x, rfl, hb, hxx, hcx⟩ := hr.el (fun _ => rfl) (by decide) HN.out hlt
      have c0 := (hbw.cell (p := ⟨b, o + k * 7, none⟩) hb).trans (by simpa using hcx 0 _ rfl)
      have c1 := (hbw.cell (p := ⟨b, o + k * 7 + 1, none⟩) hb).trans (by simpa using hcx 1 _ rfl)
      have c2 := (hbw.cell (p := ⟨b, o + k * 7 + 2, none⟩) hb).trans (by simpa using hcx 2 _ rfl)
      have c3 := (hbw.cell (p := ⟨b, o + k * 7 + 3, none⟩) hb).trans (by simpa using hcx 3 _ rfl)
      have c4 := (hbw.cell (p := ⟨b, o + k * 7 + 4, none⟩) hb).trans (by simpa using hcx 4 _ rfl)
      have c5 := (hbw.cell (p := ⟨b, o + k * 7 + 5, none⟩) hb).trans (by simpa using hcx 5 _ rfl)
      have c6 := (hbw.cell (p := ⟨b, o + k * 7 + 6, none⟩) hb).trans (by simpa using hcx 6 _ rfl)
      have HXx := Lib.hid hxx
      clear hxx hcx
      have HX := Lib.hid (slt_get HXx.out)
      cases e1 : inB x.state 0 2
      · have HP := Lib.hid (show tabJ l = false from tab_bad (q := slotJ) hlt (by rw [slotJ, HX.out]; simp [slot0, e1]))
        go_wp2_with (go_at_call 28; refine (calls_bool (between_c _ _ _ _) (by assumption)).mono ?_; rintro e w1 ⟨rfl, rfl⟩)
        go_ret
        exact ⟨ret_bool HP.out.symm, by go_grown⟩
      · cases e2 : inB x.queue 0 3
        · have HP := Lib.hid (show tabJ l = false from tab_bad (q := slotJ) hlt (by rw [slotJ, HX.out]; simp [slot0, e2]))
          go_wp2_with (go_at_call 28; refine (calls_bool (between_c _ _ _ _) (by assumption)).mono ?_; rintro e w1 ⟨rfl, rfl⟩)
          go_ret
          exact ⟨ret_bool HP.out.symm, by go_grown⟩
        · cases b1 : (x.state == 1)
          · have hs1 : ¬ x.state = 1 := by simpa using b1
            by_cases z : x.flow_kind = 0 ∧ x.flow_sip = 0 ∧ x.flow_dip = 0 ∧ x.flow_sport = 0 ∧ x.flow_dport = 0 ∧ x.queue = 0
            · have HP := Lib.hid (show slotsR slotJ l (k + 1) = true by rw [slotsR_next, hall.out, slotJ, HX.out, slot0_z e1 e2 hs1 z]; simp [hs1])
              have HZ := Lib.hid z
              clear z
              go_upto_region 9 with (go_at_call 28; refine (calls_bool (between_c _ _ _ _) (by assumption)).mono ?_; rintro e w1 ⟨rfl, rfl⟩)
              obtain ⟨z1, z2, z3, z4, z5, z6⟩ := HZ.out
              go_wp2
              go_roundw
              case rel => exact ⟨k + 1, by omega, by go_num, by go_grown, hkt.alloc _, HP⟩
              case measure => simp [intOf]; omega
            · have HP := Lib.hid (show tabJ l = false from tab_bad (q := slotJ) hlt (by rw [slotJ, HX.out, slot0_nz hs1 z]; rfl))
              have HZ := Lib.hid z
              clear z
              go_upto_region 9 with (go_at_call 28; refine (calls_bool (between_c _ _ _ _) (by assumption)).mono ?_; rintro e w1 ⟨rfl, rfl⟩)
              go_wp2
              all_goals first
                | (go_ret
                   exact ⟨ret_bool HP.out.symm, by go_grown⟩)
                | exact absurd (by (try simp only [bne_eq_false_iff_eq] at *); omega) HZ.out
          · have he1 : x.state = 1 := by simpa using b1
            have b2 : (x.state != 1) = false := by simp [he1]
            have HE1 := Lib.hid he1
            clear he1
            have hso := fun (u : World) (hu : Reads u u.heap.size 7 (some ⟨b, o, none⟩) 8 (l.flatMap Slot.cells)) => (show Calls Try.prog 49 #[.agg #[.slice (some ⟨b, o, none⟩) (8 : Nat) c], .agg #[.int .i64 x.flow_kind, .int .i64 x.flow_sip, .int .i64 x.flow_dip, .int .i64 x.flow_sport, .int .i64 x.flow_dport]] u fun e w' => e = .returned (.int .i64 (soI l x.flow)) ∧ Below u.heap.size u w' from slotOf_c _ 8 c l x.flow u HN.out hm hu)
            have hwo := fun (u : World) => (show Calls Try.prog 52 #[.agg #[.int .i64 x.flow_kind, .int .i64 x.flow_sip, .int .i64 x.flow_dip, .int .i64 x.flow_sport, .int .i64 x.flow_dport]] u fun e w' => ∃ A c, e = .returned (.slice A (8 : Nat) c) ∧ w'.ownsRow u.heap.size 3 1 (.slice A (8 : Nat) c) 8 ((wayL x.flow 8).flatMap (fun x : Int => [Value.int .i64 x])) ∧ Below u.heap.size u w' from wayOf_c x.flow u)
            by_cases e3 : soI l x.flow = (k : Int)
            · simp only [e3] at hso
              go_upto_region 11 with (go_at_call 28; refine (calls_bool (between_c _ _ _ _) (by assumption)).mono ?_; rintro e w1 ⟨rfl, rfl⟩)
              obtain ⟨W1, hW0⟩ : ∃ W, W = wr.alloc (.cells #[.int .i64 x.state, .int .i64 x.flow_kind, .int .i64 x.flow_sip, .int .i64 x.flow_dip, .int .i64 x.flow_sport, .int .i64 x.flow_dport, .int .i64 x.queue] 61) := ⟨_, rfl⟩
              have hbW : Below wr.heap.size wr W1 := by rw [hW0]; go_grown
              have hks : Blk W1 wr.heap.size 61 [.int .i64 x.state, .int .i64 x.flow_kind, .int .i64 x.flow_sip, .int .i64 x.flow_dip, .int .i64 x.flow_sport, .int .i64 x.flow_dport, .int .i64 x.queue] := by rw [hW0]; exact Blk.new _ _ _
              rw [← hW0]
              clear hW0
              have hk1 : Below w.heap.size w W1 := ext_step hbw hbw.size hbW
              have hkt1 := hkt.ext hbW
              have hsl := hks.lt
              have htl1 := hkt1.lt
              clear hbW
              have t0 := hkt1.at_ 0 _ rfl
              have s0 := hks.at_ 0 _ rfl
              have s1 := hks.at_ 1 _ rfl
              have s2 := hks.at_ 2 _ rfl
              have s3 := hks.at_ 3 _ rfl
              have s4 := hks.at_ 4 _ rfl
              have s5 := hks.at_ 5 _ rfl
              have s6 := hks.at_ 6 _ rfl
              go_wp2_with fail
              refine (hso _ ((hr0.below hk1).more hk1.size)).mono ?_
              rintro e w2 ⟨rfl, hbW⟩
              have hk2 : Below w.heap.size w w2 := ext_step hk1 hk1.size hbW
              have hkt2 := hkt1.ext hbW
              have hks2 := hks.ext hbW
              have hsl2 := hks2.lt
              have htl2 := hkt2.lt
              clear hbW t0 s0 s1 s2 s3 s4 s5 s6
              have s0 := hks2.at_ 0 _ rfl
              have s1 := hks2.at_ 1 _ rfl
              have s2 := hks2.at_ 2 _ rfl
              have s3 := hks2.at_ 3 _ rfl
              have s4 := hks2.at_ 4 _ rfl
              have s5 := hks2.at_ 5 _ rfl
              have s6 := hks2.at_ 6 _ rfl
              have t0 := hkt2.at_ 0 _ rfl
              go_wp2_with fail
              refine (hwo _).mono ?_
              rintro e w3 ⟨Aw, cw, rfl, hown, hbW⟩
              have hk3 : Below w.heap.size w w3 := ext_step hk2 hk2.size hbW
              have hkt3 := hkt2.ext hbW
              have hrw := Reads.of_own hown
              have t1 := hkt3.at_ 0 _ rfl
              have htl3 := hkt3.lt
              clear hbW t0
              go_wp2
              go_loopw [51] (fun i wi => ∃ j : Nat, j ≤ 8 ∧ i = .int .i64 j ∧ wi = w3 ∧ Hid (cleanG l x.flow k (8 - j) j = cleanB l x.flow k)) (fun i _ => 8 - (intOf i).toNat)
              case atStart => exact ⟨0, by decide, rfl, rfl, rfl⟩
              case round =>
                obtain ⟨j, hj, rfl, rfl, hcl⟩ := hrel
                by_cases hj8 : j < 8
                · obtain ⟨b', o', y', hAw, hb', hy', hc'⟩ := hrw.el (cells := (fun x : Int => [Value.int .i64 x])) (fun _ => rfl) (by decide) (by simp [wayL]) hj8
                  obtain rfl : ((way x.flow j : Nat) : Int) = y' := by have h9 := wayL_get (f := x.flow) hj8; rw [hy'] at h9; injection h9 with h9; exact h9.symm
                  have cw0 : wr.cell? ⟨b', o' + j, none⟩ = some (.int .i64 ((way x.flow j : Nat) : Int)) := by simpa using hc' 0 _ rfl
                  subst hAw
                  clear hc' hy'
                  have hwl := way_lt x.flow j
                  have hwn : way x.flow j < 8 := by omega
                  have hdo := clean_at hcl.out hj8
                  obtain ⟨b2, o2, y, hA2, hb2, hxy, hcy⟩ := hr0.el (fun _ => rfl) (by decide) HN.out hwn
                  injection hA2 with hA2
                  injection hA2 with hA3 hA4
                  subst hA3
                  subst hA4
                  have d0 := (hk3.cell (p := ⟨b, o + way x.flow j * 7, none⟩) hb2).trans (by simpa using hcy 0 _ rfl)
                  have HY := Lib.hid (slt_get hxy)
                  clear hcy hxy
                  generalize way x.flow j = K at *
                  by_cases hKk : (K : Int) = (k : Int)
                  · have HP := Lib.hid (show slotsR slotJ l (k + 1) = true by rw [slotsR_next, hall.out, slotJ, HX.out, slot0_u e1 e2 HE1.out, e3, hdo.1 (by omega)]; simp)
                    go_wp2
                    go_roundw
                    case rel => exact ⟨k + 1, by omega, by go_num, hk3, hkt3, HP⟩
                    case measure => simp [intOf]; omega
                  · have bKk : ((K : Int) == (k : Int)) = false := by simpa using hKk
                    by_cases hy0 : y.state = 0
                    · have HP := Lib.hid (show tabJ l = false from tab_bad (q := slotJ) hlt (by rw [slotJ, HX.out, e3, hdo.2.1 (by omega) (by rw [HY.out]; exact hy0)]; simp [HE1.out]))
                      go_wp2
                      go_ret
                      exact ⟨ret_bool HP.out.symm, hk3⟩
                    · have by0 : (y.state == 0) = false := by simpa using hy0
                      have HP := Lib.hid (hdo.2.2 (by omega) (by rw [HY.out]; exact hy0))
                      go_wp2
                      go_roundw
                      case rel => exact ⟨j + 1, by omega, by go_num, by first | rfl | trivial, HP⟩
                      case measure => simp [intOf]; omega
                · obtain rfl : j = 8 := by omega
                  have HP := Lib.hid (show slotsR slotJ l (k + 1) = true by rw [slotsR_next, hall.out, slotJ, HX.out, slot0_u e1 e2 HE1.out, e3, ← hcl.out]; simp [cleanG])
                  go_wp2
                  go_roundw
                  case rel => exact ⟨k + 1, by omega, by go_num, hk3, hkt3, HP⟩
                  case measure => simp [intOf]; omega
            · have HP := Lib.hid (show tabJ l = false from tab_bad (q := slotJ) hlt (by rw [slotJ, HX.out, decide_eq_false e3]; simp [HE1.out]))
              obtain ⟨S, e_S⟩ : ∃ S, soI l x.flow = S := ⟨_, rfl⟩
              simp only [e_S] at hso e3
              clear e_S
              have b3 : (S == (k : Int)) = false := by simpa using e3
              go_upto_region 11 with (go_at_call 28; refine (calls_bool (between_c _ _ _ _) (by assumption)).mono ?_; rintro e w1 ⟨rfl, rfl⟩)
              obtain ⟨W1, hW0⟩ : ∃ W, W = wr.alloc (.cells #[.int .i64 x.state, .int .i64 x.flow_kind, .int .i64 x.flow_sip, .int .i64 x.flow_dip, .int .i64 x.flow_sport, .int .i64 x.flow_dport, .int .i64 x.queue] 61) := ⟨_, rfl⟩
              have hbW : Below wr.heap.size wr W1 := by rw [hW0]; go_grown
              have hks : Blk W1 wr.heap.size 61 [.int .i64 x.state, .int .i64 x.flow_kind, .int .i64 x.flow_sip, .int .i64 x.flow_dip, .int .i64 x.flow_sport, .int .i64 x.flow_dport, .int .i64 x.queue] := by rw [hW0]; exact Blk.new _ _ _
              rw [← hW0]
              clear hW0
              have hk1 : Below w.heap.size w W1 := ext_step hbw hbw.size hbW
              have hkt1 := hkt.ext hbW
              have hsl := hks.lt
              have htl1 := hkt1.lt
              clear hbW
              have t0 := hkt1.at_ 0 _ rfl
              have s0 := hks.at_ 0 _ rfl
              have s1 := hks.at_ 1 _ rfl
              have s2 := hks.at_ 2 _ rfl
              have s3 := hks.at_ 3 _ rfl
              have s4 := hks.at_ 4 _ rfl
              have s5 := hks.at_ 5 _ rfl
              have s6 := hks.at_ 6 _ rfl
              go_wp2_with fail
              refine (hso _ ((hr0.below hk1).more hk1.size)).mono ?_
              rintro e w2 ⟨rfl, hbW⟩
              have hk2 : Below w.heap.size w w2 := ext_step hk1 hk1.size hbW
              clear hbW
              go_wp2
              go_ret
              exact ⟨ret_bool HP.out.symm, hk2⟩
    · obtain rfl : k = 8 := by omega
      have HP := Lib.hid (show tabJ l = true from tab_all HN.out hall.out)
      go_wp2
      go_ret
      exact ⟨ret_bool HP.out.symm, hbw⟩
set_option maxHeartbeats 1000000 in
theorem implTableOk_c (A : Option Addr) (n c : Nat) (l : List Slot) (w : World) (hn : l.length = n) (hm : n ≤ 1048576) (hr : Reads w w.heap.size 7 A n (l.flatMap Slot.cells)) :
    Calls Try.prog 25 #[.agg #[.slice A n c]] w fun e w' => e = .returned (.bool (tableB l)) ∧ Below w.heap.size w w' := by
  by_cases h8 : n = 8
  · rw [← tabJ_same (hn.trans h8)]; exact implTableOk0_c A n c l w hn hm hr h8
  · have hv : tableB l = false := by rw [tableB, hn, decide_eq_false h8]; rfl
    rw [hv]
    have b8 : ((n : Int) != 8) = true := by simp; omega
    go_enter Try.func25, Try.ntmps25
    go_wp2
    go_ret
    exact ⟨rfl, by go_grown⟩
set_option maxRecDepth 100000 in
set_option maxHeartbeats 8000000 in
theorem specTableOk0_c (A : Option Addr) (n c : Nat) (l : List Slot) (w : World) (hn : l.length = n) (hm : n ≤ 1048576) (hr : Reads w w.heap.size 7 A n (l.flatMap Slot.cells)) (h8 : n = 8) :
    Calls Try.prog 58 #[.agg #[.slice A n c]] w fun e w' => e = .returned (.bool (tableB l)) ∧ Below w.heap.size w w' := by
  have HN := Lib.hid hn
  clear hn
  have h8i : (n : Int) = 8 := by omega
  subst h8
  go_enter Try.func58, Try.ntmps58
  go_wp2
  go_loopw [3] (fun i wr => ∃ k : Nat, k ≤ 8 ∧ i = .int .i64 k ∧ Below w.heap.size w wr ∧ Blk wr w.heap.size 27 [.slice A (8 : Nat) c] ∧ Hid (slotsR slotB l k = true)) (fun i _ => 8 - (intOf i).toNat)
  case atStart => exact ⟨0, by decide, rfl, by go_grown, Blk.new _ _ _, rfl⟩
  case round =>
    obtain ⟨k, hk, rfl, hbw, hkt, hall⟩ := hrel
    have hsz := hbw.size
    have htl := hkt.lt
    have t0 := hkt.at_ 0 _ rfl
    by_cases hlt : k < 8
    · have hr0 := hr
      obtain ⟨b, o, x, rfl, hb, hxx, hcx⟩ := hr.el (fun _ => rfl) (by decide) HN.out hlt
      have c0 := (hbw.cell (p := ⟨b, o + k * 7, none⟩) hb).trans (by simpa using hcx 0 _ rfl)
      have c1 := (hbw.cell (p := ⟨b, o + k * 7 + 1, none⟩) hb).trans (by simpa using hcx 1 _ rfl)
      have c2 := (hbw.cell (p := ⟨b, o + k * 7 + 2, none⟩) hb).trans (by simpa using hcx 2 _ rfl)
      have c3 := (hbw.cell (p := ⟨b, o + k * 7 + 3, none⟩) hb).trans (by simpa using hcx 3 _ rfl)
      have c4 := (hbw.cell (p := ⟨b, o + k * 7 + 4, none⟩) hb).trans (by simpa using hcx 4 _ rfl)
      have c5 := (hbw.cell (p := ⟨b, o + k * 7 + 5, none⟩) hb).trans (by simpa using hcx 5 _ rfl)
      have c6 := (hbw.cell (p := ⟨b, o + k * 7 + 6, none⟩) hb).trans (by simpa using hcx 6 _ rfl)
      have HXx := Lib.hid hxx
      clear hxx hcx
      have HX := Lib.hid (slt_get HXx.out)
      cases e1 : inB x.state 0 2
      · have HP := Lib.hid (show tableB l = false from tab_bad (q := slotB) hlt (by rw [slotB, HX.out]; simp [slot0, e1]))
        go_wp2_with (go_at_call 60; refine (calls_bool (l01In_c _ _ _ _) (by assumption)).mono ?_; rintro e w1 ⟨rfl, rfl⟩)
        go_ret
        exact ⟨ret_bool HP.out.symm, by go_grown⟩
      · cases e2 : inB x.queue 0 3
        · have HP := Lib.hid (show tableB l = false from tab_bad (q := slotB) hlt (by rw [slotB, HX.out]; simp [slot0, e2]))
          go_wp2_with (go_at_call 60; refine (calls_bool (l01In_c _ _ _ _) (by assumption)).mono ?_; rintro e w1 ⟨rfl, rfl⟩)
          go_ret
          exact ⟨ret_bool HP.out.symm, by go_grown⟩
        · cases b1 : (x.state == 1)
          · have hs1 : ¬ x.state = 1 := by simpa using b1
            by_cases z : x.flow_kind = 0 ∧ x.flow_sip = 0 ∧ x.flow_dip = 0 ∧ x.flow_sport = 0 ∧ x.flow_dport = 0 ∧ x.queue = 0
            · have HP := Lib.hid (show slotsR slotB l (k + 1) = true by rw [slotsR_next, hall.out, slotB, HX.out, slot0_z e1 e2 hs1 z]; simp [hs1])
              have HZ := Lib.hid z
              clear z
              go_upto_region 10 with (go_at_call 60; refine (calls_bool (l01In_c _ _ _ _) (by assumption)).mono ?_; rintro e w1 ⟨rfl, rfl⟩)
              obtain ⟨z1, z2, z3, z4, z5, z6⟩ := HZ.out
              go_wp2
              go_roundw
              case rel => exact ⟨k + 1, by omega, by go_num, by go_grown, hkt.alloc _, HP⟩
              case measure => simp [intOf]; omega
            · have HP := Lib.hid (show tableB l = false from tab_bad (q := slotB) hlt (by rw [slotB, HX.out, slot0_nz hs1 z]; rfl))
              have HZ := Lib.hid z
              clear z
              go_upto_region 10 with (go_at_call 60; refine (calls_bool (l01In_c _ _ _ _) (by assumption)).mono ?_; rintro e w1 ⟨rfl, rfl⟩)
              go_wp2
              all_goals first
                | (go_ret
                   exact ⟨ret_bool HP.out.symm, by go_grown⟩)
                | exact absurd (by (try simp only [bne_eq_false_iff_eq] at *); omega) HZ.out
          · have he1 : x.state = 1 := by simpa using b1
            have b2 : (x.state != 1) = false := by simp [he1]
            have HE1 := Lib.hid he1
            clear he1
            have hfo := fun (u : World) (hu : Reads u u.heap.size 7 (some ⟨b, o, none⟩) 8 (l.flatMap Slot.cells)) => (show Calls Try.prog 62 #[.agg #[.slice (some ⟨b, o, none⟩) (8 : Nat) c], .agg #[.int .i64 x.flow_kind, .int .i64 x.flow_sip, .int .i64 x.flow_dip, .int .i64 x.flow_sport, .int .i64 x.flow_dport]] u fun e w' => e = .returned (.int .i64 (fndI l x.flow)) ∧ Below u.heap.size u w' from l13Find_c _ c l x.flow u HN.out hu)
            by_cases e3 : fndI l x.flow = (k : Int)
            · have HP := Lib.hid (show slotsR slotB l (k + 1) = true by rw [slotsR_next, hall.out, slotB, HX.out, slot0_u e1 e2 HE1.out, e3]; simp)
              simp only [e3] at hfo
              go_upto_region 12 with (go_at_call 60; refine (calls_bool (l01In_c _ _ _ _) (by assumption)).mono ?_; rintro e w1 ⟨rfl, rfl⟩)
              obtain ⟨W1, hW0⟩ : ∃ W, W = wr.alloc (.cells #[.int .i64 x.state, .int .i64 x.flow_kind, .int .i64 x.flow_sip, .int .i64 x.flow_dip, .int .i64 x.flow_sport, .int .i64 x.flow_dport, .int .i64 x.queue] 61) := ⟨_, rfl⟩
              have hbW : Below wr.heap.size wr W1 := by rw [hW0]; go_grown
              have hks : Blk W1 wr.heap.size 61 [.int .i64 x.state, .int .i64 x.flow_kind, .int .i64 x.flow_sip, .int .i64 x.flow_dip, .int .i64 x.flow_sport, .int .i64 x.flow_dport, .int .i64 x.queue] := by rw [hW0]; exact Blk.new _ _ _
              rw [← hW0]
              clear hW0
              have hk1 : Below w.heap.size w W1 := ext_step hbw hbw.size hbW
              have hkt1 := hkt.ext hbW
              have hsl := hks.lt
              have htl1 := hkt1.lt
              clear hbW
              have t0 := hkt1.at_ 0 _ rfl
              have s0 := hks.at_ 0 _ rfl
              have s1 := hks.at_ 1 _ rfl
              have s2 := hks.at_ 2 _ rfl
              have s3 := hks.at_ 3 _ rfl
              have s4 := hks.at_ 4 _ rfl
              have s5 := hks.at_ 5 _ rfl
              have s6 := hks.at_ 6 _ rfl
              go_wp2_with fail
              refine (hfo _ ((hr0.below hk1).more hk1.size)).mono ?_
              rintro e w2 ⟨rfl, hbW⟩
              have hk2 : Below w.heap.size w w2 := ext_step hk1 hk1.size hbW
              have hkt2 := hkt1.ext hbW
              clear hbW
              go_wp2
              go_roundw
              case rel => exact ⟨k + 1, by omega, by go_num, hk2, hkt2, HP⟩
              case measure => simp [intOf]; omega
            · have HP := Lib.hid (show tableB l = false from tab_bad (q := slotB) hlt (by rw [slotB, HX.out, decide_eq_false e3]; simp [HE1.out]))
              obtain ⟨S, e_S⟩ : ∃ S, fndI l x.flow = S := ⟨_, rfl⟩
              simp only [e_S] at hfo e3
              clear e_S
              have b3 : (S == (k : Int)) = false := by simpa using e3
              go_upto_region 12 with (go_at_call 60; refine (calls_bool (l01In_c _ _ _ _) (by assumption)).mono ?_; rintro e w1 ⟨rfl, rfl⟩)
              obtain ⟨W1, hW0⟩ : ∃ W, W = wr.alloc (.cells #[.int .i64 x.state, .int .i64 x.flow_kind, .int .i64 x.flow_sip, .int .i64 x.flow_dip, .int .i64 x.flow_sport, .int .i64 x.flow_dport, .int .i64 x.queue] 61) := ⟨_, rfl⟩
              have hbW : Below wr.heap.size wr W1 := by rw [hW0]; go_grown
              have hks : Blk W1 wr.heap.size 61 [.int .i64 x.state, .int .i64 x.flow_kind, .int .i64 x.flow_sip, .int .i64 x.flow_dip, .int .i64 x.flow_sport, .int .i64 x.flow_dport, .int .i64 x.queue] := by rw [hW0]; exact Blk.new _ _ _
              rw [← hW0]
              clear hW0
              have hk1 : Below w.heap.size w W1 := ext_step hbw hbw.size hbW
              have hkt1 := hkt.ext hbW
              have hsl := hks.lt
              have htl1 := hkt1.lt
              clear hbW
              have t0 := hkt1.at_ 0 _ rfl
              have s0 := hks.at_ 0 _ rfl
              have s1 := hks.at_ 1 _ rfl
              have s2 := hks.at_ 2 _ rfl
              have s3 := hks.at_ 3 _ rfl
              have s4 := hks.at_ 4 _ rfl
              have s5 := hks.at_ 5 _ rfl
              have s6 := hks.at_ 6 _ rfl
              go_wp2_with fail
              refine (hfo _ ((hr0.below hk1).more hk1.size)).mono ?_
              rintro e w2 ⟨rfl, hbW⟩
              have hk2 : Below w.heap.size w w2 := ext_step hk1 hk1.size hbW
              clear hbW
              go_wp2
              go_ret
              exact ⟨ret_bool HP.out.symm, hk2⟩
    · obtain rfl : k = 8 := by omega
      have HP := Lib.hid (show tableB l = true from tab_all HN.out hall.out)
      go_wp2
      go_ret
      exact ⟨ret_bool HP.out.symm, hbw⟩
set_option maxHeartbeats 1000000 in
theorem specTableOk_c (A : Option Addr) (n c : Nat) (l : List Slot) (w : World) (hn : l.length = n) (hm : n ≤ 1048576) (hr : Reads w w.heap.size 7 A n (l.flatMap Slot.cells)) :
    Calls Try.prog 58 #[.agg #[.slice A n c]] w fun e w' => e = .returned (.bool (tableB l)) ∧ Below w.heap.size w w' := by
  by_cases h8 : n = 8
  · exact specTableOk0_c A n c l w hn hm hr h8
  · have hv : tableB l = false := by rw [tableB, hn, decide_eq_false h8]; rfl
    rw [hv]
    have b8 : ((n : Int) != 8) = true := by simp; omega
    go_enter Try.func58, Try.ntmps58
    go_wp2
    go_ret
    exact ⟨rfl, by go_grown⟩
set_option maxRecDepth 100000 in
set_option maxHeartbeats 2000000 in
theorem implFindFlow_c (A : Option Addr) (n c : Nat) (l : List Slot) (f : Flow) (w : World) (hn : l.length = n) (hm : n ≤ 1048576) (hr : Reads w w.heap.size 7 A n (l.flatMap Slot.cells)) :
    Calls Try.prog 21 #[.agg #[.slice A n c], .agg #[.int .i64 f.kind, .int .i64 f.sip, .int .i64 f.dip, .int .i64 f.sport, .int .i64 f.dport]] w fun e w' => e = .returned (.int .i64 (flowI l f)) ∧ Below w.heap.size w w' := by
  have hto := fun (u : World) (hu : Reads u u.heap.size 7 A n (l.flatMap Slot.cells)) => implTableOk_c A n c l u hn hm hu
  have hk0 : Blk ((w.alloc (.cells #[.slice A n c] 27)).alloc (.cells #[.int .i64 f.kind, .int .i64 f.sip, .int .i64 f.dip, .int .i64 f.sport, .int .i64 f.dport] 44)) (w.heap.size + 1) 44 [.int .i64 f.kind, .int .i64 f.sip, .int .i64 f.dip, .int .i64 f.sport, .int .i64 f.dport] := by simpa using Blk.new (w.alloc (.cells #[.slice A n c] 27)) 44 [.int .i64 f.kind, .int .i64 f.sip, .int .i64 f.dip, .int .i64 f.sport, .int .i64 f.dport]
  have hkt : Blk ((w.alloc (.cells #[.slice A n c] 27)).alloc (.cells #[.int .i64 f.kind, .int .i64 f.sip, .int .i64 f.dip, .int .i64 f.sport, .int .i64 f.dport] 44)) w.heap.size 27 [.slice A n c] := (Blk.new _ _ _).alloc _
  have HN := Lib.hid hn
  cases h : tableB l
  · rw [show flowI l f = -1 by rw [flowI, h]; rfl]
    simp only [h] at hto
    clear hn
    go_enter Try.func21, Try.ntmps21
    go_wp2_with fail
    refine (hto _ (hr.to (by go_grown))).mono ?_
    rintro e w1 ⟨rfl, hbW⟩
    have hk1 : Below w.heap.size w w1 := ext_step (by go_grown) (by go_size) hbW
    clear hbW
    go_wp2
    go_ret
    exact ⟨rfl, hk1⟩
  · rw [show flowI l f = soI l f by rw [flowI, h, if_pos rfl]]
    have h8 := tableB_len h
    simp only [h] at hto
    obtain rfl : n = 8 := by omega
    clear hn h
    go_enter Try.func21, Try.ntmps21
    go_wp2_with fail
    refine (hto _ (hr.to (by go_grown))).mono ?_
    rintro e w1 ⟨rfl, hbW⟩
    have hk1 : Below w.heap.size w w1 := ext_step (by go_grown) (by go_size) hbW
    have hkt1 := hkt.ext hbW
    have hkf1 := hk0.ext hbW
    have t0 := hkt1.at_ 0 _ rfl
    have hl1 := hkt1.lt
    have hl2 := hkf1.lt
    have q0 := hkf1.at_ 0 _ rfl
    have q1 := hkf1.at_ 1 _ rfl
    have q2 := hkf1.at_ 2 _ rfl
    have q3 := hkf1.at_ 3 _ rfl
    have q4 := hkf1.at_ 4 _ rfl
    clear hbW hkt hk0
    go_wp2_with fail
    refine (slotOf_c A 8 c l f _ HN.out hm ((hr.below hk1).more hk1.size)).mono ?_
    rintro e w2 ⟨rfl, hbW⟩
    have hk2 : Below w.heap.size w w2 := ext_step hk1 hk1.size hbW
    clear hbW
    go_wp2
    go_ret
    exact ⟨rfl, hk2⟩
set_option maxRecDepth 100000 in
set_option maxHeartbeats 2000000 in
theorem specFindFlow_c (A : Option Addr) (n c : Nat) (l : List Slot) (f : Flow) (w : World) (hn : l.length = n) (hm : n ≤ 1048576) (hr : Reads w w.heap.size 7 A n (l.flatMap Slot.cells)) :
    Calls Try.prog 34 #[.agg #[.slice A n c], .agg #[.int .i64 f.kind, .int .i64 f.sip, .int .i64 f.dip, .int .i64 f.sport, .int .i64 f.dport]] w fun e w' => e = .returned (.int .i64 (flowI l f)) ∧ Below w.heap.size w w' := by
  have hto := fun (u : World) (hu : Reads u u.heap.size 7 A n (l.flatMap Slot.cells)) => specTableOk_c A n c l u hn hm hu
  have hk0 : Blk ((w.alloc (.cells #[.slice A n c] 27)).alloc (.cells #[.int .i64 f.kind, .int .i64 f.sip, .int .i64 f.dip, .int .i64 f.sport, .int .i64 f.dport] 44)) (w.heap.size + 1) 44 [.int .i64 f.kind, .int .i64 f.sip, .int .i64 f.dip, .int .i64 f.sport, .int .i64 f.dport] := by simpa using Blk.new (w.alloc (.cells #[.slice A n c] 27)) 44 [.int .i64 f.kind, .int .i64 f.sip, .int .i64 f.dip, .int .i64 f.sport, .int .i64 f.dport]
  have hkt : Blk ((w.alloc (.cells #[.slice A n c] 27)).alloc (.cells #[.int .i64 f.kind, .int .i64 f.sip, .int .i64 f.dip, .int .i64 f.sport, .int .i64 f.dport] 44)) w.heap.size 27 [.slice A n c] := (Blk.new _ _ _).alloc _
  have HN := Lib.hid hn
  cases h : tableB l
  · rw [show flowI l f = -1 by rw [flowI, h]; rfl]
    simp only [h] at hto
    clear hn
    go_enter Try.func34, Try.ntmps34
    go_wp2_with fail
    refine (hto _ (hr.to (by go_grown))).mono ?_
    rintro e w1 ⟨rfl, hbW⟩
    have hk1 : Below w.heap.size w w1 := ext_step (by go_grown) (by go_size) hbW
    clear hbW
    go_wp2
    go_ret
    exact ⟨rfl, hk1⟩
  · rw [show flowI l f = fndI l f by rw [flowI, h, if_pos rfl]; exact so_fnd h f]
    have h8 := tableB_len h
    simp only [h] at hto
    obtain rfl : n = 8 := by omega
    clear hn h
    go_enter Try.func34, Try.ntmps34
    go_wp2_with fail
    refine (hto _ (hr.to (by go_grown))).mono ?_
    rintro e w1 ⟨rfl, hbW⟩
    have hk1 : Below w.heap.size w w1 := ext_step (by go_grown) (by go_size) hbW
    have hkt1 := hkt.ext hbW
    have hkf1 := hk0.ext hbW
    have t0 := hkt1.at_ 0 _ rfl
    have hl1 := hkt1.lt
    have hl2 := hkf1.lt
    have q0 := hkf1.at_ 0 _ rfl
    have q1 := hkf1.at_ 1 _ rfl
    have q2 := hkf1.at_ 2 _ rfl
    have q3 := hkf1.at_ 3 _ rfl
    have q4 := hkf1.at_ 4 _ rfl
    clear hbW hkt hk0
    go_wp2_with fail
    refine (l13Find_c A c l f _ HN.out ((hr.below hk1).more hk1.size)).mono ?_
    rintro e w2 ⟨rfl, hbW⟩
    have hk2 : Below w.heap.size w w2 := ext_step hk1 hk1.size hbW
    clear hbW
    go_wp2
    go_ret
    exact ⟨rfl, hk2⟩
end Go.Proofs.Ytkfekgmdjemkbaa
