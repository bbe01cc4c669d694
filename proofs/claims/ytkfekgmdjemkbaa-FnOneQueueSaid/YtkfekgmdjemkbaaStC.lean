/- Contracts: RulesOk, FindRule: impl and spec. -/
import Derived.Test.YtkfekgmdjemkbaaStB
namespace Go.Proofs.Ytkfekgmdjemkbaa
set_option linter.unusedSimpArgs false
set_option linter.unusedVariables false
open Go.RowKit Go.ChangeShapes Go.WideShapes
theorem rules_bad {l : List Rule} {k : Nat} {x : Rule} (hx : l[k]? = some x) (h : ruleB x = false) : rulesB l = false := by
  cases e : rulesB l
  · rfl
  · rw [rulesB_el e (List.mem_of_getElem? hx)] at h; exact absurd h (by decide)
theorem best_step {l : List Rule} {p : Packet} {k : Nat} {x : Rule} (hx : l[k]? = some x) : bestR l p (k + 1) = if matB x p = true ∧ (bestR l p k < 0 ∨ x.prio < prioAt l (bestR l p k)) then (k : Int) else bestR l p k := by
  rw [bestR, hx]
theorem best_no {l : List Rule} {p : Packet} {k : Nat} {x : Rule} (hx : l[k]? = some x) (h : matB x p = false) : bestR l p (k + 1) = bestR l p k := by
  rw [best_step hx, if_neg (by rw [h]; simp)]
theorem best_0 {l : List Rule} {p : Packet} {k : Nat} {x : Rule} (hx : l[k]? = some x) (h : matB x p = true) (hb : bestR l p k < 0) : bestR l p (k + 1) = k := by
  rw [best_step hx, if_pos ⟨h, .inl hb⟩]
theorem prio_at {l : List Rule} {b : Int} {j : Nat} {y : Rule} (hb : b = j) (hy : l[j]? = some y) : prioAt l b = y.prio := by
  rw [prioAt, hb, Int.toNat_natCast, hy]
theorem best_lt {l : List Rule} {p : Packet} {k j : Nat} {x y : Rule} (hx : l[k]? = some x) (h : matB x p = true) (hb : bestR l p k = j) (hy : l[j]? = some y) (hl : x.prio < y.prio) : bestR l p (k + 1) = k := by
  rw [best_step hx, if_pos ⟨h, .inr (by rw [prio_at hb hy]; exact hl)⟩]
theorem best_ge {l : List Rule} {p : Packet} {k j : Nat} {x y : Rule} (hx : l[k]? = some x) (hb : bestR l p k = j) (hy : l[j]? = some y) (hl : ¬ x.prio < y.prio) : bestR l p (k + 1) = j := by
  rw [best_step hx, if_neg (by rw [prio_at hb hy]; omega), hb]
set_option maxHeartbeats 2000000 in
theorem implRulesOk_c (A : Option Addr) (n c : Nat) (l : List Rule) (w : World) (hn : l.length = n) (hm : n ≤ 1048576) (hr : Reads w w.heap.size 9 A n (l.flatMap Rule.cells)) :
    Calls Try.prog 24 #[.slice A n c] w fun e w' => e = .returned (.bool (rulesB l)) ∧ Below w.heap.size w w' := by
  have HN := Lib.hid hn
  clear hn
  go_enter Try.func24, Try.ntmps24
  go_wp2
  go_loopw [7] (fun i wr => ∃ k : Nat, k ≤ n ∧ i = .int .i64 k ∧ Below w.heap.size w wr ∧ Hid ((l.take k).all ruleB = true)) (fun i _ => n - (intOf i).toNat)
  case atStart => exact ⟨0, Nat.zero_le _, rfl, Below.refl _ _, rfl⟩
  case round =>
    obtain ⟨k, hk, rfl, hbw, hall⟩ := hrel
    have hsz := hbw.size
    by_cases hlt : k < n
    · obtain ⟨b, o, x, rfl, hb, hxx, hcx⟩ := hr.el (fun _ => rfl) (by decide) HN.out hlt
      have c0 := (hbw.cell (p := ⟨b, o + k * 9, none⟩) hb).trans (by simpa using hcx 0 _ rfl)
      have c1 := (hbw.cell (p := ⟨b, o + k * 9 + 1, none⟩) hb).trans (by simpa using hcx 1 _ rfl)
      have c2 := (hbw.cell (p := ⟨b, o + k * 9 + 2, none⟩) hb).trans (by simpa using hcx 2 _ rfl)
      have c3 := (hbw.cell (p := ⟨b, o + k * 9 + 3, none⟩) hb).trans (by simpa using hcx 3 _ rfl)
      have c4 := (hbw.cell (p := ⟨b, o + k * 9 + 4, none⟩) hb).trans (by simpa using hcx 4 _ rfl)
      have c5 := (hbw.cell (p := ⟨b, o + k * 9 + 5, none⟩) hb).trans (by simpa using hcx 5 _ rfl)
      have c6 := (hbw.cell (p := ⟨b, o + k * 9 + 6, none⟩) hb).trans (by simpa using hcx 6 _ rfl)
      have c7 := (hbw.cell (p := ⟨b, o + k * 9 + 7, none⟩) hb).trans (by simpa using hcx 7 _ rfl)
      have c8 := (hbw.cell (p := ⟨b, o + k * 9 + 8, none⟩) hb).trans (by simpa using hcx 8 _ rfl)
      have HXx := Lib.hid hxx
      clear hxx hcx
      cases e1 : ruleB x
      · have HP := Lib.hid (rules_bad HXx.out e1)
        go_wp2_with (go_at_call 51; refine (implRuleOk_c x _).mono ?_; rintro e w1 ⟨rfl, hb⟩; have hk1 : Below w.heap.size w w1 := ext_step (by go_grown) (by go_size) hb; clear hb)
        go_ret
        exact ⟨ret_bool HP.out.symm, hk1⟩
      · have HP := Lib.hid (all_take (p := ruleB) hall.out HXx.out e1)
        go_wp2_with (go_at_call 51; refine (implRuleOk_c x _).mono ?_; rintro e w1 ⟨rfl, hb⟩; have hk1 : Below w.heap.size w w1 := ext_step (by go_grown) (by go_size) hb; clear hb)
        go_roundw
        case rel => exact ⟨k + 1, by omega, by go_num, hk1, HP⟩
        case measure => simp [intOf]; omega
    · have hp := hall.out
      rw [take_all HN.out hlt] at hp
      have HP := Lib.hid hp
      clear hp
      go_wp2
      go_ret
      exact ⟨ret_bool (by rw [rulesB, HP.out, HN.out]; simp; omega), hbw⟩
set_option maxHeartbeats 2000000 in
theorem specRulesOk_c (A : Option Addr) (n c : Nat) (l : List Rule) (w : World) (hn : l.length = n) (hm : n ≤ 1048576) (hr : Reads w w.heap.size 9 A n (l.flatMap Rule.cells)) :
    Calls Try.prog 30 #[.slice A n c] w fun e w' => e = .returned (.bool (rulesB l)) ∧ Below w.heap.size w w' := by
  have HN := Lib.hid hn
  clear hn
  go_enter Try.func30, Try.ntmps30
  go_wp2
  go_loopw [3] (fun i wr => ∃ k : Nat, k ≤ n ∧ i = .int .i64 k ∧ Below w.heap.size w wr ∧ Hid ((l.take k).all ruleB = true)) (fun i _ => n - (intOf i).toNat)
  case atStart => exact ⟨0, Nat.zero_le _, rfl, Below.refl _ _, rfl⟩
  case round =>
    obtain ⟨k, hk, rfl, hbw, hall⟩ := hrel
    have hsz := hbw.size
    by_cases hlt : k < n
    · obtain ⟨b, o, x, rfl, hb, hxx, hcx⟩ := hr.el (fun _ => rfl) (by decide) HN.out hlt
      have c0 := (hbw.cell (p := ⟨b, o + k * 9, none⟩) hb).trans (by simpa using hcx 0 _ rfl)
      have c1 := (hbw.cell (p := ⟨b, o + k * 9 + 1, none⟩) hb).trans (by simpa using hcx 1 _ rfl)
      have c2 := (hbw.cell (p := ⟨b, o + k * 9 + 2, none⟩) hb).trans (by simpa using hcx 2 _ rfl)
      have c3 := (hbw.cell (p := ⟨b, o + k * 9 + 3, none⟩) hb).trans (by simpa using hcx 3 _ rfl)
      have c4 := (hbw.cell (p := ⟨b, o + k * 9 + 4, none⟩) hb).trans (by simpa using hcx 4 _ rfl)
      have c5 := (hbw.cell (p := ⟨b, o + k * 9 + 5, none⟩) hb).trans (by simpa using hcx 5 _ rfl)
      have c6 := (hbw.cell (p := ⟨b, o + k * 9 + 6, none⟩) hb).trans (by simpa using hcx 6 _ rfl)
      have c7 := (hbw.cell (p := ⟨b, o + k * 9 + 7, none⟩) hb).trans (by simpa using hcx 7 _ rfl)
      have c8 := (hbw.cell (p := ⟨b, o + k * 9 + 8, none⟩) hb).trans (by simpa using hcx 8 _ rfl)
      have HXx := Lib.hid hxx
      clear hxx hcx
      cases e1 : ruleB x
      · have HP := Lib.hid (rules_bad HXx.out e1)
        go_wp2_with (go_at_call 56; refine (specRuleOk_c x _).mono ?_; rintro e w1 ⟨rfl, hb⟩; have hk1 : Below w.heap.size w w1 := ext_step (by go_grown) (by go_size) hb; clear hb)
        go_ret
        exact ⟨ret_bool HP.out.symm, hk1⟩
      · have HP := Lib.hid (all_take (p := ruleB) hall.out HXx.out e1)
        go_wp2_with (go_at_call 56; refine (specRuleOk_c x _).mono ?_; rintro e w1 ⟨rfl, hb⟩; have hk1 : Below w.heap.size w w1 := ext_step (by go_grown) (by go_size) hb; clear hb)
        go_roundw
        case rel => exact ⟨k + 1, by omega, by go_num, hk1, HP⟩
        case measure => simp [intOf]; omega
    · have hp := hall.out
      rw [take_all HN.out hlt] at hp
      have HP := Lib.hid hp
      clear hp
      go_wp2
      go_ret
      exact ⟨ret_bool (by rw [rulesB, HP.out, HN.out]; simp; omega), hbw⟩
set_option maxRecDepth 100000 in
set_option maxHeartbeats 8000000 in
theorem implFindRule_c (A : Option Addr) (n c : Nat) (l : List Rule) (w : World) (hn : l.length = n) (hm : n ≤ 1048576) (hr : Reads w w.heap.size 9 A n (l.flatMap Rule.cells)) (p : Packet) (hz : p.seg_body.size ≤ 1048576) :
    Calls Try.prog 20 #[.slice A n c, .agg #[.int .i64 p.dmac, .int .i64 p.smac, .int .i64 p.vlan, .int .i64 p.tos, .int .i64 p.id, .int .i64 p.ttl, .int .i64 p.sip, .int .i64 p.dip, .int .i64 p.seg_kind, .int .i64 p.seg_sport, .int .i64 p.seg_dport, .int .i64 p.seg_seq, .int .i64 p.seg_ack, .int .i64 p.seg_flags, .int .i64 p.seg_win, .string p.seg_body]] w fun e w' => e = .returned (.int .i64 (ruleI l p)) ∧ Below w.heap.size w w' := by
  have HN := Lib.hid hn
  clear hn
  cases h0 : rulesB l
  · go_enter Try.func20, Try.ntmps20
    go_wp2_with (go_at_call 24; refine (implRulesOk_c _ n c l _ HN.out hm (hr.to (by go_grown))).mono ?_; rintro e w1 ⟨rfl, hbW⟩; have hk1 : Below w.heap.size w w1 := ext_step (by go_grown) (by go_size) hbW; rw [h0])
    go_ret
    exact ⟨ret_int (by rw [ruleI, if_neg (by rw [h0]; decide)]), hk1⟩
  · go_enter Try.func20, Try.ntmps20
    go_wp2_with (go_at_call 24; refine (implRulesOk_c _ n c l _ HN.out hm (hr.to (by go_grown))).mono ?_; rintro e w1 ⟨rfl, hbW⟩; have hk1 : Below w.heap.size w w1 := ext_step (by go_grown) (by go_size) hbW; rw [h0]; have hkp := (Blk.new w 41 [.int .i64 p.dmac, .int .i64 p.smac, .int .i64 p.vlan, .int .i64 p.tos, .int .i64 p.id, .int .i64 p.ttl, .int .i64 p.sip, .int .i64 p.dip, .int .i64 p.seg_kind, .int .i64 p.seg_sport, .int .i64 p.seg_dport, .int .i64 p.seg_seq, .int .i64 p.seg_ack, .int .i64 p.seg_flags, .int .i64 p.seg_win, .string p.seg_body]).ext hbW; clear hbW)
    go_loopw [5, 13] (fun b i wr => ∃ k : Nat, k ≤ n ∧ i = .int .i64 k ∧ b = .int .i64 (bestR l p k) ∧ Below w.heap.size w wr ∧ Blk wr w.heap.size 41 [.int .i64 p.dmac, .int .i64 p.smac, .int .i64 p.vlan, .int .i64 p.tos, .int .i64 p.id, .int .i64 p.ttl, .int .i64 p.sip, .int .i64 p.dip, .int .i64 p.seg_kind, .int .i64 p.seg_sport, .int .i64 p.seg_dport, .int .i64 p.seg_seq, .int .i64 p.seg_ack, .int .i64 p.seg_flags, .int .i64 p.seg_win, .string p.seg_body]) (fun _ i _ => n - (intOf i).toNat)
    case atStart => exact ⟨0, Nat.zero_le _, rfl, rfl, hk1, hkp⟩
    case round =>
      obtain ⟨k, hk, rfl, rfl, hbw, hkp⟩ := hrel
      have hsz := hbw.size
      have hpl := hkp.lt
      by_cases hlt : k < n
      · obtain ⟨b, o, x, rfl, hb, hxx, hcx⟩ := hr.el (fun _ => rfl) (by decide) HN.out hlt
        have c0 := (hbw.cell (p := ⟨b, o + k * 9, none⟩) hb).trans (by simpa using hcx 0 _ rfl)
        have c1 := (hbw.cell (p := ⟨b, o + k * 9 + 1, none⟩) hb).trans (by simpa using hcx 1 _ rfl)
        have c2 := (hbw.cell (p := ⟨b, o + k * 9 + 2, none⟩) hb).trans (by simpa using hcx 2 _ rfl)
        have c3 := (hbw.cell (p := ⟨b, o + k * 9 + 3, none⟩) hb).trans (by simpa using hcx 3 _ rfl)
        have c4 := (hbw.cell (p := ⟨b, o + k * 9 + 4, none⟩) hb).trans (by simpa using hcx 4 _ rfl)
        have c5 := (hbw.cell (p := ⟨b, o + k * 9 + 5, none⟩) hb).trans (by simpa using hcx 5 _ rfl)
        have c6 := (hbw.cell (p := ⟨b, o + k * 9 + 6, none⟩) hb).trans (by simpa using hcx 6 _ rfl)
        have c7 := (hbw.cell (p := ⟨b, o + k * 9 + 7, none⟩) hb).trans (by simpa using hcx 7 _ rfl)
        have c8 := (hbw.cell (p := ⟨b, o + k * 9 + 8, none⟩) hb).trans (by simpa using hcx 8 _ rfl)
        have HXx := Lib.hid hxx
        clear hxx hcx
        have hbd := bestR_bd l p k
        obtain ⟨B, e_B⟩ : ∃ B, bestR l p k = B := ⟨_, rfl⟩
        have HB := Lib.hid e_B
        rw [e_B] at hbd
        simp only [e_B]
        clear e_B
        have hM := fun u => implRuleMatches_c x p u hz
        cases hma : matB x p
        · simp only [hma] at hM
          as_aux_lemma =>
            have HP := Lib.hid ((best_no HXx.out hma).trans HB.out)
            go_wp2_with fail
            obtain ⟨W1, hW0⟩ : ∃ W, W = wr.alloc (.cells #[.int .i64 x.prio, .int .i64 x.kind, .int .i64 x.sip, .int .i64 x.sbits, .int .i64 x.fport, .int .i64 x.lport, .int .i64 x.vlan, .int .i64 x.action, .int .i64 x.queue] 58) := ⟨_, rfl⟩
            have hbW : Below wr.heap.size wr W1 := by rw [hW0]; go_grown
            have hkr : Blk W1 wr.heap.size 58 [.int .i64 x.prio, .int .i64 x.kind, .int .i64 x.sip, .int .i64 x.sbits, .int .i64 x.fport, .int .i64 x.lport, .int .i64 x.vlan, .int .i64 x.action, .int .i64 x.queue] := by rw [hW0]; exact Blk.new _ _ _
            rw [← hW0]
            clear hW0
            have hkp1 := hkp.ext hbW
            have r0 := hkr.at_ 0 _ rfl
            have r1 := hkr.at_ 1 _ rfl
            have r2 := hkr.at_ 2 _ rfl
            have r3 := hkr.at_ 3 _ rfl
            have r4 := hkr.at_ 4 _ rfl
            have r5 := hkr.at_ 5 _ rfl
            have r6 := hkr.at_ 6 _ rfl
            have r7 := hkr.at_ 7 _ rfl
            have r8 := hkr.at_ 8 _ rfl
            have q0 := hkp1.at_ 0 _ rfl
            have q1 := hkp1.at_ 1 _ rfl
            have q2 := hkp1.at_ 2 _ rfl
            have q3 := hkp1.at_ 3 _ rfl
            have q4 := hkp1.at_ 4 _ rfl
            have q5 := hkp1.at_ 5 _ rfl
            have q6 := hkp1.at_ 6 _ rfl
            have q7 := hkp1.at_ 7 _ rfl
            have q8 := hkp1.at_ 8 _ rfl
            have q9 := hkp1.at_ 9 _ rfl
            have q10 := hkp1.at_ 10 _ rfl
            have q11 := hkp1.at_ 11 _ rfl
            have q12 := hkp1.at_ 12 _ rfl
            have q13 := hkp1.at_ 13 _ rfl
            have q14 := hkp1.at_ 14 _ rfl
            have q15 := hkp1.at_ 15 _ rfl
            have hK1 : Below w.heap.size w W1 := ext_step hbw hbw.size hbW
            have hxt := fun t : Ext W1 => (And.intro (t.cell r0) (And.intro (t.cell r1) (And.intro (t.cell r2) (And.intro (t.cell r3) (And.intro (t.cell r4) (And.intro (t.cell r5) (And.intro (t.cell r6) (And.intro (t.cell r7) (And.intro (t.cell r8) (And.intro (t.cell q0) (And.intro (t.cell q1) (And.intro (t.cell q2) (And.intro (t.cell q3) (And.intro (t.cell q4) (And.intro (t.cell q5) (And.intro (t.cell q6) (And.intro (t.cell q7) (And.intro (t.cell q8) (And.intro (t.cell q9) (And.intro (t.cell q10) (And.intro (t.cell q11) (And.intro (t.cell q12) (And.intro (t.cell q13) (And.intro (t.cell q14) (t.cell q15)))))))))))))))))))))))))
            clear hbW
            refine wp_region_ext_lit (by kernel_rfl) (by kernel_rfl) ?_
            repeat (go_big_quiet_step (first | (go_at_call 48; exact ext_call (hM _))))
            refine wpQuiet_nil ?_
            intro _ hw'
            obtain ⟨tq, hw''⟩ := hw'
            subst hw''
            have hkp2 := hkp1.ext tq.below
            have hk2 : Below w.heap.size w tq.wd := ext_step hK1 hK1.size tq.below
            generalize tq.wd = W2 at *
            clear hxt
            go_wp2
            go_roundw
            case rel => exact ⟨k + 1, by omega, by go_num, by rw [HP.out], hk2, hkp2⟩
            case measure => simp [intOf]; omega
        · simp only [hma] at hM
          by_cases hb0 : B < 0
          · obtain rfl : B = -1 := by omega
            as_aux_lemma =>
              have HP := Lib.hid (best_0 HXx.out hma (by rw [HB.out]; decide))
              go_wp2_with fail
              obtain ⟨W1, hW0⟩ : ∃ W, W = wr.alloc (.cells #[.int .i64 x.prio, .int .i64 x.kind, .int .i64 x.sip, .int .i64 x.sbits, .int .i64 x.fport, .int .i64 x.lport, .int .i64 x.vlan, .int .i64 x.action, .int .i64 x.queue] 58) := ⟨_, rfl⟩
              have hbW : Below wr.heap.size wr W1 := by rw [hW0]; go_grown
              have hkr : Blk W1 wr.heap.size 58 [.int .i64 x.prio, .int .i64 x.kind, .int .i64 x.sip, .int .i64 x.sbits, .int .i64 x.fport, .int .i64 x.lport, .int .i64 x.vlan, .int .i64 x.action, .int .i64 x.queue] := by rw [hW0]; exact Blk.new _ _ _
              rw [← hW0]
              clear hW0
              have hkp1 := hkp.ext hbW
              have r0 := hkr.at_ 0 _ rfl
              have r1 := hkr.at_ 1 _ rfl
              have r2 := hkr.at_ 2 _ rfl
              have r3 := hkr.at_ 3 _ rfl
              have r4 := hkr.at_ 4 _ rfl
              have r5 := hkr.at_ 5 _ rfl
              have r6 := hkr.at_ 6 _ rfl
              have r7 := hkr.at_ 7 _ rfl
              have r8 := hkr.at_ 8 _ rfl
              have q0 := hkp1.at_ 0 _ rfl
              have q1 := hkp1.at_ 1 _ rfl
              have q2 := hkp1.at_ 2 _ rfl
              have q3 := hkp1.at_ 3 _ rfl
              have q4 := hkp1.at_ 4 _ rfl
              have q5 := hkp1.at_ 5 _ rfl
              have q6 := hkp1.at_ 6 _ rfl
              have q7 := hkp1.at_ 7 _ rfl
              have q8 := hkp1.at_ 8 _ rfl
              have q9 := hkp1.at_ 9 _ rfl
              have q10 := hkp1.at_ 10 _ rfl
              have q11 := hkp1.at_ 11 _ rfl
              have q12 := hkp1.at_ 12 _ rfl
              have q13 := hkp1.at_ 13 _ rfl
              have q14 := hkp1.at_ 14 _ rfl
              have q15 := hkp1.at_ 15 _ rfl
              have hK1 : Below w.heap.size w W1 := ext_step hbw hbw.size hbW
              have hxt := fun t : Ext W1 => (And.intro (t.cell r0) (And.intro (t.cell r1) (And.intro (t.cell r2) (And.intro (t.cell r3) (And.intro (t.cell r4) (And.intro (t.cell r5) (And.intro (t.cell r6) (And.intro (t.cell r7) (And.intro (t.cell r8) (And.intro (t.cell q0) (And.intro (t.cell q1) (And.intro (t.cell q2) (And.intro (t.cell q3) (And.intro (t.cell q4) (And.intro (t.cell q5) (And.intro (t.cell q6) (And.intro (t.cell q7) (And.intro (t.cell q8) (And.intro (t.cell q9) (And.intro (t.cell q10) (And.intro (t.cell q11) (And.intro (t.cell q12) (And.intro (t.cell q13) (And.intro (t.cell q14) (t.cell q15)))))))))))))))))))))))))
              clear hbW
              refine wp_region_ext_lit (by kernel_rfl) (by kernel_rfl) ?_
              repeat (go_big_quiet_step (first | (go_at_call 48; exact ext_call (hM _))))
              refine wpQuiet_nil ?_
              intro _ hw'
              obtain ⟨tq, hw''⟩ := hw'
              subst hw''
              have hkp2 := hkp1.ext tq.below
              have hk2 : Below w.heap.size w tq.wd := ext_step hK1 hK1.size tq.below
              generalize tq.wd = W2 at *
              clear hxt
              go_wp2
              go_roundw
              case rel => exact ⟨k + 1, by omega, by go_num, by rw [HP.out], hk2, hkp2⟩
              case measure => simp [intOf]; omega
          · obtain ⟨j, rfl⟩ := Int.eq_ofNat_of_zero_le (show 0 ≤ B by omega)
            have hjn : j < n := by omega
            obtain ⟨b2, o2, y, hA2, hb2, hxy, hcy⟩ := hr.el (fun _ => rfl) (by decide) HN.out hjn
            injection hA2 with hA2
            injection hA2 with hA3 hA4
            subst hA3
            subst hA4
            have d0 := (hbw.cell (p := ⟨b, o + j * 9, none⟩) hb2).trans (by simpa using hcy 0 _ rfl)
            have d1 := (hbw.cell (p := ⟨b, o + j * 9 + 1, none⟩) hb2).trans (by simpa using hcy 1 _ rfl)
            have d2 := (hbw.cell (p := ⟨b, o + j * 9 + 2, none⟩) hb2).trans (by simpa using hcy 2 _ rfl)
            have d3 := (hbw.cell (p := ⟨b, o + j * 9 + 3, none⟩) hb2).trans (by simpa using hcy 3 _ rfl)
            have d4 := (hbw.cell (p := ⟨b, o + j * 9 + 4, none⟩) hb2).trans (by simpa using hcy 4 _ rfl)
            have d5 := (hbw.cell (p := ⟨b, o + j * 9 + 5, none⟩) hb2).trans (by simpa using hcy 5 _ rfl)
            have d6 := (hbw.cell (p := ⟨b, o + j * 9 + 6, none⟩) hb2).trans (by simpa using hcy 6 _ rfl)
            have d7 := (hbw.cell (p := ⟨b, o + j * 9 + 7, none⟩) hb2).trans (by simpa using hcy 7 _ rfl)
            have d8 := (hbw.cell (p := ⟨b, o + j * 9 + 8, none⟩) hb2).trans (by simpa using hcy 8 _ rfl)
            have HXy := Lib.hid hxy
            clear hxy hcy hb2
            by_cases hpr : x.prio < y.prio
            · as_aux_lemma =>
                have HP := Lib.hid (best_lt HXx.out hma HB.out HXy.out hpr)
                go_wp2_with fail
                obtain ⟨W1, hW0⟩ : ∃ W, W = wr.alloc (.cells #[.int .i64 x.prio, .int .i64 x.kind, .int .i64 x.sip, .int .i64 x.sbits, .int .i64 x.fport, .int .i64 x.lport, .int .i64 x.vlan, .int .i64 x.action, .int .i64 x.queue] 58) := ⟨_, rfl⟩
                have hbW : Below wr.heap.size wr W1 := by rw [hW0]; go_grown
                have hkr : Blk W1 wr.heap.size 58 [.int .i64 x.prio, .int .i64 x.kind, .int .i64 x.sip, .int .i64 x.sbits, .int .i64 x.fport, .int .i64 x.lport, .int .i64 x.vlan, .int .i64 x.action, .int .i64 x.queue] := by rw [hW0]; exact Blk.new _ _ _
                rw [← hW0]
                clear hW0
                have hkp1 := hkp.ext hbW
                have r0 := hkr.at_ 0 _ rfl
                have r1 := hkr.at_ 1 _ rfl
                have r2 := hkr.at_ 2 _ rfl
                have r3 := hkr.at_ 3 _ rfl
                have r4 := hkr.at_ 4 _ rfl
                have r5 := hkr.at_ 5 _ rfl
                have r6 := hkr.at_ 6 _ rfl
                have r7 := hkr.at_ 7 _ rfl
                have r8 := hkr.at_ 8 _ rfl
                have q0 := hkp1.at_ 0 _ rfl
                have q1 := hkp1.at_ 1 _ rfl
                have q2 := hkp1.at_ 2 _ rfl
                have q3 := hkp1.at_ 3 _ rfl
                have q4 := hkp1.at_ 4 _ rfl
                have q5 := hkp1.at_ 5 _ rfl
                have q6 := hkp1.at_ 6 _ rfl
                have q7 := hkp1.at_ 7 _ rfl
                have q8 := hkp1.at_ 8 _ rfl
                have q9 := hkp1.at_ 9 _ rfl
                have q10 := hkp1.at_ 10 _ rfl
                have q11 := hkp1.at_ 11 _ rfl
                have q12 := hkp1.at_ 12 _ rfl
                have q13 := hkp1.at_ 13 _ rfl
                have q14 := hkp1.at_ 14 _ rfl
                have q15 := hkp1.at_ 15 _ rfl
                have s0 := ccell hbW _ _ _ d0
                have hj0 : decide ((j : Int) < 0) = false := decide_eq_false (by omega)
                have hpd := decide_eq_true (show x.prio < y.prio by omega)
                have hK1 : Below w.heap.size w W1 := ext_step hbw hbw.size hbW
                have hxt := fun t : Ext W1 => (And.intro (t.cell r0) (And.intro (t.cell r1) (And.intro (t.cell r2) (And.intro (t.cell r3) (And.intro (t.cell r4) (And.intro (t.cell r5) (And.intro (t.cell r6) (And.intro (t.cell r7) (And.intro (t.cell r8) (And.intro (t.cell q0) (And.intro (t.cell q1) (And.intro (t.cell q2) (And.intro (t.cell q3) (And.intro (t.cell q4) (And.intro (t.cell q5) (And.intro (t.cell q6) (And.intro (t.cell q7) (And.intro (t.cell q8) (And.intro (t.cell q9) (And.intro (t.cell q10) (And.intro (t.cell q11) (And.intro (t.cell q12) (And.intro (t.cell q13) (And.intro (t.cell q14) (And.intro (t.cell q15) (t.cell s0))))))))))))))))))))))))))
                clear hbW
                refine wp_region_ext_lit (by kernel_rfl) (by kernel_rfl) ?_
                repeat (go_big_quiet_step (first | (go_at_call 48; exact ext_call (hM _))))
                refine wpQuiet_nil ?_
                intro _ hw'
                obtain ⟨tq, hw''⟩ := hw'
                subst hw''
                have hkp2 := hkp1.ext tq.below
                have hk2 : Below w.heap.size w tq.wd := ext_step hK1 hK1.size tq.below
                generalize tq.wd = W2 at *
                clear hxt
                go_wp2
                go_roundw
                case rel => exact ⟨k + 1, by omega, by go_num, by rw [HP.out], hk2, hkp2⟩
                case measure => simp [intOf]; omega
            · as_aux_lemma =>
                have HP := Lib.hid (best_ge HXx.out HB.out HXy.out hpr)
                go_wp2_with fail
                obtain ⟨W1, hW0⟩ : ∃ W, W = wr.alloc (.cells #[.int .i64 x.prio, .int .i64 x.kind, .int .i64 x.sip, .int .i64 x.sbits, .int .i64 x.fport, .int .i64 x.lport, .int .i64 x.vlan, .int .i64 x.action, .int .i64 x.queue] 58) := ⟨_, rfl⟩
                have hbW : Below wr.heap.size wr W1 := by rw [hW0]; go_grown
                have hkr : Blk W1 wr.heap.size 58 [.int .i64 x.prio, .int .i64 x.kind, .int .i64 x.sip, .int .i64 x.sbits, .int .i64 x.fport, .int .i64 x.lport, .int .i64 x.vlan, .int .i64 x.action, .int .i64 x.queue] := by rw [hW0]; exact Blk.new _ _ _
                rw [← hW0]
                clear hW0
                have hkp1 := hkp.ext hbW
                have r0 := hkr.at_ 0 _ rfl
                have r1 := hkr.at_ 1 _ rfl
                have r2 := hkr.at_ 2 _ rfl
                have r3 := hkr.at_ 3 _ rfl
                have r4 := hkr.at_ 4 _ rfl
                have r5 := hkr.at_ 5 _ rfl
                have r6 := hkr.at_ 6 _ rfl
                have r7 := hkr.at_ 7 _ rfl
                have r8 := hkr.at_ 8 _ rfl
                have q0 := hkp1.at_ 0 _ rfl
                have q1 := hkp1.at_ 1 _ rfl
                have q2 := hkp1.at_ 2 _ rfl
                have q3 := hkp1.at_ 3 _ rfl
                have q4 := hkp1.at_ 4 _ rfl
                have q5 := hkp1.at_ 5 _ rfl
                have q6 := hkp1.at_ 6 _ rfl
                have q7 := hkp1.at_ 7 _ rfl
                have q8 := hkp1.at_ 8 _ rfl
                have q9 := hkp1.at_ 9 _ rfl
                have q10 := hkp1.at_ 10 _ rfl
                have q11 := hkp1.at_ 11 _ rfl
                have q12 := hkp1.at_ 12 _ rfl
                have q13 := hkp1.at_ 13 _ rfl
                have q14 := hkp1.at_ 14 _ rfl
                have q15 := hkp1.at_ 15 _ rfl
                have s0 := ccell hbW _ _ _ d0
                have hj0 : decide ((j : Int) < 0) = false := decide_eq_false (by omega)
                have hpd := decide_eq_false (show ¬ x.prio < y.prio by omega)
                have hK1 : Below w.heap.size w W1 := ext_step hbw hbw.size hbW
                have hxt := fun t : Ext W1 => (And.intro (t.cell r0) (And.intro (t.cell r1) (And.intro (t.cell r2) (And.intro (t.cell r3) (And.intro (t.cell r4) (And.intro (t.cell r5) (And.intro (t.cell r6) (And.intro (t.cell r7) (And.intro (t.cell r8) (And.intro (t.cell q0) (And.intro (t.cell q1) (And.intro (t.cell q2) (And.intro (t.cell q3) (And.intro (t.cell q4) (And.intro (t.cell q5) (And.intro (t.cell q6) (And.intro (t.cell q7) (And.intro (t.cell q8) (And.intro (t.cell q9) (And.intro (t.cell q10) (And.intro (t.cell q11) (And.intro (t.cell q12) (And.intro (t.cell q13) (And.intro (t.cell q14) (And.intro (t.cell q15) (t.cell s0))))))))))))))))))))))))))
                clear hbW
                refine wp_region_ext_lit (by kernel_rfl) (by kernel_rfl) ?_
                repeat (go_big_quiet_step (first | (go_at_call 48; exact ext_call (hM _))))
                refine wpQuiet_nil ?_
                intro _ hw'
                obtain ⟨tq, hw''⟩ := hw'
                subst hw''
                have hkp2 := hkp1.ext tq.below
                have hk2 : Below w.heap.size w tq.wd := ext_step hK1 hK1.size tq.below
                generalize tq.wd = W2 at *
                clear hxt
                go_wp2
                go_roundw
                case rel => exact ⟨k + 1, by omega, by go_num, by rw [HP.out], hk2, hkp2⟩
                case measure => simp [intOf]; omega
      · have hkn : k = n := by omega
        subst hkn
        go_wp2
        go_ret
        exact ⟨ret_int (by rw [ruleI, if_pos h0, HN.out]), hbw⟩
set_option maxRecDepth 100000 in
set_option maxHeartbeats 8000000 in
theorem specFindRule_c (A : Option Addr) (n c : Nat) (l : List Rule) (w : World) (hn : l.length = n) (hm : n ≤ 1048576) (hr : Reads w w.heap.size 9 A n (l.flatMap Rule.cells)) (p : Packet) (hz : p.seg_body.size ≤ 1048576) :
    Calls Try.prog 14 #[.slice A n c, .agg #[.int .i64 p.dmac, .int .i64 p.smac, .int .i64 p.vlan, .int .i64 p.tos, .int .i64 p.id, .int .i64 p.ttl, .int .i64 p.sip, .int .i64 p.dip, .int .i64 p.seg_kind, .int .i64 p.seg_sport, .int .i64 p.seg_dport, .int .i64 p.seg_seq, .int .i64 p.seg_ack, .int .i64 p.seg_flags, .int .i64 p.seg_win, .string p.seg_body]] w fun e w' => e = .returned (.int .i64 (ruleI l p)) ∧ Below w.heap.size w w' := by
  have HN := Lib.hid hn
  clear hn
  cases h0 : rulesB l
  · go_enter Try.func14, Try.ntmps14
    go_wp2
    go_loopw [5, 6] (fun b i wr => i = .int .i64 0 ∧ b = .int .i64 (-1) ∧ Below w.heap.size w wr) (fun _ _ _ => 0)
    case atStart => exact ⟨rfl, rfl, by go_grown⟩
    case round =>
      obtain ⟨rfl, rfl, hbw⟩ := hrel
      have hsz := hbw.size
      by_cases hlt : 0 < n
      · go_wp2_with (go_at_call 30; refine (specRulesOk_c _ n c l _ HN.out hm (hr.to (by go_grown))).mono ?_; rintro e w1 ⟨rfl, hbW⟩; have hk1 : Below w.heap.size w w1 := ext_step (by go_grown) (by go_size) hbW; rw [h0])
        go_ret
        exact ⟨ret_int (by rw [ruleI, if_neg (by rw [h0]; decide)]), hk1⟩
      · go_wp2
        go_ret
        exact ⟨ret_int (by rw [ruleI, if_neg (by rw [h0]; decide)]), hbw⟩
  · go_enter Try.func14, Try.ntmps14
    go_wp2
    go_loopw [5, 6] (fun b i wr => ∃ k : Nat, k ≤ n ∧ i = .int .i64 k ∧ b = .int .i64 (bestR l p k) ∧ Below w.heap.size w wr ∧ Blk wr w.heap.size 41 [.int .i64 p.dmac, .int .i64 p.smac, .int .i64 p.vlan, .int .i64 p.tos, .int .i64 p.id, .int .i64 p.ttl, .int .i64 p.sip, .int .i64 p.dip, .int .i64 p.seg_kind, .int .i64 p.seg_sport, .int .i64 p.seg_dport, .int .i64 p.seg_seq, .int .i64 p.seg_ack, .int .i64 p.seg_flags, .int .i64 p.seg_win, .string p.seg_body]) (fun _ i _ => n - (intOf i).toNat)
    case atStart => exact ⟨0, Nat.zero_le _, rfl, rfl, by go_grown, Blk.new _ _ _⟩
    case round =>
      obtain ⟨k, hk, rfl, rfl, hbw, hkp⟩ := hrel
      have hsz := hbw.size
      have hpl := hkp.lt
      by_cases hlt : k < n
      · obtain ⟨b, o, x, rfl, hb, hxx, hcx⟩ := hr.el (fun _ => rfl) (by decide) HN.out hlt
        have c0 := (hbw.cell (p := ⟨b, o + k * 9, none⟩) hb).trans (by simpa using hcx 0 _ rfl)
        have c1 := (hbw.cell (p := ⟨b, o + k * 9 + 1, none⟩) hb).trans (by simpa using hcx 1 _ rfl)
        have c2 := (hbw.cell (p := ⟨b, o + k * 9 + 2, none⟩) hb).trans (by simpa using hcx 2 _ rfl)
        have c3 := (hbw.cell (p := ⟨b, o + k * 9 + 3, none⟩) hb).trans (by simpa using hcx 3 _ rfl)
        have c4 := (hbw.cell (p := ⟨b, o + k * 9 + 4, none⟩) hb).trans (by simpa using hcx 4 _ rfl)
        have c5 := (hbw.cell (p := ⟨b, o + k * 9 + 5, none⟩) hb).trans (by simpa using hcx 5 _ rfl)
        have c6 := (hbw.cell (p := ⟨b, o + k * 9 + 6, none⟩) hb).trans (by simpa using hcx 6 _ rfl)
        have c7 := (hbw.cell (p := ⟨b, o + k * 9 + 7, none⟩) hb).trans (by simpa using hcx 7 _ rfl)
        have c8 := (hbw.cell (p := ⟨b, o + k * 9 + 8, none⟩) hb).trans (by simpa using hcx 8 _ rfl)
        have HXx := Lib.hid hxx
        clear hxx hcx
        have hbd := bestR_bd l p k
        obtain ⟨B, e_B⟩ : ∃ B, bestR l p k = B := ⟨_, rfl⟩
        have HB := Lib.hid e_B
        rw [e_B] at hbd
        simp only [e_B]
        clear e_B
        have hM := fun u => specRuleMatches_c x p u hz
        cases hma : matB x p
        · simp only [hma] at hM
          as_aux_lemma =>
            have HP := Lib.hid ((best_no HXx.out hma).trans HB.out)
            go_wp2_with (go_at_call 30; refine (specRulesOk_c _ n c l _ HN.out hm (hr.to (by go_grown))).mono ?_; rintro e W1 ⟨rfl, hbW⟩; have hk1 : Below w.heap.size w W1 := ext_step (by go_grown) (by go_size) hbW; rw [h0])
            have hkp1 := hkp.ext hbW
            have r0 := ccell hbW _ _ _ c0
            have r1 := ccell hbW _ _ _ c1
            have r2 := ccell hbW _ _ _ c2
            have r3 := ccell hbW _ _ _ c3
            have r4 := ccell hbW _ _ _ c4
            have r5 := ccell hbW _ _ _ c5
            have r6 := ccell hbW _ _ _ c6
            have r7 := ccell hbW _ _ _ c7
            have r8 := ccell hbW _ _ _ c8
            have q0 := hkp1.at_ 0 _ rfl
            have q1 := hkp1.at_ 1 _ rfl
            have q2 := hkp1.at_ 2 _ rfl
            have q3 := hkp1.at_ 3 _ rfl
            have q4 := hkp1.at_ 4 _ rfl
            have q5 := hkp1.at_ 5 _ rfl
            have q6 := hkp1.at_ 6 _ rfl
            have q7 := hkp1.at_ 7 _ rfl
            have q8 := hkp1.at_ 8 _ rfl
            have q9 := hkp1.at_ 9 _ rfl
            have q10 := hkp1.at_ 10 _ rfl
            have q11 := hkp1.at_ 11 _ rfl
            have q12 := hkp1.at_ 12 _ rfl
            have q13 := hkp1.at_ 13 _ rfl
            have q14 := hkp1.at_ 14 _ rfl
            have q15 := hkp1.at_ 15 _ rfl
            have hK1 : Below w.heap.size w W1 := ext_step hbw hbw.size hbW
            have hxt := fun t : Ext W1 => (And.intro (t.cell r0) (And.intro (t.cell r1) (And.intro (t.cell r2) (And.intro (t.cell r3) (And.intro (t.cell r4) (And.intro (t.cell r5) (And.intro (t.cell r6) (And.intro (t.cell r7) (And.intro (t.cell r8) (And.intro (t.cell q0) (And.intro (t.cell q1) (And.intro (t.cell q2) (And.intro (t.cell q3) (And.intro (t.cell q4) (And.intro (t.cell q5) (And.intro (t.cell q6) (And.intro (t.cell q7) (And.intro (t.cell q8) (And.intro (t.cell q9) (And.intro (t.cell q10) (And.intro (t.cell q11) (And.intro (t.cell q12) (And.intro (t.cell q13) (And.intro (t.cell q14) (t.cell q15)))))))))))))))))))))))))
            clear hbW
            refine wp_region_ext_lit (by kernel_rfl) (by kernel_rfl) ?_
            repeat (go_big_quiet_step (first | (go_at_call 31; exact ext_call (hM _))))
            refine wpQuiet_nil ?_
            intro _ hw'
            obtain ⟨tq, hw''⟩ := hw'
            subst hw''
            have hkp2 := hkp1.ext tq.below
            have hk2 : Below w.heap.size w tq.wd := ext_step hK1 hK1.size tq.below
            generalize tq.wd = W2 at *
            clear hxt
            go_wp2
            go_roundw
            case rel => exact ⟨k + 1, by omega, by go_num, by rw [HP.out], hk2, hkp2⟩
            case measure => simp [intOf]; omega
        · simp only [hma] at hM
          by_cases hb0 : B < 0
          · obtain rfl : B = -1 := by omega
            as_aux_lemma =>
              have HP := Lib.hid (best_0 HXx.out hma (by rw [HB.out]; decide))
              go_wp2_with (go_at_call 30; refine (specRulesOk_c _ n c l _ HN.out hm (hr.to (by go_grown))).mono ?_; rintro e W1 ⟨rfl, hbW⟩; have hk1 : Below w.heap.size w W1 := ext_step (by go_grown) (by go_size) hbW; rw [h0])
              have hkp1 := hkp.ext hbW
              have r0 := ccell hbW _ _ _ c0
              have r1 := ccell hbW _ _ _ c1
              have r2 := ccell hbW _ _ _ c2
              have r3 := ccell hbW _ _ _ c3
              have r4 := ccell hbW _ _ _ c4
              have r5 := ccell hbW _ _ _ c5
              have r6 := ccell hbW _ _ _ c6
              have r7 := ccell hbW _ _ _ c7
              have r8 := ccell hbW _ _ _ c8
              have q0 := hkp1.at_ 0 _ rfl
              have q1 := hkp1.at_ 1 _ rfl
              have q2 := hkp1.at_ 2 _ rfl
              have q3 := hkp1.at_ 3 _ rfl
              have q4 := hkp1.at_ 4 _ rfl
              have q5 := hkp1.at_ 5 _ rfl
              have q6 := hkp1.at_ 6 _ rfl
              have q7 := hkp1.at_ 7 _ rfl
              have q8 := hkp1.at_ 8 _ rfl
              have q9 := hkp1.at_ 9 _ rfl
              have q10 := hkp1.at_ 10 _ rfl
              have q11 := hkp1.at_ 11 _ rfl
              have q12 := hkp1.at_ 12 _ rfl
              have q13 := hkp1.at_ 13 _ rfl
              have q14 := hkp1.at_ 14 _ rfl
              have q15 := hkp1.at_ 15 _ rfl
              have hK1 : Below w.heap.size w W1 := ext_step hbw hbw.size hbW
              have hxt := fun t : Ext W1 => (And.intro (t.cell r0) (And.intro (t.cell r1) (And.intro (t.cell r2) (And.intro (t.cell r3) (And.intro (t.cell r4) (And.intro (t.cell r5) (And.intro (t.cell r6) (And.intro (t.cell r7) (And.intro (t.cell r8) (And.intro (t.cell q0) (And.intro (t.cell q1) (And.intro (t.cell q2) (And.intro (t.cell q3) (And.intro (t.cell q4) (And.intro (t.cell q5) (And.intro (t.cell q6) (And.intro (t.cell q7) (And.intro (t.cell q8) (And.intro (t.cell q9) (And.intro (t.cell q10) (And.intro (t.cell q11) (And.intro (t.cell q12) (And.intro (t.cell q13) (And.intro (t.cell q14) (t.cell q15)))))))))))))))))))))))))
              clear hbW
              refine wp_region_ext_lit (by kernel_rfl) (by kernel_rfl) ?_
              repeat (go_big_quiet_step (first | (go_at_call 31; exact ext_call (hM _))))
              refine wpQuiet_nil ?_
              intro _ hw'
              obtain ⟨tq, hw''⟩ := hw'
              subst hw''
              have hkp2 := hkp1.ext tq.below
              have hk2 : Below w.heap.size w tq.wd := ext_step hK1 hK1.size tq.below
              generalize tq.wd = W2 at *
              clear hxt
              go_wp2
              go_roundw
              case rel => exact ⟨k + 1, by omega, by go_num, by rw [HP.out], hk2, hkp2⟩
              case measure => simp [intOf]; omega
          · obtain ⟨j, rfl⟩ := Int.eq_ofNat_of_zero_le (show 0 ≤ B by omega)
            have hjn : j < n := by omega
            obtain ⟨b2, o2, y, hA2, hb2, hxy, hcy⟩ := hr.el (fun _ => rfl) (by decide) HN.out hjn
            injection hA2 with hA2
            injection hA2 with hA3 hA4
            subst hA3
            subst hA4
            have d0 := (hbw.cell (p := ⟨b, o + j * 9, none⟩) hb2).trans (by simpa using hcy 0 _ rfl)
            have d1 := (hbw.cell (p := ⟨b, o + j * 9 + 1, none⟩) hb2).trans (by simpa using hcy 1 _ rfl)
            have d2 := (hbw.cell (p := ⟨b, o + j * 9 + 2, none⟩) hb2).trans (by simpa using hcy 2 _ rfl)
            have d3 := (hbw.cell (p := ⟨b, o + j * 9 + 3, none⟩) hb2).trans (by simpa using hcy 3 _ rfl)
            have d4 := (hbw.cell (p := ⟨b, o + j * 9 + 4, none⟩) hb2).trans (by simpa using hcy 4 _ rfl)
            have d5 := (hbw.cell (p := ⟨b, o + j * 9 + 5, none⟩) hb2).trans (by simpa using hcy 5 _ rfl)
            have d6 := (hbw.cell (p := ⟨b, o + j * 9 + 6, none⟩) hb2).trans (by simpa using hcy 6 _ rfl)
            have d7 := (hbw.cell (p := ⟨b, o + j * 9 + 7, none⟩) hb2).trans (by simpa using hcy 7 _ rfl)
            have d8 := (hbw.cell (p := ⟨b, o + j * 9 + 8, none⟩) hb2).trans (by simpa using hcy 8 _ rfl)
            have HXy := Lib.hid hxy
            clear hxy hcy hb2
            by_cases hpr : x.prio < y.prio
            · as_aux_lemma =>
                have HP := Lib.hid (best_lt HXx.out hma HB.out HXy.out hpr)
                go_wp2_with (go_at_call 30; refine (specRulesOk_c _ n c l _ HN.out hm (hr.to (by go_grown))).mono ?_; rintro e W1 ⟨rfl, hbW⟩; have hk1 : Below w.heap.size w W1 := ext_step (by go_grown) (by go_size) hbW; rw [h0])
                have hkp1 := hkp.ext hbW
                have r0 := ccell hbW _ _ _ c0
                have r1 := ccell hbW _ _ _ c1
                have r2 := ccell hbW _ _ _ c2
                have r3 := ccell hbW _ _ _ c3
                have r4 := ccell hbW _ _ _ c4
                have r5 := ccell hbW _ _ _ c5
                have r6 := ccell hbW _ _ _ c6
                have r7 := ccell hbW _ _ _ c7
                have r8 := ccell hbW _ _ _ c8
                have q0 := hkp1.at_ 0 _ rfl
                have q1 := hkp1.at_ 1 _ rfl
                have q2 := hkp1.at_ 2 _ rfl
                have q3 := hkp1.at_ 3 _ rfl
                have q4 := hkp1.at_ 4 _ rfl
                have q5 := hkp1.at_ 5 _ rfl
                have q6 := hkp1.at_ 6 _ rfl
                have q7 := hkp1.at_ 7 _ rfl
                have q8 := hkp1.at_ 8 _ rfl
                have q9 := hkp1.at_ 9 _ rfl
                have q10 := hkp1.at_ 10 _ rfl
                have q11 := hkp1.at_ 11 _ rfl
                have q12 := hkp1.at_ 12 _ rfl
                have q13 := hkp1.at_ 13 _ rfl
                have q14 := hkp1.at_ 14 _ rfl
                have q15 := hkp1.at_ 15 _ rfl
                have s0 := ccell hbW _ _ _ d0
                have hj0 : decide ((j : Int) < 0) = false := decide_eq_false (by omega)
                have hpd := decide_eq_true (show x.prio < y.prio by omega)
                have hK1 : Below w.heap.size w W1 := ext_step hbw hbw.size hbW
                have hxt := fun t : Ext W1 => (And.intro (t.cell r0) (And.intro (t.cell r1) (And.intro (t.cell r2) (And.intro (t.cell r3) (And.intro (t.cell r4) (And.intro (t.cell r5) (And.intro (t.cell r6) (And.intro (t.cell r7) (And.intro (t.cell r8) (And.intro (t.cell q0) (And.intro (t.cell q1) (And.intro (t.cell q2) (And.intro (t.cell q3) (And.intro (t.cell q4) (And.intro (t.cell q5) (And.intro (t.cell q6) (And.intro (t.cell q7) (And.intro (t.cell q8) (And.intro (t.cell q9) (And.intro (t.cell q10) (And.intro (t.cell q11) (And.intro (t.cell q12) (And.intro (t.cell q13) (And.intro (t.cell q14) (And.intro (t.cell q15) (t.cell s0))))))))))))))))))))))))))
                clear hbW
                refine wp_region_ext_lit (by kernel_rfl) (by kernel_rfl) ?_
                repeat (go_big_quiet_step (first | (go_at_call 31; exact ext_call (hM _))))
                refine wpQuiet_nil ?_
                intro _ hw'
                obtain ⟨tq, hw''⟩ := hw'
                subst hw''
                have hkp2 := hkp1.ext tq.below
                have hk2 : Below w.heap.size w tq.wd := ext_step hK1 hK1.size tq.below
                generalize tq.wd = W2 at *
                clear hxt
                go_wp2
                go_roundw
                case rel => exact ⟨k + 1, by omega, by go_num, by rw [HP.out], hk2, hkp2⟩
                case measure => simp [intOf]; omega
            · as_aux_lemma =>
                have HP := Lib.hid (best_ge HXx.out HB.out HXy.out hpr)
                go_wp2_with (go_at_call 30; refine (specRulesOk_c _ n c l _ HN.out hm (hr.to (by go_grown))).mono ?_; rintro e W1 ⟨rfl, hbW⟩; have hk1 : Below w.heap.size w W1 := ext_step (by go_grown) (by go_size) hbW; rw [h0])
                have hkp1 := hkp.ext hbW
                have r0 := ccell hbW _ _ _ c0
                have r1 := ccell hbW _ _ _ c1
                have r2 := ccell hbW _ _ _ c2
                have r3 := ccell hbW _ _ _ c3
                have r4 := ccell hbW _ _ _ c4
                have r5 := ccell hbW _ _ _ c5
                have r6 := ccell hbW _ _ _ c6
                have r7 := ccell hbW _ _ _ c7
                have r8 := ccell hbW _ _ _ c8
                have q0 := hkp1.at_ 0 _ rfl
                have q1 := hkp1.at_ 1 _ rfl
                have q2 := hkp1.at_ 2 _ rfl
                have q3 := hkp1.at_ 3 _ rfl
                have q4 := hkp1.at_ 4 _ rfl
                have q5 := hkp1.at_ 5 _ rfl
                have q6 := hkp1.at_ 6 _ rfl
                have q7 := hkp1.at_ 7 _ rfl
                have q8 := hkp1.at_ 8 _ rfl
                have q9 := hkp1.at_ 9 _ rfl
                have q10 := hkp1.at_ 10 _ rfl
                have q11 := hkp1.at_ 11 _ rfl
                have q12 := hkp1.at_ 12 _ rfl
                have q13 := hkp1.at_ 13 _ rfl
                have q14 := hkp1.at_ 14 _ rfl
                have q15 := hkp1.at_ 15 _ rfl
                have s0 := ccell hbW _ _ _ d0
                have hj0 : decide ((j : Int) < 0) = false := decide_eq_false (by omega)
                have hpd := decide_eq_false (show ¬ x.prio < y.prio by omega)
                have hK1 : Below w.heap.size w W1 := ext_step hbw hbw.size hbW
                have hxt := fun t : Ext W1 => (And.intro (t.cell r0) (And.intro (t.cell r1) (And.intro (t.cell r2) (And.intro (t.cell r3) (And.intro (t.cell r4) (And.intro (t.cell r5) (And.intro (t.cell r6) (And.intro (t.cell r7) (And.intro (t.cell r8) (And.intro (t.cell q0) (And.intro (t.cell q1) (And.intro (t.cell q2) (And.intro (t.cell q3) (And.intro (t.cell q4) (And.intro (t.cell q5) (And.intro (t.cell q6) (And.intro (t.cell q7) (And.intro (t.cell q8) (And.intro (t.cell q9) (And.intro (t.cell q10) (And.intro (t.cell q11) (And.intro (t.cell q12) (And.intro (t.cell q13) (And.intro (t.cell q14) (And.intro (t.cell q15) (t.cell s0))))))))))))))))))))))))))
                clear hbW
                refine wp_region_ext_lit (by kernel_rfl) (by kernel_rfl) ?_
                repeat (go_big_quiet_step (first | (go_at_call 31; exact ext_call (hM _))))
                refine wpQuiet_nil ?_
                intro _ hw'
                obtain ⟨tq, hw''⟩ := hw'
                subst hw''
                have hkp2 := hkp1.ext tq.below
                have hk2 : Below w.heap.size w tq.wd := ext_step hK1 hK1.size tq.below
                generalize tq.wd = W2 at *
                clear hxt
                go_wp2
                go_roundw
                case rel => exact ⟨k + 1, by omega, by go_num, by rw [HP.out], hk2, hkp2⟩
                case measure => simp [intOf]; omega
      · have hkn : k = n := by omega
        subst hkn
        go_wp2
        go_ret
        exact ⟨ret_int (by rw [ruleI, if_pos h0, HN.out]), hbw⟩
end Go.Proofs.Ytkfekgmdjemkbaa
