/- The walk of laws.FnOneQueue. -/
import Derived.Test.YtkfekgmdjemkbaaDrawSt4
import Derived.Test.YtkfekgmdjemkbaaStQ
import Derived.Test.YtkfekgmdjemkbaaOpenA
namespace Go.Proofs.Ytkfekgmdjemkbaa
set_option linter.unusedSimpArgs false
set_option linter.unusedVariables false
open Go.RowKit Go.ChangeShapes Go.WideShapes
def bI (b : Bool) : Int := if b then 1 else 0
theorem bI_bd (b : Bool) : 0 ≤ bI b ∧ bI b ≤ 1 := by cases b <;> decide
theorem btoi_c (b : Bool) (w : World) :
    Calls Try.prog 9 #[.bool b] w fun e w' => e = .returned (.int .i64 (bI b)) ∧ w = w' := by
  cases b
  · go_enter Try.func9, Try.ntmps9
    go_wp2
    go_ret
    exact ⟨rfl, rfl⟩
  · go_enter Try.func9, Try.ntmps9
    go_wp2
    go_ret
    exact ⟨rfl, rfl⟩
theorem sumQ_le {F : Packet → Int} {lp : List Packet} (h : lp.length ≤ 8) : ∀ k, sumQ F lp k ≤ 8 * k
  | 0 => by simp [sumQ]
  | k + 1 => by
    have h1 := sumQ_le (F := F) h k
    have h2 := List.length_filter_le (fun p => F p == (k : Int)) lp
    rw [sumQ]; omega
theorem dropN_next {F : Packet → Int} {lp : List Packet} {k : Nat} {p : Packet} (h : lp[k]? = some p) : (dropN F (lp.take (k + 1)) : Int) = dropN F (lp.take k) + bI (F p == -1) := by
  rw [dropN, dropN, take_next h, List.filter_append, List.length_append]
  cases e : (F p == -1) <;> simp [e, bI]
theorem dropN_le (F : Packet → Int) (lp : List Packet) (k : Nat) : dropN F (lp.take k) ≤ k :=
  Nat.le_trans (List.length_filter_le _ _) (by rw [List.length_take]; omega)
theorem sup_size2 {p : Packet} (h : superB p = true) : p.seg_body.size ≤ 1048576 := by
  have := (segB_t (sup_seg h)).1.2.2
  omega
set_option maxRecDepth 100000 in
set_option maxHeartbeats 4000000 in
theorem fnOneQueue_walk (A : Option Addr) (n c : Nat) (l : List Int) (w : World) (hs : SlBytes w A n c l) :
    Calls Try.prog 3 #[.slice A n c] w fun e w' => e = .returned (.bool true) ∧ Below w.heap.size w w' := by
  obtain ⟨⟨hn, hnc, hc, hr⟩, hok⟩ := hs
  have hm : n ≤ 9223372036854775807 := by omega
  by_cases hbig : (1048576 : Int) < n
  · go_enter Try.func3, Try.ntmps3
    go_wp2_with fail
    refine (big_c _ _ _ _).mono ?_
    rintro e wq ⟨rfl, rfl⟩
    go_wp2
    go_ret
    exact ⟨rfl, Below.refl _ _⟩
  · have hm2 : n ≤ 1048576 := by omega
    go_enter Try.func3, Try.ntmps3
    go_wp2_with fail
    refine (big_c _ _ _ _).mono ?_
    rintro e wq ⟨rfl, rfl⟩
    have k0 : Below w.heap.size w w := Below.refl _ _
    have p0 : w.heap.size ≤ w.heap.size := Nat.le_refl _
    have r_u := hr
    have hn_u := hn
    go_wp2_with fail
    refine (drawSteering_c A n c l _ hn_u hm2 (r_u.more (by omega)) hok).mono ?_
    rintro e w1 ⟨rs, ls, key, tb, qn, v, lp, A_p, c_p, ⟨hsb, hq1, hq4, hrl, hll, htl, hp1, hp8, hpo⟩, rfl, ⟨A_r, c_r, A_s, c_s, A_t, c_t, rfl, o_r, o_s, o_t⟩, o_p, hb⟩
    have k1 : Below w.heap.size w w1 := ext_step k0 (by omega) hb
    have p1 := hb.size
    replace r_u := r_u.below (hb.mono (by omega))
    have r_r := Reads.of_own o_r
    clear o_r
    have r_s := Reads.of_own o_s
    clear o_s
    have r_t := Reads.of_own o_t
    clear o_t
    have r_p := Reads.of_own o_p
    clear o_p
    clear hb
    have HS := Lib.hid hsb
    have hl9 : ls.length ≤ 8 := by omega
    clear hsb hll
    go_wp2_with fail
    obtain ⟨w2, hW0⟩ : ∃ W, W = (w1.alloc (.cells #[.slice A_r rs.length c_r, .slice A_s ls.length c_s, .string key, .slice A_t tb.length c_t] 32)) := ⟨_, rfl⟩
    have hb : Below w1.heap.size w1 w2 := by rw [hW0]; go_grown
    have hkz : Blk w2 w1.heap.size 32 [.slice A_r rs.length c_r, .slice A_s ls.length c_s, .string key, .slice A_t tb.length c_t] := by rw [hW0]; exact Blk.new _ _ _
    rw [← hW0]
    clear hW0
    have bl0 := hkz.lt
    have k2 : Below w.heap.size w w2 := ext_step k1 (by omega) hb
    have p2 := hb.size
    replace r_u := r_u.below (hb.mono (by omega))
    replace r_r := r_r.below (hb.mono (by omega))
    replace r_s := r_s.below (hb.mono (by omega))
    replace r_t := r_t.below (hb.mono (by omega))
    replace r_p := r_p.below (hb.mono (by omega))
    have bx0_0 := hkz.at_ 0 _ rfl
    have bx0_1 := hkz.at_ 1 _ rfl
    have bx0_2 := hkz.at_ 2 _ rfl
    have bx0_3 := hkz.at_ 3 _ rfl
    clear hb hkz
    obtain ⟨Q, rfl⟩ := Int.eq_ofNat_of_zero_le (show 0 ≤ qn by omega)
    have hQ4 : Q ≤ 4 := by omega
    have hbd := fun p => steer_bd HS.out p
    obtain ⟨F, hF⟩ : ∃ F : Packet → Int, ∀ p, steerI rs ls key tb (Q : Int) p = F p := ⟨_, fun _ => rfl⟩
    simp only [hF] at hbd
    have hst : ∀ (p : Packet) (u : World), superB p = true → Below w2.heap.size w2 u → Calls Try.prog 8 #[.agg #[.slice A_r rs.length c_r, .slice A_s ls.length c_s, .string key, .slice A_t tb.length c_t], .int .i64 (Q : Int), .agg #[.int .i64 p.dmac, .int .i64 p.smac, .int .i64 p.vlan, .int .i64 p.tos, .int .i64 p.id, .int .i64 p.ttl, .int .i64 p.sip, .int .i64 p.dip, .int .i64 p.seg_kind, .int .i64 p.seg_sport, .int .i64 p.seg_dport, .int .i64 p.seg_seq, .int .i64 p.seg_ack, .int .i64 p.seg_flags, .int .i64 p.seg_win, .string p.seg_body]] u fun e w' => e = .returned (.int .i64 (F p)) ∧ Below u.heap.size u w' := by
      intro p u hp hB
      have hz := hB.size
      have h := implSteerPacket_c A_r rs.length c_r rs A_s ls.length c_s ls key A_t tb.length c_t tb (Q : Int) u rfl (by omega) ((r_r.below (hB.mono (by omega))).more (by omega)) rfl (by omega) ((r_s.below (hB.mono (by omega))).more (by omega)) rfl (by omega) ((r_t.below (hB.mono (by omega))).more (by omega)) p (sup_size2 hp)
      rw [hF] at h
      exact h
    have hqp : ∀ (k : Nat) (u : World), Below w2.heap.size w2 u → Calls Try.prog 7 #[.agg #[.slice A_r rs.length c_r, .slice A_s ls.length c_s, .string key, .slice A_t tb.length c_t], .int .i64 (Q : Int), .slice A_p lp.length c_p, .int .i64 (k : Int)] u fun e w' => ∃ A9 c9, e = .returned (.slice A9 (lp.filter fun p => F p == (k : Int)).length c9) ∧ Below u.heap.size u w' := by
      intro k u hB
      have hz := hB.size
      have hL : qpL rs ls key tb (Q : Int) (k : Int) lp = lp.filter fun p => F p == (k : Int) := by
        rw [qpL, if_pos (by omega)]
        congr 1
        funext p
        rw [qpF, hF]
      have h := implQueuePackets_c A_r rs.length c_r rs A_s ls.length c_s ls key A_t tb.length c_t tb (Q : Int) A_p lp.length c_p lp (k : Int) u rfl (by omega) ((r_r.below (hB.mono (by omega))).more (by omega)) rfl (by omega) ((r_s.below (hB.mono (by omega))).more (by omega)) rfl (by omega) ((r_t.below (hB.mono (by omega))).more (by omega)) rfl (by omega) ((r_p.below (hB.mono (by omega))).more (by omega)) (fun p hp => sup_size2 (hpo p hp))
      rw [hL] at h
      refine h.mono ?_
      rintro e w9 ⟨A9, c9, h1, _, h2⟩
      exact ⟨A9, c9, h1, h2⟩
    have hok9 : ∀ (u : World), Below w2.heap.size w2 u → Calls Try.prog 11 #[.agg #[.slice A_r rs.length c_r, .slice A_s ls.length c_s, .string key, .slice A_t tb.length c_t], .int .i64 (Q : Int)] u fun e w' => e = .returned (.bool true) ∧ Below u.heap.size u w' := by
      intro u hB
      have hz := hB.size
      have h := implSteeringOk_c A_r rs.length c_r rs A_s ls.length c_s ls key A_t tb.length c_t tb (Q : Int) u rfl (by omega) ((r_r.below (hB.mono (by omega))).more (by omega)) rfl (by omega) ((r_s.below (hB.mono (by omega))).more (by omega)) rfl (by omega) ((r_t.below (hB.mono (by omega))).more (by omega))
      rw [HS.out] at h
      exact h
    have hsame : ∀ p ∈ lp, ∀ x ∈ lp, flowP x = flowP p → x.vlan = p.vlan → F x = F p := fun p hp x hx h1 h2 => by rw [← hF, ← hF]; exact steer_same (hpo x hx) (hpo p hp) h1 h2 _ _ _ _ _
    have hone := Lib.hid (one_queue F Q lp (fun p _ => hbd p))
    clear hF HS r_r r_s r_t
    go_wp2_with fail
    go_loopw [6, 7] (fun s i wr => ∃ k : Nat, s = .int .i64 (sumQ F lp k : Nat) ∧ i = .int .i64 (k : Int) ∧ k ≤ Q ∧ Below w2.heap.size w2 wr) (fun _ i _ => Q - (intOf i).toNat)
    case atStart => exact ⟨0, rfl, rfl, Nat.zero_le _, Below.refl _ _⟩
    case round =>
      obtain ⟨k, rfl, rfl, hk, hbw⟩ := hrel
      have hsz := hbw.size
      have b0 := ccell hbw _ _ _ bx0_0
      have b1 := ccell hbw _ _ _ bx0_1
      have b2 := ccell hbw _ _ _ bx0_2
      have b3 := ccell hbw _ _ _ bx0_3
      by_cases hlt : k < Q
      · have l1 : (k : Int) < (Q : Int) := by omega
        have hn1 : sumQ F lp (k + 1) = sumQ F lp k + (lp.filter fun p => F p == (k : Int)).length := rfl
        have hs8 := sumQ_le (F := F) hp8 (k + 1)
        have HN1 := Lib.hid hn1
        have hsm : sumQ F lp k + (lp.filter fun p => F p == (k : Int)).length ≤ 1000 := by omega
        go_wp2_with fail
        refine (hqp k _ hbw).mono ?_
        rintro e w9 ⟨A9, c9, rfl, hb⟩
        have hk9 := ext_step hbw hbw.size hb
        generalize (lp.filter fun p => F p == (k : Int)).length = M at *
        clear hn1 hb
        generalize hS : sumQ F lp k = S at *
        clear hs8
        have ew : IntKind.i64.wrap ((S : Int) + (M : Int)) = (S : Int) + (M : Int) := IntWalk.i64_in _ ⟨by omega, by omega⟩
        go_wp2
        go_roundw
        case rel => exact ⟨k + 1, congrArg (Value.int .i64) (by rw [HN1.out]; omega), by go_num, by omega, hk9⟩
        case measure => simp [intOf]; omega
      · obtain rfl : k = Q := by omega
        clear hqp
        have hs8 := sumQ_le (F := F) hp8 k
        have hone2 := hone.out
        generalize hS : sumQ F lp k = S at *
        go_wp2_with fail
        go_loopw [8, 9] (fun d i wr => ∃ m2 : Nat, d = .int .i64 (dropN F (lp.take m2) : Nat) ∧ i = .int .i64 (m2 : Int) ∧ m2 ≤ lp.length ∧ Below w2.heap.size w2 wr) (fun _ i _ => lp.length - (intOf i).toNat)
        case atStart => exact ⟨0, rfl, rfl, Nat.zero_le _, hbw⟩
        case round =>
          clear hbw hsz b0 b1 b2 b3
          obtain ⟨m2, rfl, rfl, hk2, hbw⟩ := hrel
          have hsz := hbw.size
          have b0 := ccell hbw _ _ _ bx0_0
          have b1 := ccell hbw _ _ _ bx0_1
          have b2 := ccell hbw _ _ _ bx0_2
          have b3 := ccell hbw _ _ _ bx0_3
          by_cases hlt2 : m2 < lp.length
          · skip
            obtain ⟨b, o, p, hAe, hbl, hx, hc⟩ := (r_p.more (by omega) : Reads w2 w2.heap.size 16 A_p lp.length (lp.flatMap Packet.cells)).el (cells := Packet.cells) (fun _ => rfl) (by decide) rfl hlt2
            subst hAe
            have c0 := (hbw.cell (p := ⟨b, o + m2 * 16, none⟩) hbl).trans (by simpa using hc 0 _ rfl)
            have c1 := (hbw.cell (p := ⟨b, o + m2 * 16 + 1, none⟩) hbl).trans (by simpa using hc 1 _ rfl)
            have c2 := (hbw.cell (p := ⟨b, o + m2 * 16 + 2, none⟩) hbl).trans (by simpa using hc 2 _ rfl)
            have c3 := (hbw.cell (p := ⟨b, o + m2 * 16 + 3, none⟩) hbl).trans (by simpa using hc 3 _ rfl)
            have c4 := (hbw.cell (p := ⟨b, o + m2 * 16 + 4, none⟩) hbl).trans (by simpa using hc 4 _ rfl)
            have c5 := (hbw.cell (p := ⟨b, o + m2 * 16 + 5, none⟩) hbl).trans (by simpa using hc 5 _ rfl)
            have c6 := (hbw.cell (p := ⟨b, o + m2 * 16 + 6, none⟩) hbl).trans (by simpa using hc 6 _ rfl)
            have c7 := (hbw.cell (p := ⟨b, o + m2 * 16 + 7, none⟩) hbl).trans (by simpa using hc 7 _ rfl)
            have c8 := (hbw.cell (p := ⟨b, o + m2 * 16 + 8, none⟩) hbl).trans (by simpa using hc 8 _ rfl)
            have c9 := (hbw.cell (p := ⟨b, o + m2 * 16 + 9, none⟩) hbl).trans (by simpa using hc 9 _ rfl)
            have c10 := (hbw.cell (p := ⟨b, o + m2 * 16 + 10, none⟩) hbl).trans (by simpa using hc 10 _ rfl)
            have c11 := (hbw.cell (p := ⟨b, o + m2 * 16 + 11, none⟩) hbl).trans (by simpa using hc 11 _ rfl)
            have c12 := (hbw.cell (p := ⟨b, o + m2 * 16 + 12, none⟩) hbl).trans (by simpa using hc 12 _ rfl)
            have c13 := (hbw.cell (p := ⟨b, o + m2 * 16 + 13, none⟩) hbl).trans (by simpa using hc 13 _ rfl)
            have c14 := (hbw.cell (p := ⟨b, o + m2 * 16 + 14, none⟩) hbl).trans (by simpa using hc 14 _ rfl)
            have c15 := (hbw.cell (p := ⟨b, o + m2 * 16 + 15, none⟩) hbl).trans (by simpa using hc 15 _ rfl)
            have hpm := List.mem_of_getElem? hx
            have hdn := dropN_next (F := F) hx
            have HDN := Lib.hid hdn
            have hd8 := dropN_le F lp m2
            have hpb := hbd p
            have hps := hpo p hpm
            have HXp := Lib.hid hx
            clear hx hc hdn
            have hxt := fun t : Ext wr => (And.intro (t.cell b0) (And.intro (t.cell b1) (And.intro (t.cell b2) (And.intro (t.cell b3) (And.intro (t.cell c0) (And.intro (t.cell c1) (And.intro (t.cell c2) (And.intro (t.cell c3) (And.intro (t.cell c4) (And.intro (t.cell c5) (And.intro (t.cell c6) (And.intro (t.cell c7) (And.intro (t.cell c8) (And.intro (t.cell c9) (And.intro (t.cell c10) (And.intro (t.cell c11) (And.intro (t.cell c12) (And.intro (t.cell c13) (And.intro (t.cell c14) (t.cell c15))))))))))))))))))))
            have l1 : (m2 : Int) < (lp.length : Int) := by omega
            go_wp2_with fail
            have hBx := fun t : Ext wr => ext_step hbw hbw.size t.below
            refine wp_region_ext_lit (by kernel_rfl) (by kernel_rfl) ?_
            repeat (go_big_quiet_step (((go_at_call 8; exact ext_call (hst p _ hps (hBx _))))))
            refine wpQuiet_nil ?_
            intro _ hw'
            obtain ⟨tq, hw''⟩ := hw'
            subst hw''
            have hk1 : Below w2.heap.size w2 tq.wd := ext_step hbw hbw.size tq.below
            clear hxt hBx
            generalize hW0 : tq.wd = w20 at *
            clear hW0 b0 b1 b2 b3 c0 c1 c2 c3 c4 c5 c6 c7 c8 c9 c10 c11 c12 c13 c14 c15
            obtain ⟨db, hdb⟩ : ∃ d, (F p == -1) = d := ⟨_, rfl⟩
            have hdn := HDN.out
            rw [hdb] at hdn
            have HDN2 := Lib.hid hdn
            have hbi := bI_bd db
            generalize hD : dropN F (lp.take m2) = D at *
            clear HDN hD hdn
            have ew2 : IntKind.i64.wrap ((D : Int) + bI db) = (D : Int) + bI db := IntWalk.i64_in _ ⟨by omega, by omega⟩
            have l2 : ¬ F p < -1 := by omega
            have l3 : ¬ (k : Int) ≤ F p := by omega
            go_wp2_with fail
            refine (btoi_c db _).mono ?_
            rintro e w_ ⟨rfl, rfl⟩
            go_wp2_with fail
            go_loopw [11] (fun i wr => ∃ n2 : Nat, i = .int .i64 (n2 : Int) ∧ n2 ≤ m2 ∧ Below w2.heap.size w2 wr) (fun i _ => m2 - (intOf i).toNat)
            case atStart => exact ⟨0, rfl, Nat.zero_le _, hk1⟩
            case round =>
              clear hbw hsz hk1 w20
              obtain ⟨n2, rfl, hj2, hbw⟩ := hrel
              have hsz := hbw.size
              by_cases hlt3 : n2 < m2
              · skip
                have b0 := ccell hbw _ _ _ bx0_0
                have b1 := ccell hbw _ _ _ bx0_1
                have b2 := ccell hbw _ _ _ bx0_2
                have b3 := ccell hbw _ _ _ bx0_3
                have l4 : (n2 : Int) < (m2 : Int) := by omega
                have l5 : (n2 : Int) < (lp.length : Int) := by omega
                obtain ⟨b9, o9, p9, hA9, hbl9, hx9, hc9⟩ := (r_p.more (by omega) : Reads w2 w2.heap.size 16 (some ⟨b, o, none⟩) lp.length (lp.flatMap Packet.cells)).el (cells := Packet.cells) (fun _ => rfl) (by decide) rfl hlt2
                obtain rfl : p = p9 := by have h9 := HXp.out; rw [h9] at hx9; injection hx9
                injection hA9 with hA9
                injection hA9 with hA3 hA4
                subst hA3
                subst hA4
                have c0 := (hbw.cell (p := ⟨b, o + m2 * 16, none⟩) hbl9).trans (by simpa using hc9 0 _ rfl)
                have c1 := (hbw.cell (p := ⟨b, o + m2 * 16 + 1, none⟩) hbl9).trans (by simpa using hc9 1 _ rfl)
                have c2 := (hbw.cell (p := ⟨b, o + m2 * 16 + 2, none⟩) hbl9).trans (by simpa using hc9 2 _ rfl)
                have c3 := (hbw.cell (p := ⟨b, o + m2 * 16 + 3, none⟩) hbl9).trans (by simpa using hc9 3 _ rfl)
                have c4 := (hbw.cell (p := ⟨b, o + m2 * 16 + 4, none⟩) hbl9).trans (by simpa using hc9 4 _ rfl)
                have c5 := (hbw.cell (p := ⟨b, o + m2 * 16 + 5, none⟩) hbl9).trans (by simpa using hc9 5 _ rfl)
                have c6 := (hbw.cell (p := ⟨b, o + m2 * 16 + 6, none⟩) hbl9).trans (by simpa using hc9 6 _ rfl)
                have c7 := (hbw.cell (p := ⟨b, o + m2 * 16 + 7, none⟩) hbl9).trans (by simpa using hc9 7 _ rfl)
                have c8 := (hbw.cell (p := ⟨b, o + m2 * 16 + 8, none⟩) hbl9).trans (by simpa using hc9 8 _ rfl)
                have c9 := (hbw.cell (p := ⟨b, o + m2 * 16 + 9, none⟩) hbl9).trans (by simpa using hc9 9 _ rfl)
                have c10 := (hbw.cell (p := ⟨b, o + m2 * 16 + 10, none⟩) hbl9).trans (by simpa using hc9 10 _ rfl)
                have c11 := (hbw.cell (p := ⟨b, o + m2 * 16 + 11, none⟩) hbl9).trans (by simpa using hc9 11 _ rfl)
                have c12 := (hbw.cell (p := ⟨b, o + m2 * 16 + 12, none⟩) hbl9).trans (by simpa using hc9 12 _ rfl)
                have c13 := (hbw.cell (p := ⟨b, o + m2 * 16 + 13, none⟩) hbl9).trans (by simpa using hc9 13 _ rfl)
                have c14 := (hbw.cell (p := ⟨b, o + m2 * 16 + 14, none⟩) hbl9).trans (by simpa using hc9 14 _ rfl)
                have c15 := (hbw.cell (p := ⟨b, o + m2 * 16 + 15, none⟩) hbl9).trans (by simpa using hc9 15 _ rfl)
                obtain ⟨b8, o8, x, hA8, hbl8, hx8, hc8⟩ := (r_p.more (by omega) : Reads w2 w2.heap.size 16 (some ⟨b, o, none⟩) lp.length (lp.flatMap Packet.cells)).el (cells := Packet.cells) (fun _ => rfl) (by decide) rfl (show n2 < lp.length by omega)
                injection hA8 with hA8
                injection hA8 with hA3 hA4
                subst hA3
                subst hA4
                have d0 := (hbw.cell (p := ⟨b, o + n2 * 16, none⟩) hbl8).trans (by simpa using hc8 0 _ rfl)
                have d1 := (hbw.cell (p := ⟨b, o + n2 * 16 + 1, none⟩) hbl8).trans (by simpa using hc8 1 _ rfl)
                have d2 := (hbw.cell (p := ⟨b, o + n2 * 16 + 2, none⟩) hbl8).trans (by simpa using hc8 2 _ rfl)
                have d3 := (hbw.cell (p := ⟨b, o + n2 * 16 + 3, none⟩) hbl8).trans (by simpa using hc8 3 _ rfl)
                have d4 := (hbw.cell (p := ⟨b, o + n2 * 16 + 4, none⟩) hbl8).trans (by simpa using hc8 4 _ rfl)
                have d5 := (hbw.cell (p := ⟨b, o + n2 * 16 + 5, none⟩) hbl8).trans (by simpa using hc8 5 _ rfl)
                have d6 := (hbw.cell (p := ⟨b, o + n2 * 16 + 6, none⟩) hbl8).trans (by simpa using hc8 6 _ rfl)
                have d7 := (hbw.cell (p := ⟨b, o + n2 * 16 + 7, none⟩) hbl8).trans (by simpa using hc8 7 _ rfl)
                have d8 := (hbw.cell (p := ⟨b, o + n2 * 16 + 8, none⟩) hbl8).trans (by simpa using hc8 8 _ rfl)
                have d9 := (hbw.cell (p := ⟨b, o + n2 * 16 + 9, none⟩) hbl8).trans (by simpa using hc8 9 _ rfl)
                have d10 := (hbw.cell (p := ⟨b, o + n2 * 16 + 10, none⟩) hbl8).trans (by simpa using hc8 10 _ rfl)
                have d11 := (hbw.cell (p := ⟨b, o + n2 * 16 + 11, none⟩) hbl8).trans (by simpa using hc8 11 _ rfl)
                have d12 := (hbw.cell (p := ⟨b, o + n2 * 16 + 12, none⟩) hbl8).trans (by simpa using hc8 12 _ rfl)
                have d13 := (hbw.cell (p := ⟨b, o + n2 * 16 + 13, none⟩) hbl8).trans (by simpa using hc8 13 _ rfl)
                have d14 := (hbw.cell (p := ⟨b, o + n2 * 16 + 14, none⟩) hbl8).trans (by simpa using hc8 14 _ rfl)
                have d15 := (hbw.cell (p := ⟨b, o + n2 * 16 + 15, none⟩) hbl8).trans (by simpa using hc8 15 _ rfl)
                have hxm := List.mem_of_getElem? hx8
                have hxs := hpo x hxm
                have hfx := Lib.hid (hsame p hpm x hxm)
                clear hx8 hc8 hx9 hc9
                have hxt := fun t : Ext wr => (And.intro (t.cell b0) (And.intro (t.cell b1) (And.intro (t.cell b2) (And.intro (t.cell b3) (And.intro (t.cell c0) (And.intro (t.cell c1) (And.intro (t.cell c2) (And.intro (t.cell c3) (And.intro (t.cell c4) (And.intro (t.cell c5) (And.intro (t.cell c6) (And.intro (t.cell c7) (And.intro (t.cell c8) (And.intro (t.cell c9) (And.intro (t.cell c10) (And.intro (t.cell c11) (And.intro (t.cell c12) (And.intro (t.cell c13) (And.intro (t.cell c14) (And.intro (t.cell c15) (And.intro (t.cell d0) (And.intro (t.cell d1) (And.intro (t.cell d2) (And.intro (t.cell d3) (And.intro (t.cell d4) (And.intro (t.cell d5) (And.intro (t.cell d6) (And.intro (t.cell d7) (And.intro (t.cell d8) (And.intro (t.cell d9) (And.intro (t.cell d10) (And.intro (t.cell d11) (And.intro (t.cell d12) (And.intro (t.cell d13) (And.intro (t.cell d14) (t.cell d15))))))))))))))))))))))))))))))))))))
                have hBx := fun t : Ext wr => ext_step hbw hbw.size t.below
                by_cases g0 : x.seg_kind = p.seg_kind
                · have b90 : (x.seg_kind == p.seg_kind) = true := by simpa using g0
                  replace g0 := Lib.hid g0
                  by_cases g1 : x.sip = p.sip
                  · have b91 : (x.sip == p.sip) = true := by simpa using g1
                    replace g1 := Lib.hid g1
                    by_cases g2 : x.dip = p.dip
                    · have b92 : (x.dip == p.dip) = true := by simpa using g2
                      replace g2 := Lib.hid g2
                      by_cases g3 : x.seg_sport = p.seg_sport
                      · have b93 : (x.seg_sport == p.seg_sport) = true := by simpa using g3
                        replace g3 := Lib.hid g3
                        by_cases g4 : x.seg_dport = p.seg_dport
                        · have b94 : (x.seg_dport == p.seg_dport) = true := by simpa using g4
                          replace g4 := Lib.hid g4
                          by_cases g5 : x.vlan = p.vlan
                          · have b95 : (x.vlan == p.vlan) = true := by simpa using g5
                            replace g5 := Lib.hid g5
                            have hf0 := hfx.out (by simp only [flowP, g0.out, g1.out, g2.out, g3.out, g4.out]) g5.out
                            have e1 : (F x == F p) = true := by simpa using hf0
                            have e2 : (F x != F p) = false := by simp [hf0]
                            clear hf0
                            as_aux_lemma =>
                              go_wp2_with fail
                              refine wp_region_ext_lit (by kernel_rfl) (by kernel_rfl) ?_
                              repeat (go_big_quiet_step ((first | (go_at_call 10; exact ext_call (specFlowOf_c _ _)) | (go_at_call 8; exact ext_call (hst x _ hxs (hBx _))))))
                              refine wpQuiet_nil ?_
                              intro _ hw'
                              obtain ⟨tq, hw''⟩ := hw'
                              subst hw''
                              have hk1 : Below w2.heap.size w2 tq.wd := ext_step hbw hbw.size tq.below
                              go_wp2
                              go_roundw
                              case rel => exact ⟨n2 + 1, by go_num, by omega, hk1⟩
                              case measure => simp [intOf]; omega
                          · have b95 : (x.vlan == p.vlan) = false := by simpa using g5
                            clear g5
                            as_aux_lemma =>
                              go_wp2_with fail
                              refine wp_region_ext_lit (by kernel_rfl) (by kernel_rfl) ?_
                              repeat (go_big_quiet_step ((first | (go_at_call 10; exact ext_call (specFlowOf_c _ _)) | (go_at_call 8; exact ext_call (hst x _ hxs (hBx _))))))
                              refine wpQuiet_nil ?_
                              intro _ hw'
                              obtain ⟨tq, hw''⟩ := hw'
                              subst hw''
                              have hk1 : Below w2.heap.size w2 tq.wd := ext_step hbw hbw.size tq.below
                              go_wp2
                              go_roundw
                              case rel => exact ⟨n2 + 1, by go_num, by omega, hk1⟩
                              case measure => simp [intOf]; omega
                        · have b94 : (x.seg_dport == p.seg_dport) = false := by simpa using g4
                          clear g4
                          as_aux_lemma =>
                            go_wp2_with fail
                            refine wp_region_ext_lit (by kernel_rfl) (by kernel_rfl) ?_
                            repeat (go_big_quiet_step ((first | (go_at_call 10; exact ext_call (specFlowOf_c _ _)) | (go_at_call 8; exact ext_call (hst x _ hxs (hBx _))))))
                            refine wpQuiet_nil ?_
                            intro _ hw'
                            obtain ⟨tq, hw''⟩ := hw'
                            subst hw''
                            have hk1 : Below w2.heap.size w2 tq.wd := ext_step hbw hbw.size tq.below
                            go_wp2
                            go_roundw
                            case rel => exact ⟨n2 + 1, by go_num, by omega, hk1⟩
                            case measure => simp [intOf]; omega
                      · have b93 : (x.seg_sport == p.seg_sport) = false := by simpa using g3
                        clear g3
                        as_aux_lemma =>
                          go_wp2_with fail
                          refine wp_region_ext_lit (by kernel_rfl) (by kernel_rfl) ?_
                          repeat (go_big_quiet_step ((first | (go_at_call 10; exact ext_call (specFlowOf_c _ _)) | (go_at_call 8; exact ext_call (hst x _ hxs (hBx _))))))
                          refine wpQuiet_nil ?_
                          intro _ hw'
                          obtain ⟨tq, hw''⟩ := hw'
                          subst hw''
                          have hk1 : Below w2.heap.size w2 tq.wd := ext_step hbw hbw.size tq.below
                          go_wp2
                          go_roundw
                          case rel => exact ⟨n2 + 1, by go_num, by omega, hk1⟩
                          case measure => simp [intOf]; omega
                    · have b92 : (x.dip == p.dip) = false := by simpa using g2
                      clear g2
                      as_aux_lemma =>
                        go_wp2_with fail
                        refine wp_region_ext_lit (by kernel_rfl) (by kernel_rfl) ?_
                        repeat (go_big_quiet_step ((first | (go_at_call 10; exact ext_call (specFlowOf_c _ _)) | (go_at_call 8; exact ext_call (hst x _ hxs (hBx _))))))
                        refine wpQuiet_nil ?_
                        intro _ hw'
                        obtain ⟨tq, hw''⟩ := hw'
                        subst hw''
                        have hk1 : Below w2.heap.size w2 tq.wd := ext_step hbw hbw.size tq.below
                        go_wp2
                        go_roundw
                        case rel => exact ⟨n2 + 1, by go_num, by omega, hk1⟩
                        case measure => simp [intOf]; omega
                  · have b91 : (x.sip == p.sip) = false := by simpa using g1
                    clear g1
                    as_aux_lemma =>
                      go_wp2_with fail
                      refine wp_region_ext_lit (by kernel_rfl) (by kernel_rfl) ?_
                      repeat (go_big_quiet_step ((first | (go_at_call 10; exact ext_call (specFlowOf_c _ _)) | (go_at_call 8; exact ext_call (hst x _ hxs (hBx _))))))
                      refine wpQuiet_nil ?_
                      intro _ hw'
                      obtain ⟨tq, hw''⟩ := hw'
                      subst hw''
                      have hk1 : Below w2.heap.size w2 tq.wd := ext_step hbw hbw.size tq.below
                      go_wp2
                      go_roundw
                      case rel => exact ⟨n2 + 1, by go_num, by omega, hk1⟩
                      case measure => simp [intOf]; omega
                · have b90 : (x.seg_kind == p.seg_kind) = false := by simpa using g0
                  clear g0
                  as_aux_lemma =>
                    go_wp2_with fail
                    refine wp_region_ext_lit (by kernel_rfl) (by kernel_rfl) ?_
                    repeat (go_big_quiet_step ((first | (go_at_call 10; exact ext_call (specFlowOf_c _ _)) | (go_at_call 8; exact ext_call (hst x _ hxs (hBx _))))))
                    refine wpQuiet_nil ?_
                    intro _ hw'
                    obtain ⟨tq, hw''⟩ := hw'
                    subst hw''
                    have hk1 : Below w2.heap.size w2 tq.wd := ext_step hbw hbw.size tq.below
                    go_wp2
                    go_roundw
                    case rel => exact ⟨n2 + 1, by go_num, by omega, hk1⟩
                    case measure => simp [intOf]; omega
              · have hje : n2 = m2 := by omega
                subst hje
                go_wp2
                go_roundw
                case rel => exact ⟨n2 + 1, congrArg (Value.int .i64) (by rw [HDN2.out]), by go_num, by omega, hbw⟩
                case measure => simp [intOf]; omega
          · skip
            have hke : m2 = lp.length := by omega
            have htk : lp.take m2 = lp := List.take_of_length_le (by omega)
            rw [htk] at *
            generalize hD : dropN F lp = D at *
            have ew2 : IntKind.i64.wrap ((S : Int) + (D : Int)) = (S : Int) + (D : Int) := IntWalk.i64_in _ ⟨by omega, by omega⟩
            have e3 : (((S : Int) + (D : Int)) == (lp.length : Int)) = true := by simpa using (show (S : Int) + D = lp.length by omega)
            have l6 : ¬ (m2 : Int) < (lp.length : Int) := by omega
            go_wp2_with fail
            refine (hok9 _ hbw).mono ?_
            rintro e w9 ⟨rfl, hb⟩
            have hk9 := ext_step hbw hbw.size hb
            clear hb
            go_wp2
            go_ret
            exact ⟨rfl, ext_step k2 k2.size hk9⟩
end Go.Proofs.Ytkfekgmdjemkbaa
