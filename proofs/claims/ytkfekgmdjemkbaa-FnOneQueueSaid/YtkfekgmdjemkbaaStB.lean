/- Contracts: samePrefix, l14Matches, RuleMatches, RulesOk: impl and spec. -/
import Derived.Test.YtkfekgmdjemkbaaStA
import Derived.Test.YtkfekgmdjemkbaaPktS
import Derived.Test.YtkfekgmdjemkbaaSlots4
namespace Go.Proofs.Ytkfekgmdjemkbaa
set_option linter.unusedSimpArgs false
set_option linter.unusedVariables false
open Go.RowKit Go.ChangeShapes Go.WideShapes
set_option maxHeartbeats 1000000 in
theorem samePrefix_c (a b n : Int) (w : World) (h0 : 0 ≤ n) (h1 : n ≤ 32) :
    Calls Try.prog 71 #[.int .i64 a, .int .i64 b, .int .i64 n] w fun e w' => e = .returned (.bool (decide (a / 2 ^ (32 - n).toNat = b / 2 ^ (32 - n).toNat))) ∧ Below w.heap.size w w' := by
  go_enter Try.func71, Try.ntmps71
  go_wp2_with fail
  go_quiet (fail)
  go_wp2
  go_ret
  exact ⟨ret_bool (by first | rfl | (simp [Bool.beq_eq_decide_eq]; done)), below_drewN (Below.refl _ _) _⟩
set_option maxRecDepth 100000 in
set_option maxHeartbeats 8000000 in
theorem l14Matches_c (r : Rule) (p : Packet) (w : World) (h0 : 0 ≤ r.sbits) (h1 : r.sbits ≤ 32) :
    Calls Try.prog 57 #[.agg #[.int .i64 r.prio, .int .i64 r.kind, .int .i64 r.sip, .int .i64 r.sbits, .int .i64 r.fport, .int .i64 r.lport, .int .i64 r.vlan, .int .i64 r.action, .int .i64 r.queue], .agg #[.int .i64 p.dmac, .int .i64 p.smac, .int .i64 p.vlan, .int .i64 p.tos, .int .i64 p.id, .int .i64 p.ttl, .int .i64 p.sip, .int .i64 p.dip, .int .i64 p.seg_kind, .int .i64 p.seg_sport, .int .i64 p.seg_dport, .int .i64 p.seg_seq, .int .i64 p.seg_ack, .int .i64 p.seg_flags, .int .i64 p.seg_win, .string p.seg_body]] w fun e w' => e = .returned (.bool (hitR r p)) ∧ Below w.heap.size w w' := by
  have ew : IntKind.i64.wrap (32 - r.sbits) = 32 - r.sbits := IntWalk.i64_in _ ⟨by omega, by omega⟩
  have es : ∀ x, Op.shift .shr .i64 x .i64 (32 - r.sbits) = pure (.int .i64 (x / 2 ^ (32 - r.sbits).toNat)) := fun x => shift_shr .i64 .i64 x (32 - r.sbits) (by omega) (by show _ ≤ ((64 : Nat) : Int); omega)
  cases bk0 : (r.kind == 0)
  · cases bk1 : (r.kind == p.seg_kind)
    · go_enter Try.func57, Try.ntmps57
      go_wp2_with fail
      go_quiet ((go_at_call 60; exact quiet_left (calls_bool (l01In_c _ _ _ _) (by assumption))))
      go_wp2
      go_ret
      (try simp only [beq_iff_eq, beq_eq_false_iff_ne, ne_eq] at *)
      exact ⟨ret_bool (by unfold hitR; simp [*]), below_drewN (by go_grown) _⟩
    · cases bsh : (r.sip / 2 ^ (32 - r.sbits).toNat == p.sip / 2 ^ (32 - r.sbits).toNat)
      · go_enter Try.func57, Try.ntmps57
        go_wp2_with fail
        go_quiet ((go_at_call 60; exact quiet_left (calls_bool (l01In_c _ _ _ _) (by assumption))))
        go_wp2
        go_ret
        (try simp only [beq_iff_eq, beq_eq_false_iff_ne, ne_eq] at *)
        exact ⟨ret_bool (by unfold hitR; simp [*]), below_drewN (by go_grown) _⟩
      · cases di : inB p.seg_dport r.fport r.lport
        · go_enter Try.func57, Try.ntmps57
          go_wp2_with fail
          go_quiet ((go_at_call 60; exact quiet_left (calls_bool (l01In_c _ _ _ _) (by assumption))))
          go_wp2
          go_ret
          (try simp only [beq_iff_eq, beq_eq_false_iff_ne, ne_eq] at *)
          exact ⟨ret_bool (by unfold hitR; simp [*]), below_drewN (by go_grown) _⟩
        · cases bv2 : (r.vlan == (-2))
          · cases bv3 : (r.vlan == p.vlan)
            · go_enter Try.func57, Try.ntmps57
              go_wp2_with fail
              go_quiet ((go_at_call 60; exact quiet_left (calls_bool (l01In_c _ _ _ _) (by assumption))))
              go_wp2
              go_ret
              (try simp only [beq_iff_eq, beq_eq_false_iff_ne, ne_eq] at *)
              exact ⟨ret_bool (by unfold hitR; simp [*]), below_drewN (by go_grown) _⟩
            · go_enter Try.func57, Try.ntmps57
              go_wp2_with fail
              go_quiet ((go_at_call 60; exact quiet_left (calls_bool (l01In_c _ _ _ _) (by assumption))))
              go_wp2
              go_ret
              (try simp only [beq_iff_eq, beq_eq_false_iff_ne, ne_eq] at *)
              exact ⟨ret_bool (by unfold hitR; simp [*]), below_drewN (by go_grown) _⟩
          · go_enter Try.func57, Try.ntmps57
            go_wp2_with fail
            go_quiet ((go_at_call 60; exact quiet_left (calls_bool (l01In_c _ _ _ _) (by assumption))))
            go_wp2
            go_ret
            (try simp only [beq_iff_eq, beq_eq_false_iff_ne, ne_eq] at *)
            exact ⟨ret_bool (by unfold hitR; simp [*]), below_drewN (by go_grown) _⟩
  · cases bsh : (r.sip / 2 ^ (32 - r.sbits).toNat == p.sip / 2 ^ (32 - r.sbits).toNat)
    · go_enter Try.func57, Try.ntmps57
      go_wp2_with fail
      go_quiet ((go_at_call 60; exact quiet_left (calls_bool (l01In_c _ _ _ _) (by assumption))))
      go_wp2
      go_ret
      (try simp only [beq_iff_eq, beq_eq_false_iff_ne, ne_eq] at *)
      exact ⟨ret_bool (by unfold hitR; simp [*]), below_drewN (by go_grown) _⟩
    · cases di : inB p.seg_dport r.fport r.lport
      · go_enter Try.func57, Try.ntmps57
        go_wp2_with fail
        go_quiet ((go_at_call 60; exact quiet_left (calls_bool (l01In_c _ _ _ _) (by assumption))))
        go_wp2
        go_ret
        (try simp only [beq_iff_eq, beq_eq_false_iff_ne, ne_eq] at *)
        exact ⟨ret_bool (by unfold hitR; simp [*]), below_drewN (by go_grown) _⟩
      · cases bv2 : (r.vlan == (-2))
        · cases bv3 : (r.vlan == p.vlan)
          · go_enter Try.func57, Try.ntmps57
            go_wp2_with fail
            go_quiet ((go_at_call 60; exact quiet_left (calls_bool (l01In_c _ _ _ _) (by assumption))))
            go_wp2
            go_ret
            (try simp only [beq_iff_eq, beq_eq_false_iff_ne, ne_eq] at *)
            exact ⟨ret_bool (by unfold hitR; simp [*]), below_drewN (by go_grown) _⟩
          · go_enter Try.func57, Try.ntmps57
            go_wp2_with fail
            go_quiet ((go_at_call 60; exact quiet_left (calls_bool (l01In_c _ _ _ _) (by assumption))))
            go_wp2
            go_ret
            (try simp only [beq_iff_eq, beq_eq_false_iff_ne, ne_eq] at *)
            exact ⟨ret_bool (by unfold hitR; simp [*]), below_drewN (by go_grown) _⟩
        · go_enter Try.func57, Try.ntmps57
          go_wp2_with fail
          go_quiet ((go_at_call 60; exact quiet_left (calls_bool (l01In_c _ _ _ _) (by assumption))))
          go_wp2
          go_ret
          (try simp only [beq_iff_eq, beq_eq_false_iff_ne, ne_eq] at *)
          exact ⟨ret_bool (by unfold hitR; simp [*]), below_drewN (by go_grown) _⟩
set_option maxRecDepth 100000 in
set_option maxHeartbeats 4000000 in
theorem specRM_m (r : Rule) (p : Packet) {b : Bool} (w : World) (hR : ∀ u : World, Calls Try.prog 56 #[.agg #[.int .i64 r.prio, .int .i64 r.kind, .int .i64 r.sip, .int .i64 r.sbits, .int .i64 r.fport, .int .i64 r.lport, .int .i64 r.vlan, .int .i64 r.action, .int .i64 r.queue]] u fun e w' => e = .returned (.bool true) ∧ Below u.heap.size u w') (hS : ∀ u : World, Calls Try.prog 33 #[.agg #[.int .i64 p.dmac, .int .i64 p.smac, .int .i64 p.vlan, .int .i64 p.tos, .int .i64 p.id, .int .i64 p.ttl, .int .i64 p.sip, .int .i64 p.dip, .int .i64 p.seg_kind, .int .i64 p.seg_sport, .int .i64 p.seg_dport, .int .i64 p.seg_seq, .int .i64 p.seg_ack, .int .i64 p.seg_flags, .int .i64 p.seg_win, .string p.seg_body]] u fun e w' => e = .returned (.bool true) ∧ Below u.heap.size u w') (hM : ∀ u : World, Calls Try.prog 57 #[.agg #[.int .i64 r.prio, .int .i64 r.kind, .int .i64 r.sip, .int .i64 r.sbits, .int .i64 r.fport, .int .i64 r.lport, .int .i64 r.vlan, .int .i64 r.action, .int .i64 r.queue], .agg #[.int .i64 p.dmac, .int .i64 p.smac, .int .i64 p.vlan, .int .i64 p.tos, .int .i64 p.id, .int .i64 p.ttl, .int .i64 p.sip, .int .i64 p.dip, .int .i64 p.seg_kind, .int .i64 p.seg_sport, .int .i64 p.seg_dport, .int .i64 p.seg_seq, .int .i64 p.seg_ack, .int .i64 p.seg_flags, .int .i64 p.seg_win, .string p.seg_body]] u fun e w' => e = .returned (.bool b) ∧ Below u.heap.size u w') :
    Calls Try.prog 31 #[.agg #[.int .i64 r.prio, .int .i64 r.kind, .int .i64 r.sip, .int .i64 r.sbits, .int .i64 r.fport, .int .i64 r.lport, .int .i64 r.vlan, .int .i64 r.action, .int .i64 r.queue], .agg #[.int .i64 p.dmac, .int .i64 p.smac, .int .i64 p.vlan, .int .i64 p.tos, .int .i64 p.id, .int .i64 p.ttl, .int .i64 p.sip, .int .i64 p.dip, .int .i64 p.seg_kind, .int .i64 p.seg_sport, .int .i64 p.seg_dport, .int .i64 p.seg_seq, .int .i64 p.seg_ack, .int .i64 p.seg_flags, .int .i64 p.seg_win, .string p.seg_body]] w fun e w' => e = .returned (.bool b) ∧ Below w.heap.size w w' := by
  go_enter Try.func31, Try.ntmps31
  go_wp2_with fail
  have k0 : Below w.heap.size w ((w.alloc (.cells #[.int .i64 r.prio, .int .i64 r.kind, .int .i64 r.sip, .int .i64 r.sbits, .int .i64 r.fport, .int .i64 r.lport, .int .i64 r.vlan, .int .i64 r.action, .int .i64 r.queue] 58)).alloc (.cells #[.int .i64 p.dmac, .int .i64 p.smac, .int .i64 p.vlan, .int .i64 p.tos, .int .i64 p.id, .int .i64 p.ttl, .int .i64 p.sip, .int .i64 p.dip, .int .i64 p.seg_kind, .int .i64 p.seg_sport, .int .i64 p.seg_dport, .int .i64 p.seg_seq, .int .i64 p.seg_ack, .int .i64 p.seg_flags, .int .i64 p.seg_win, .string p.seg_body] 41)) := by go_grown
  have bl0 : w.heap.size < ((w.alloc (.cells #[.int .i64 r.prio, .int .i64 r.kind, .int .i64 r.sip, .int .i64 r.sbits, .int .i64 r.fport, .int .i64 r.lport, .int .i64 r.vlan, .int .i64 r.action, .int .i64 r.queue] 58)).alloc (.cells #[.int .i64 p.dmac, .int .i64 p.smac, .int .i64 p.vlan, .int .i64 p.tos, .int .i64 p.id, .int .i64 p.ttl, .int .i64 p.sip, .int .i64 p.dip, .int .i64 p.seg_kind, .int .i64 p.seg_sport, .int .i64 p.seg_dport, .int .i64 p.seg_seq, .int .i64 p.seg_ack, .int .i64 p.seg_flags, .int .i64 p.seg_win, .string p.seg_body] 41)).heap.size := by go_size
  have hk0 : Blk ((w.alloc (.cells #[.int .i64 r.prio, .int .i64 r.kind, .int .i64 r.sip, .int .i64 r.sbits, .int .i64 r.fport, .int .i64 r.lport, .int .i64 r.vlan, .int .i64 r.action, .int .i64 r.queue] 58)).alloc (.cells #[.int .i64 p.dmac, .int .i64 p.smac, .int .i64 p.vlan, .int .i64 p.tos, .int .i64 p.id, .int .i64 p.ttl, .int .i64 p.sip, .int .i64 p.dip, .int .i64 p.seg_kind, .int .i64 p.seg_sport, .int .i64 p.seg_dport, .int .i64 p.seg_seq, .int .i64 p.seg_ack, .int .i64 p.seg_flags, .int .i64 p.seg_win, .string p.seg_body] 41)) (w.heap.size) 58 [.int .i64 r.prio, .int .i64 r.kind, .int .i64 r.sip, .int .i64 r.sbits, .int .i64 r.fport, .int .i64 r.lport, .int .i64 r.vlan, .int .i64 r.action, .int .i64 r.queue] := by simpa using (Blk.new w 58 [.int .i64 r.prio, .int .i64 r.kind, .int .i64 r.sip, .int .i64 r.sbits, .int .i64 r.fport, .int .i64 r.lport, .int .i64 r.vlan, .int .i64 r.action, .int .i64 r.queue]).alloc (.cells #[.int .i64 p.dmac, .int .i64 p.smac, .int .i64 p.vlan, .int .i64 p.tos, .int .i64 p.id, .int .i64 p.ttl, .int .i64 p.sip, .int .i64 p.dip, .int .i64 p.seg_kind, .int .i64 p.seg_sport, .int .i64 p.seg_dport, .int .i64 p.seg_seq, .int .i64 p.seg_ack, .int .i64 p.seg_flags, .int .i64 p.seg_win, .string p.seg_body] 41)
  have bl1 : w.heap.size + 1 < ((w.alloc (.cells #[.int .i64 r.prio, .int .i64 r.kind, .int .i64 r.sip, .int .i64 r.sbits, .int .i64 r.fport, .int .i64 r.lport, .int .i64 r.vlan, .int .i64 r.action, .int .i64 r.queue] 58)).alloc (.cells #[.int .i64 p.dmac, .int .i64 p.smac, .int .i64 p.vlan, .int .i64 p.tos, .int .i64 p.id, .int .i64 p.ttl, .int .i64 p.sip, .int .i64 p.dip, .int .i64 p.seg_kind, .int .i64 p.seg_sport, .int .i64 p.seg_dport, .int .i64 p.seg_seq, .int .i64 p.seg_ack, .int .i64 p.seg_flags, .int .i64 p.seg_win, .string p.seg_body] 41)).heap.size := by go_size
  have hk1 : Blk ((w.alloc (.cells #[.int .i64 r.prio, .int .i64 r.kind, .int .i64 r.sip, .int .i64 r.sbits, .int .i64 r.fport, .int .i64 r.lport, .int .i64 r.vlan, .int .i64 r.action, .int .i64 r.queue] 58)).alloc (.cells #[.int .i64 p.dmac, .int .i64 p.smac, .int .i64 p.vlan, .int .i64 p.tos, .int .i64 p.id, .int .i64 p.ttl, .int .i64 p.sip, .int .i64 p.dip, .int .i64 p.seg_kind, .int .i64 p.seg_sport, .int .i64 p.seg_dport, .int .i64 p.seg_seq, .int .i64 p.seg_ack, .int .i64 p.seg_flags, .int .i64 p.seg_win, .string p.seg_body] 41)) (w.heap.size + 1) 41 [.int .i64 p.dmac, .int .i64 p.smac, .int .i64 p.vlan, .int .i64 p.tos, .int .i64 p.id, .int .i64 p.ttl, .int .i64 p.sip, .int .i64 p.dip, .int .i64 p.seg_kind, .int .i64 p.seg_sport, .int .i64 p.seg_dport, .int .i64 p.seg_seq, .int .i64 p.seg_ack, .int .i64 p.seg_flags, .int .i64 p.seg_win, .string p.seg_body] := by simpa using Blk.new (w.alloc (.cells #[.int .i64 r.prio, .int .i64 r.kind, .int .i64 r.sip, .int .i64 r.sbits, .int .i64 r.fport, .int .i64 r.lport, .int .i64 r.vlan, .int .i64 r.action, .int .i64 r.queue] 58)) 41 [.int .i64 p.dmac, .int .i64 p.smac, .int .i64 p.vlan, .int .i64 p.tos, .int .i64 p.id, .int .i64 p.ttl, .int .i64 p.sip, .int .i64 p.dip, .int .i64 p.seg_kind, .int .i64 p.seg_sport, .int .i64 p.seg_dport, .int .i64 p.seg_seq, .int .i64 p.seg_ack, .int .i64 p.seg_flags, .int .i64 p.seg_win, .string p.seg_body]
  have p0 := k0.size
  generalize hW0 : ((w.alloc (.cells #[.int .i64 r.prio, .int .i64 r.kind, .int .i64 r.sip, .int .i64 r.sbits, .int .i64 r.fport, .int .i64 r.lport, .int .i64 r.vlan, .int .i64 r.action, .int .i64 r.queue] 58)).alloc (.cells #[.int .i64 p.dmac, .int .i64 p.smac, .int .i64 p.vlan, .int .i64 p.tos, .int .i64 p.id, .int .i64 p.ttl, .int .i64 p.sip, .int .i64 p.dip, .int .i64 p.seg_kind, .int .i64 p.seg_sport, .int .i64 p.seg_dport, .int .i64 p.seg_seq, .int .i64 p.seg_ack, .int .i64 p.seg_flags, .int .i64 p.seg_win, .string p.seg_body] 41)) = w0 at *
  clear hW0
  refine (hR _).mono ?_
  rintro e w1 ⟨rfl, hb⟩
  have k1 : Below w.heap.size w w1 := ext_step k0 (by omega) hb
  have p1 := hb.size
  replace hk0 := hk0.ext hb
  replace hk1 := hk1.ext hb
  have bl0 := Nat.lt_of_lt_of_le bl0 hb.size
  have bl1 := Nat.lt_of_lt_of_le bl1 hb.size
  clear hb
  have bx1_0 := hk1.at_ 0 _ rfl
  have bx1_1 := hk1.at_ 1 _ rfl
  have bx1_2 := hk1.at_ 2 _ rfl
  have bx1_3 := hk1.at_ 3 _ rfl
  have bx1_4 := hk1.at_ 4 _ rfl
  have bx1_5 := hk1.at_ 5 _ rfl
  have bx1_6 := hk1.at_ 6 _ rfl
  have bx1_7 := hk1.at_ 7 _ rfl
  have bx1_8 := hk1.at_ 8 _ rfl
  have bx1_9 := hk1.at_ 9 _ rfl
  have bx1_10 := hk1.at_ 10 _ rfl
  have bx1_11 := hk1.at_ 11 _ rfl
  have bx1_12 := hk1.at_ 12 _ rfl
  have bx1_13 := hk1.at_ 13 _ rfl
  have bx1_14 := hk1.at_ 14 _ rfl
  have bx1_15 := hk1.at_ 15 _ rfl
  go_wp2_with fail
  refine (hS _).mono ?_
  rintro e w2 ⟨rfl, hb⟩
  have k2 : Below w.heap.size w w2 := ext_step k1 (by omega) hb
  have p2 := hb.size
  replace hk0 := hk0.ext hb
  replace hk1 := hk1.ext hb
  clear bx1_0 bx1_1 bx1_2 bx1_3 bx1_4 bx1_5 bx1_6 bx1_7 bx1_8 bx1_9 bx1_10 bx1_11 bx1_12 bx1_13 bx1_14 bx1_15
  have bl0 := Nat.lt_of_lt_of_le bl0 hb.size
  have bl1 := Nat.lt_of_lt_of_le bl1 hb.size
  clear hb
  have bx0_0 := hk0.at_ 0 _ rfl
  have bx0_1 := hk0.at_ 1 _ rfl
  have bx0_2 := hk0.at_ 2 _ rfl
  have bx0_3 := hk0.at_ 3 _ rfl
  have bx0_4 := hk0.at_ 4 _ rfl
  have bx0_5 := hk0.at_ 5 _ rfl
  have bx0_6 := hk0.at_ 6 _ rfl
  have bx0_7 := hk0.at_ 7 _ rfl
  have bx0_8 := hk0.at_ 8 _ rfl
  have bx1_0 := hk1.at_ 0 _ rfl
  have bx1_1 := hk1.at_ 1 _ rfl
  have bx1_2 := hk1.at_ 2 _ rfl
  have bx1_3 := hk1.at_ 3 _ rfl
  have bx1_4 := hk1.at_ 4 _ rfl
  have bx1_5 := hk1.at_ 5 _ rfl
  have bx1_6 := hk1.at_ 6 _ rfl
  have bx1_7 := hk1.at_ 7 _ rfl
  have bx1_8 := hk1.at_ 8 _ rfl
  have bx1_9 := hk1.at_ 9 _ rfl
  have bx1_10 := hk1.at_ 10 _ rfl
  have bx1_11 := hk1.at_ 11 _ rfl
  have bx1_12 := hk1.at_ 12 _ rfl
  have bx1_13 := hk1.at_ 13 _ rfl
  have bx1_14 := hk1.at_ 14 _ rfl
  have bx1_15 := hk1.at_ 15 _ rfl
  go_wp2_with fail
  refine (hM _).mono ?_
  rintro e w3 ⟨rfl, hb⟩
  have k3 : Below w.heap.size w w3 := ext_step k2 (by omega) hb
  have p3 := hb.size
  replace hk0 := hk0.ext hb
  replace hk1 := hk1.ext hb
  clear bx0_0 bx0_1 bx0_2 bx0_3 bx0_4 bx0_5 bx0_6 bx0_7 bx0_8 bx1_0 bx1_1 bx1_2 bx1_3 bx1_4 bx1_5 bx1_6 bx1_7 bx1_8 bx1_9 bx1_10 bx1_11 bx1_12 bx1_13 bx1_14 bx1_15
  have bl0 := Nat.lt_of_lt_of_le bl0 hb.size
  have bl1 := Nat.lt_of_lt_of_le bl1 hb.size
  clear hb
  go_wp2
  go_ret
  exact ⟨rfl, k3⟩
set_option maxRecDepth 100000 in
set_option maxHeartbeats 4000000 in
theorem specRM_r (r : Rule) (p : Packet) {b : Bool} (w : World) (hR : ∀ u : World, Calls Try.prog 56 #[.agg #[.int .i64 r.prio, .int .i64 r.kind, .int .i64 r.sip, .int .i64 r.sbits, .int .i64 r.fport, .int .i64 r.lport, .int .i64 r.vlan, .int .i64 r.action, .int .i64 r.queue]] u fun e w' => e = .returned (.bool false) ∧ Below u.heap.size u w') :
    Calls Try.prog 31 #[.agg #[.int .i64 r.prio, .int .i64 r.kind, .int .i64 r.sip, .int .i64 r.sbits, .int .i64 r.fport, .int .i64 r.lport, .int .i64 r.vlan, .int .i64 r.action, .int .i64 r.queue], .agg #[.int .i64 p.dmac, .int .i64 p.smac, .int .i64 p.vlan, .int .i64 p.tos, .int .i64 p.id, .int .i64 p.ttl, .int .i64 p.sip, .int .i64 p.dip, .int .i64 p.seg_kind, .int .i64 p.seg_sport, .int .i64 p.seg_dport, .int .i64 p.seg_seq, .int .i64 p.seg_ack, .int .i64 p.seg_flags, .int .i64 p.seg_win, .string p.seg_body]] w fun e w' => e = .returned (.bool false) ∧ Below w.heap.size w w' := by
  go_enter Try.func31, Try.ntmps31
  go_wp2_with fail
  have k0 : Below w.heap.size w ((w.alloc (.cells #[.int .i64 r.prio, .int .i64 r.kind, .int .i64 r.sip, .int .i64 r.sbits, .int .i64 r.fport, .int .i64 r.lport, .int .i64 r.vlan, .int .i64 r.action, .int .i64 r.queue] 58)).alloc (.cells #[.int .i64 p.dmac, .int .i64 p.smac, .int .i64 p.vlan, .int .i64 p.tos, .int .i64 p.id, .int .i64 p.ttl, .int .i64 p.sip, .int .i64 p.dip, .int .i64 p.seg_kind, .int .i64 p.seg_sport, .int .i64 p.seg_dport, .int .i64 p.seg_seq, .int .i64 p.seg_ack, .int .i64 p.seg_flags, .int .i64 p.seg_win, .string p.seg_body] 41)) := by go_grown
  have bl0 : w.heap.size < ((w.alloc (.cells #[.int .i64 r.prio, .int .i64 r.kind, .int .i64 r.sip, .int .i64 r.sbits, .int .i64 r.fport, .int .i64 r.lport, .int .i64 r.vlan, .int .i64 r.action, .int .i64 r.queue] 58)).alloc (.cells #[.int .i64 p.dmac, .int .i64 p.smac, .int .i64 p.vlan, .int .i64 p.tos, .int .i64 p.id, .int .i64 p.ttl, .int .i64 p.sip, .int .i64 p.dip, .int .i64 p.seg_kind, .int .i64 p.seg_sport, .int .i64 p.seg_dport, .int .i64 p.seg_seq, .int .i64 p.seg_ack, .int .i64 p.seg_flags, .int .i64 p.seg_win, .string p.seg_body] 41)).heap.size := by go_size
  have hk0 : Blk ((w.alloc (.cells #[.int .i64 r.prio, .int .i64 r.kind, .int .i64 r.sip, .int .i64 r.sbits, .int .i64 r.fport, .int .i64 r.lport, .int .i64 r.vlan, .int .i64 r.action, .int .i64 r.queue] 58)).alloc (.cells #[.int .i64 p.dmac, .int .i64 p.smac, .int .i64 p.vlan, .int .i64 p.tos, .int .i64 p.id, .int .i64 p.ttl, .int .i64 p.sip, .int .i64 p.dip, .int .i64 p.seg_kind, .int .i64 p.seg_sport, .int .i64 p.seg_dport, .int .i64 p.seg_seq, .int .i64 p.seg_ack, .int .i64 p.seg_flags, .int .i64 p.seg_win, .string p.seg_body] 41)) (w.heap.size) 58 [.int .i64 r.prio, .int .i64 r.kind, .int .i64 r.sip, .int .i64 r.sbits, .int .i64 r.fport, .int .i64 r.lport, .int .i64 r.vlan, .int .i64 r.action, .int .i64 r.queue] := by simpa using (Blk.new w 58 [.int .i64 r.prio, .int .i64 r.kind, .int .i64 r.sip, .int .i64 r.sbits, .int .i64 r.fport, .int .i64 r.lport, .int .i64 r.vlan, .int .i64 r.action, .int .i64 r.queue]).alloc (.cells #[.int .i64 p.dmac, .int .i64 p.smac, .int .i64 p.vlan, .int .i64 p.tos, .int .i64 p.id, .int .i64 p.ttl, .int .i64 p.sip, .int .i64 p.dip, .int .i64 p.seg_kind, .int .i64 p.seg_sport, .int .i64 p.seg_dport, .int .i64 p.seg_seq, .int .i64 p.seg_ack, .int .i64 p.seg_flags, .int .i64 p.seg_win, .string p.seg_body] 41)
  have bl1 : w.heap.size + 1 < ((w.alloc (.cells #[.int .i64 r.prio, .int .i64 r.kind, .int .i64 r.sip, .int .i64 r.sbits, .int .i64 r.fport, .int .i64 r.lport, .int .i64 r.vlan, .int .i64 r.action, .int .i64 r.queue] 58)).alloc (.cells #[.int .i64 p.dmac, .int .i64 p.smac, .int .i64 p.vlan, .int .i64 p.tos, .int .i64 p.id, .int .i64 p.ttl, .int .i64 p.sip, .int .i64 p.dip, .int .i64 p.seg_kind, .int .i64 p.seg_sport, .int .i64 p.seg_dport, .int .i64 p.seg_seq, .int .i64 p.seg_ack, .int .i64 p.seg_flags, .int .i64 p.seg_win, .string p.seg_body] 41)).heap.size := by go_size
  have hk1 : Blk ((w.alloc (.cells #[.int .i64 r.prio, .int .i64 r.kind, .int .i64 r.sip, .int .i64 r.sbits, .int .i64 r.fport, .int .i64 r.lport, .int .i64 r.vlan, .int .i64 r.action, .int .i64 r.queue] 58)).alloc (.cells #[.int .i64 p.dmac, .int .i64 p.smac, .int .i64 p.vlan, .int .i64 p.tos, .int .i64 p.id, .int .i64 p.ttl, .int .i64 p.sip, .int .i64 p.dip, .int .i64 p.seg_kind, .int .i64 p.seg_sport, .int .i64 p.seg_dport, .int .i64 p.seg_seq, .int .i64 p.seg_ack, .int .i64 p.seg_flags, .int .i64 p.seg_win, .string p.seg_body] 41)) (w.heap.size + 1) 41 [.int .i64 p.dmac, .int .i64 p.smac, .int .i64 p.vlan, .int .i64 p.tos, .int .i64 p.id, .int .i64 p.ttl, .int .i64 p.sip, .int .i64 p.dip, .int .i64 p.seg_kind, .int .i64 p.seg_sport, .int .i64 p.seg_dport, .int .i64 p.seg_seq, .int .i64 p.seg_ack, .int .i64 p.seg_flags, .int .i64 p.seg_win, .string p.seg_body] := by simpa using Blk.new (w.alloc (.cells #[.int .i64 r.prio, .int .i64 r.kind, .int .i64 r.sip, .int .i64 r.sbits, .int .i64 r.fport, .int .i64 r.lport, .int .i64 r.vlan, .int .i64 r.action, .int .i64 r.queue] 58)) 41 [.int .i64 p.dmac, .int .i64 p.smac, .int .i64 p.vlan, .int .i64 p.tos, .int .i64 p.id, .int .i64 p.ttl, .int .i64 p.sip, .int .i64 p.dip, .int .i64 p.seg_kind, .int .i64 p.seg_sport, .int .i64 p.seg_dport, .int .i64 p.seg_seq, .int .i64 p.seg_ack, .int .i64 p.seg_flags, .int .i64 p.seg_win, .string p.seg_body]
  have p0 := k0.size
  generalize hW0 : ((w.alloc (.cells #[.int .i64 r.prio, .int .i64 r.kind, .int .i64 r.sip, .int .i64 r.sbits, .int .i64 r.fport, .int .i64 r.lport, .int .i64 r.vlan, .int .i64 r.action, .int .i64 r.queue] 58)).alloc (.cells #[.int .i64 p.dmac, .int .i64 p.smac, .int .i64 p.vlan, .int .i64 p.tos, .int .i64 p.id, .int .i64 p.ttl, .int .i64 p.sip, .int .i64 p.dip, .int .i64 p.seg_kind, .int .i64 p.seg_sport, .int .i64 p.seg_dport, .int .i64 p.seg_seq, .int .i64 p.seg_ack, .int .i64 p.seg_flags, .int .i64 p.seg_win, .string p.seg_body] 41)) = w0 at *
  clear hW0
  refine (hR _).mono ?_
  rintro e w1 ⟨rfl, hb⟩
  have k1 : Below w.heap.size w w1 := ext_step k0 (by omega) hb
  have p1 := hb.size
  replace hk0 := hk0.ext hb
  replace hk1 := hk1.ext hb
  have bl0 := Nat.lt_of_lt_of_le bl0 hb.size
  have bl1 := Nat.lt_of_lt_of_le bl1 hb.size
  clear hb
  go_wp2
  go_ret
  exact ⟨rfl, k1⟩
set_option maxRecDepth 100000 in
set_option maxHeartbeats 4000000 in
theorem specRM_s (r : Rule) (p : Packet) {b : Bool} (w : World) (hR : ∀ u : World, Calls Try.prog 56 #[.agg #[.int .i64 r.prio, .int .i64 r.kind, .int .i64 r.sip, .int .i64 r.sbits, .int .i64 r.fport, .int .i64 r.lport, .int .i64 r.vlan, .int .i64 r.action, .int .i64 r.queue]] u fun e w' => e = .returned (.bool true) ∧ Below u.heap.size u w') (hS : ∀ u : World, Calls Try.prog 33 #[.agg #[.int .i64 p.dmac, .int .i64 p.smac, .int .i64 p.vlan, .int .i64 p.tos, .int .i64 p.id, .int .i64 p.ttl, .int .i64 p.sip, .int .i64 p.dip, .int .i64 p.seg_kind, .int .i64 p.seg_sport, .int .i64 p.seg_dport, .int .i64 p.seg_seq, .int .i64 p.seg_ack, .int .i64 p.seg_flags, .int .i64 p.seg_win, .string p.seg_body]] u fun e w' => e = .returned (.bool false) ∧ Below u.heap.size u w') :
    Calls Try.prog 31 #[.agg #[.int .i64 r.prio, .int .i64 r.kind, .int .i64 r.sip, .int .i64 r.sbits, .int .i64 r.fport, .int .i64 r.lport, .int .i64 r.vlan, .int .i64 r.action, .int .i64 r.queue], .agg #[.int .i64 p.dmac, .int .i64 p.smac, .int .i64 p.vlan, .int .i64 p.tos, .int .i64 p.id, .int .i64 p.ttl, .int .i64 p.sip, .int .i64 p.dip, .int .i64 p.seg_kind, .int .i64 p.seg_sport, .int .i64 p.seg_dport, .int .i64 p.seg_seq, .int .i64 p.seg_ack, .int .i64 p.seg_flags, .int .i64 p.seg_win, .string p.seg_body]] w fun e w' => e = .returned (.bool false) ∧ Below w.heap.size w w' := by
  go_enter Try.func31, Try.ntmps31
  go_wp2_with fail
  have k0 : Below w.heap.size w ((w.alloc (.cells #[.int .i64 r.prio, .int .i64 r.kind, .int .i64 r.sip, .int .i64 r.sbits, .int .i64 r.fport, .int .i64 r.lport, .int .i64 r.vlan, .int .i64 r.action, .int .i64 r.queue] 58)).alloc (.cells #[.int .i64 p.dmac, .int .i64 p.smac, .int .i64 p.vlan, .int .i64 p.tos, .int .i64 p.id, .int .i64 p.ttl, .int .i64 p.sip, .int .i64 p.dip, .int .i64 p.seg_kind, .int .i64 p.seg_sport, .int .i64 p.seg_dport, .int .i64 p.seg_seq, .int .i64 p.seg_ack, .int .i64 p.seg_flags, .int .i64 p.seg_win, .string p.seg_body] 41)) := by go_grown
  have bl0 : w.heap.size < ((w.alloc (.cells #[.int .i64 r.prio, .int .i64 r.kind, .int .i64 r.sip, .int .i64 r.sbits, .int .i64 r.fport, .int .i64 r.lport, .int .i64 r.vlan, .int .i64 r.action, .int .i64 r.queue] 58)).alloc (.cells #[.int .i64 p.dmac, .int .i64 p.smac, .int .i64 p.vlan, .int .i64 p.tos, .int .i64 p.id, .int .i64 p.ttl, .int .i64 p.sip, .int .i64 p.dip, .int .i64 p.seg_kind, .int .i64 p.seg_sport, .int .i64 p.seg_dport, .int .i64 p.seg_seq, .int .i64 p.seg_ack, .int .i64 p.seg_flags, .int .i64 p.seg_win, .string p.seg_body] 41)).heap.size := by go_size
  have hk0 : Blk ((w.alloc (.cells #[.int .i64 r.prio, .int .i64 r.kind, .int .i64 r.sip, .int .i64 r.sbits, .int .i64 r.fport, .int .i64 r.lport, .int .i64 r.vlan, .int .i64 r.action, .int .i64 r.queue] 58)).alloc (.cells #[.int .i64 p.dmac, .int .i64 p.smac, .int .i64 p.vlan, .int .i64 p.tos, .int .i64 p.id, .int .i64 p.ttl, .int .i64 p.sip, .int .i64 p.dip, .int .i64 p.seg_kind, .int .i64 p.seg_sport, .int .i64 p.seg_dport, .int .i64 p.seg_seq, .int .i64 p.seg_ack, .int .i64 p.seg_flags, .int .i64 p.seg_win, .string p.seg_body] 41)) (w.heap.size) 58 [.int .i64 r.prio, .int .i64 r.kind, .int .i64 r.sip, .int .i64 r.sbits, .int .i64 r.fport, .int .i64 r.lport, .int .i64 r.vlan, .int .i64 r.action, .int .i64 r.queue] := by simpa using (Blk.new w 58 [.int .i64 r.prio, .int .i64 r.kind, .int .i64 r.sip, .int .i64 r.sbits, .int .i64 r.fport, .int .i64 r.lport, .int .i64 r.vlan, .int .i64 r.action, .int .i64 r.queue]).alloc (.cells #[.int .i64 p.dmac, .int .i64 p.smac, .int .i64 p.vlan, .int .i64 p.tos, .int .i64 p.id, .int .i64 p.ttl, .int .i64 p.sip, .int .i64 p.dip, .int .i64 p.seg_kind, .int .i64 p.seg_sport, .int .i64 p.seg_dport, .int .i64 p.seg_seq, .int .i64 p.seg_ack, .int .i64 p.seg_flags, .int .i64 p.seg_win, .string p.seg_body] 41)
  have bl1 : w.heap.size + 1 < ((w.alloc (.cells #[.int .i64 r.prio, .int .i64 r.kind, .int .i64 r.sip, .int .i64 r.sbits, .int .i64 r.fport, .int .i64 r.lport, .int .i64 r.vlan, .int .i64 r.action, .int .i64 r.queue] 58)).alloc (.cells #[.int .i64 p.dmac, .int .i64 p.smac, .int .i64 p.vlan, .int .i64 p.tos, .int .i64 p.id, .int .i64 p.ttl, .int .i64 p.sip, .int .i64 p.dip, .int .i64 p.seg_kind, .int .i64 p.seg_sport, .int .i64 p.seg_dport, .int .i64 p.seg_seq, .int .i64 p.seg_ack, .int .i64 p.seg_flags, .int .i64 p.seg_win, .string p.seg_body] 41)).heap.size := by go_size
  have hk1 : Blk ((w.alloc (.cells #[.int .i64 r.prio, .int .i64 r.kind, .int .i64 r.sip, .int .i64 r.sbits, .int .i64 r.fport, .int .i64 r.lport, .int .i64 r.vlan, .int .i64 r.action, .int .i64 r.queue] 58)).alloc (.cells #[.int .i64 p.dmac, .int .i64 p.smac, .int .i64 p.vlan, .int .i64 p.tos, .int .i64 p.id, .int .i64 p.ttl, .int .i64 p.sip, .int .i64 p.dip, .int .i64 p.seg_kind, .int .i64 p.seg_sport, .int .i64 p.seg_dport, .int .i64 p.seg_seq, .int .i64 p.seg_ack, .int .i64 p.seg_flags, .int .i64 p.seg_win, .string p.seg_body] 41)) (w.heap.size + 1) 41 [.int .i64 p.dmac, .int .i64 p.smac, .int .i64 p.vlan, .int .i64 p.tos, .int .i64 p.id, .int .i64 p.ttl, .int .i64 p.sip, .int .i64 p.dip, .int .i64 p.seg_kind, .int .i64 p.seg_sport, .int .i64 p.seg_dport, .int .i64 p.seg_seq, .int .i64 p.seg_ack, .int .i64 p.seg_flags, .int .i64 p.seg_win, .string p.seg_body] := by simpa using Blk.new (w.alloc (.cells #[.int .i64 r.prio, .int .i64 r.kind, .int .i64 r.sip, .int .i64 r.sbits, .int .i64 r.fport, .int .i64 r.lport, .int .i64 r.vlan, .int .i64 r.action, .int .i64 r.queue] 58)) 41 [.int .i64 p.dmac, .int .i64 p.smac, .int .i64 p.vlan, .int .i64 p.tos, .int .i64 p.id, .int .i64 p.ttl, .int .i64 p.sip, .int .i64 p.dip, .int .i64 p.seg_kind, .int .i64 p.seg_sport, .int .i64 p.seg_dport, .int .i64 p.seg_seq, .int .i64 p.seg_ack, .int .i64 p.seg_flags, .int .i64 p.seg_win, .string p.seg_body]
  have p0 := k0.size
  generalize hW0 : ((w.alloc (.cells #[.int .i64 r.prio, .int .i64 r.kind, .int .i64 r.sip, .int .i64 r.sbits, .int .i64 r.fport, .int .i64 r.lport, .int .i64 r.vlan, .int .i64 r.action, .int .i64 r.queue] 58)).alloc (.cells #[.int .i64 p.dmac, .int .i64 p.smac, .int .i64 p.vlan, .int .i64 p.tos, .int .i64 p.id, .int .i64 p.ttl, .int .i64 p.sip, .int .i64 p.dip, .int .i64 p.seg_kind, .int .i64 p.seg_sport, .int .i64 p.seg_dport, .int .i64 p.seg_seq, .int .i64 p.seg_ack, .int .i64 p.seg_flags, .int .i64 p.seg_win, .string p.seg_body] 41)) = w0 at *
  clear hW0
  refine (hR _).mono ?_
  rintro e w1 ⟨rfl, hb⟩
  have k1 : Below w.heap.size w w1 := ext_step k0 (by omega) hb
  have p1 := hb.size
  replace hk0 := hk0.ext hb
  replace hk1 := hk1.ext hb
  have bl0 := Nat.lt_of_lt_of_le bl0 hb.size
  have bl1 := Nat.lt_of_lt_of_le bl1 hb.size
  clear hb
  have bx1_0 := hk1.at_ 0 _ rfl
  have bx1_1 := hk1.at_ 1 _ rfl
  have bx1_2 := hk1.at_ 2 _ rfl
  have bx1_3 := hk1.at_ 3 _ rfl
  have bx1_4 := hk1.at_ 4 _ rfl
  have bx1_5 := hk1.at_ 5 _ rfl
  have bx1_6 := hk1.at_ 6 _ rfl
  have bx1_7 := hk1.at_ 7 _ rfl
  have bx1_8 := hk1.at_ 8 _ rfl
  have bx1_9 := hk1.at_ 9 _ rfl
  have bx1_10 := hk1.at_ 10 _ rfl
  have bx1_11 := hk1.at_ 11 _ rfl
  have bx1_12 := hk1.at_ 12 _ rfl
  have bx1_13 := hk1.at_ 13 _ rfl
  have bx1_14 := hk1.at_ 14 _ rfl
  have bx1_15 := hk1.at_ 15 _ rfl
  go_wp2_with fail
  refine (hS _).mono ?_
  rintro e w2 ⟨rfl, hb⟩
  have k2 : Below w.heap.size w w2 := ext_step k1 (by omega) hb
  have p2 := hb.size
  replace hk0 := hk0.ext hb
  replace hk1 := hk1.ext hb
  clear bx1_0 bx1_1 bx1_2 bx1_3 bx1_4 bx1_5 bx1_6 bx1_7 bx1_8 bx1_9 bx1_10 bx1_11 bx1_12 bx1_13 bx1_14 bx1_15
  have bl0 := Nat.lt_of_lt_of_le bl0 hb.size
  have bl1 := Nat.lt_of_lt_of_le bl1 hb.size
  clear hb
  go_wp2
  go_ret
  exact ⟨rfl, k2⟩
theorem specRuleMatches_c (r : Rule) (p : Packet) (w : World) (hz : p.seg_body.size ≤ 1048576) :
    Calls Try.prog 31 #[.agg #[.int .i64 r.prio, .int .i64 r.kind, .int .i64 r.sip, .int .i64 r.sbits, .int .i64 r.fport, .int .i64 r.lport, .int .i64 r.vlan, .int .i64 r.action, .int .i64 r.queue], .agg #[.int .i64 p.dmac, .int .i64 p.smac, .int .i64 p.vlan, .int .i64 p.tos, .int .i64 p.id, .int .i64 p.ttl, .int .i64 p.sip, .int .i64 p.dip, .int .i64 p.seg_kind, .int .i64 p.seg_sport, .int .i64 p.seg_dport, .int .i64 p.seg_seq, .int .i64 p.seg_ack, .int .i64 p.seg_flags, .int .i64 p.seg_win, .string p.seg_body]] w fun e w' => e = .returned (.bool (matB r p)) ∧ Below w.heap.size w w' := by
  have hR := fun u : World => specRuleOk_c r u
  have hS := fun u : World => specSuperOk_c p u hz
  cases h0 : ruleB r
  · simp only [h0] at hR
    rw [show matB r p = false by (try simp only [beq_iff_eq, beq_eq_false_iff_ne, ne_eq, decide_eq_true_eq, decide_eq_false_iff_not] at *); simp [matB, hitR, *]]
    exact specRM_r (b := true) r p w hR
  · obtain ⟨_, _, _, _, hb0, hb1, _⟩ := ruleB_t h0
    simp only [h0] at hR
    cases h1 : superB p
    · simp only [h1] at hS
      rw [show matB r p = false by (try simp only [beq_iff_eq, beq_eq_false_iff_ne, ne_eq, decide_eq_true_eq, decide_eq_false_iff_not] at *); simp [matB, hitR, *]]
      exact specRM_s (b := true) r p w hR hS
    · simp only [h1] at hS
      have hM := fun u : World => l14Matches_c r p u hb0 hb1
      rw [show matB r p = hitR r p by simp [matB, h0, h1]]
      obtain ⟨b, e_b⟩ : ∃ b, hitR r p = b := ⟨_, rfl⟩
      simp only [e_b] at hM ⊢
      exact specRM_m r p w hR hS hM
set_option maxRecDepth 100000 in
set_option maxHeartbeats 4000000 in
theorem implRM_av2 (r : Rule) (p : Packet) {b : Bool} (w : World) (hR : ∀ u : World, Calls Try.prog 51 #[.agg #[.int .i64 r.prio, .int .i64 r.kind, .int .i64 r.sip, .int .i64 r.sbits, .int .i64 r.fport, .int .i64 r.lport, .int .i64 r.vlan, .int .i64 r.action, .int .i64 r.queue]] u fun e w' => e = .returned (.bool true) ∧ Below u.heap.size u w') (hS : ∀ u : World, Calls Try.prog 19 #[.agg #[.int .i64 p.dmac, .int .i64 p.smac, .int .i64 p.vlan, .int .i64 p.tos, .int .i64 p.id, .int .i64 p.ttl, .int .i64 p.sip, .int .i64 p.dip, .int .i64 p.seg_kind, .int .i64 p.seg_sport, .int .i64 p.seg_dport, .int .i64 p.seg_seq, .int .i64 p.seg_ack, .int .i64 p.seg_flags, .int .i64 p.seg_win, .string p.seg_body]] u fun e w' => e = .returned (.bool true) ∧ Below u.heap.size u w') (hP : ∀ u : World, Calls Try.prog 71 #[.int .i64 r.sip, .int .i64 p.sip, .int .i64 r.sbits] u fun e w' => e = .returned (.bool true) ∧ Below u.heap.size u w') (bk0 : (r.kind == 0) = true) (di : inB p.seg_dport r.fport r.lport = true) (bv2 : (r.vlan == (-2)) = true) :
    Calls Try.prog 48 #[.agg #[.int .i64 r.prio, .int .i64 r.kind, .int .i64 r.sip, .int .i64 r.sbits, .int .i64 r.fport, .int .i64 r.lport, .int .i64 r.vlan, .int .i64 r.action, .int .i64 r.queue], .agg #[.int .i64 p.dmac, .int .i64 p.smac, .int .i64 p.vlan, .int .i64 p.tos, .int .i64 p.id, .int .i64 p.ttl, .int .i64 p.sip, .int .i64 p.dip, .int .i64 p.seg_kind, .int .i64 p.seg_sport, .int .i64 p.seg_dport, .int .i64 p.seg_seq, .int .i64 p.seg_ack, .int .i64 p.seg_flags, .int .i64 p.seg_win, .string p.seg_body]] w fun e w' => e = .returned (.bool true) ∧ Below w.heap.size w w' := by
  go_enter Try.func48, Try.ntmps48
  go_wp2_with fail
  have k0 : Below w.heap.size w ((w.alloc (.cells #[.int .i64 r.prio, .int .i64 r.kind, .int .i64 r.sip, .int .i64 r.sbits, .int .i64 r.fport, .int .i64 r.lport, .int .i64 r.vlan, .int .i64 r.action, .int .i64 r.queue] 58)).alloc (.cells #[.int .i64 p.dmac, .int .i64 p.smac, .int .i64 p.vlan, .int .i64 p.tos, .int .i64 p.id, .int .i64 p.ttl, .int .i64 p.sip, .int .i64 p.dip, .int .i64 p.seg_kind, .int .i64 p.seg_sport, .int .i64 p.seg_dport, .int .i64 p.seg_seq, .int .i64 p.seg_ack, .int .i64 p.seg_flags, .int .i64 p.seg_win, .string p.seg_body] 41)) := by go_grown
  have bl0 : w.heap.size < ((w.alloc (.cells #[.int .i64 r.prio, .int .i64 r.kind, .int .i64 r.sip, .int .i64 r.sbits, .int .i64 r.fport, .int .i64 r.lport, .int .i64 r.vlan, .int .i64 r.action, .int .i64 r.queue] 58)).alloc (.cells #[.int .i64 p.dmac, .int .i64 p.smac, .int .i64 p.vlan, .int .i64 p.tos, .int .i64 p.id, .int .i64 p.ttl, .int .i64 p.sip, .int .i64 p.dip, .int .i64 p.seg_kind, .int .i64 p.seg_sport, .int .i64 p.seg_dport, .int .i64 p.seg_seq, .int .i64 p.seg_ack, .int .i64 p.seg_flags, .int .i64 p.seg_win, .string p.seg_body] 41)).heap.size := by go_size
  have hk0 : Blk ((w.alloc (.cells #[.int .i64 r.prio, .int .i64 r.kind, .int .i64 r.sip, .int .i64 r.sbits, .int .i64 r.fport, .int .i64 r.lport, .int .i64 r.vlan, .int .i64 r.action, .int .i64 r.queue] 58)).alloc (.cells #[.int .i64 p.dmac, .int .i64 p.smac, .int .i64 p.vlan, .int .i64 p.tos, .int .i64 p.id, .int .i64 p.ttl, .int .i64 p.sip, .int .i64 p.dip, .int .i64 p.seg_kind, .int .i64 p.seg_sport, .int .i64 p.seg_dport, .int .i64 p.seg_seq, .int .i64 p.seg_ack, .int .i64 p.seg_flags, .int .i64 p.seg_win, .string p.seg_body] 41)) (w.heap.size) 58 [.int .i64 r.prio, .int .i64 r.kind, .int .i64 r.sip, .int .i64 r.sbits, .int .i64 r.fport, .int .i64 r.lport, .int .i64 r.vlan, .int .i64 r.action, .int .i64 r.queue] := by simpa using (Blk.new w 58 [.int .i64 r.prio, .int .i64 r.kind, .int .i64 r.sip, .int .i64 r.sbits, .int .i64 r.fport, .int .i64 r.lport, .int .i64 r.vlan, .int .i64 r.action, .int .i64 r.queue]).alloc (.cells #[.int .i64 p.dmac, .int .i64 p.smac, .int .i64 p.vlan, .int .i64 p.tos, .int .i64 p.id, .int .i64 p.ttl, .int .i64 p.sip, .int .i64 p.dip, .int .i64 p.seg_kind, .int .i64 p.seg_sport, .int .i64 p.seg_dport, .int .i64 p.seg_seq, .int .i64 p.seg_ack, .int .i64 p.seg_flags, .int .i64 p.seg_win, .string p.seg_body] 41)
  have bl1 : w.heap.size + 1 < ((w.alloc (.cells #[.int .i64 r.prio, .int .i64 r.kind, .int .i64 r.sip, .int .i64 r.sbits, .int .i64 r.fport, .int .i64 r.lport, .int .i64 r.vlan, .int .i64 r.action, .int .i64 r.queue] 58)).alloc (.cells #[.int .i64 p.dmac, .int .i64 p.smac, .int .i64 p.vlan, .int .i64 p.tos, .int .i64 p.id, .int .i64 p.ttl, .int .i64 p.sip, .int .i64 p.dip, .int .i64 p.seg_kind, .int .i64 p.seg_sport, .int .i64 p.seg_dport, .int .i64 p.seg_seq, .int .i64 p.seg_ack, .int .i64 p.seg_flags, .int .i64 p.seg_win, .string p.seg_body] 41)).heap.size := by go_size
  have hk1 : Blk ((w.alloc (.cells #[.int .i64 r.prio, .int .i64 r.kind, .int .i64 r.sip, .int .i64 r.sbits, .int .i64 r.fport, .int .i64 r.lport, .int .i64 r.vlan, .int .i64 r.action, .int .i64 r.queue] 58)).alloc (.cells #[.int .i64 p.dmac, .int .i64 p.smac, .int .i64 p.vlan, .int .i64 p.tos, .int .i64 p.id, .int .i64 p.ttl, .int .i64 p.sip, .int .i64 p.dip, .int .i64 p.seg_kind, .int .i64 p.seg_sport, .int .i64 p.seg_dport, .int .i64 p.seg_seq, .int .i64 p.seg_ack, .int .i64 p.seg_flags, .int .i64 p.seg_win, .string p.seg_body] 41)) (w.heap.size + 1) 41 [.int .i64 p.dmac, .int .i64 p.smac, .int .i64 p.vlan, .int .i64 p.tos, .int .i64 p.id, .int .i64 p.ttl, .int .i64 p.sip, .int .i64 p.dip, .int .i64 p.seg_kind, .int .i64 p.seg_sport, .int .i64 p.seg_dport, .int .i64 p.seg_seq, .int .i64 p.seg_ack, .int .i64 p.seg_flags, .int .i64 p.seg_win, .string p.seg_body] := by simpa using Blk.new (w.alloc (.cells #[.int .i64 r.prio, .int .i64 r.kind, .int .i64 r.sip, .int .i64 r.sbits, .int .i64 r.fport, .int .i64 r.lport, .int .i64 r.vlan, .int .i64 r.action, .int .i64 r.queue] 58)) 41 [.int .i64 p.dmac, .int .i64 p.smac, .int .i64 p.vlan, .int .i64 p.tos, .int .i64 p.id, .int .i64 p.ttl, .int .i64 p.sip, .int .i64 p.dip, .int .i64 p.seg_kind, .int .i64 p.seg_sport, .int .i64 p.seg_dport, .int .i64 p.seg_seq, .int .i64 p.seg_ack, .int .i64 p.seg_flags, .int .i64 p.seg_win, .string p.seg_body]
  have p0 := k0.size
  generalize hW0 : ((w.alloc (.cells #[.int .i64 r.prio, .int .i64 r.kind, .int .i64 r.sip, .int .i64 r.sbits, .int .i64 r.fport, .int .i64 r.lport, .int .i64 r.vlan, .int .i64 r.action, .int .i64 r.queue] 58)).alloc (.cells #[.int .i64 p.dmac, .int .i64 p.smac, .int .i64 p.vlan, .int .i64 p.tos, .int .i64 p.id, .int .i64 p.ttl, .int .i64 p.sip, .int .i64 p.dip, .int .i64 p.seg_kind, .int .i64 p.seg_sport, .int .i64 p.seg_dport, .int .i64 p.seg_seq, .int .i64 p.seg_ack, .int .i64 p.seg_flags, .int .i64 p.seg_win, .string p.seg_body] 41)) = w0 at *
  clear hW0
  refine (hR _).mono ?_
  rintro e w1 ⟨rfl, hb⟩
  have k1 : Below w.heap.size w w1 := ext_step k0 (by omega) hb
  have p1 := hb.size
  replace hk0 := hk0.ext hb
  replace hk1 := hk1.ext hb
  have bl0 := Nat.lt_of_lt_of_le bl0 hb.size
  have bl1 := Nat.lt_of_lt_of_le bl1 hb.size
  clear hb
  have bx1_0 := hk1.at_ 0 _ rfl
  have bx1_1 := hk1.at_ 1 _ rfl
  have bx1_2 := hk1.at_ 2 _ rfl
  have bx1_3 := hk1.at_ 3 _ rfl
  have bx1_4 := hk1.at_ 4 _ rfl
  have bx1_5 := hk1.at_ 5 _ rfl
  have bx1_6 := hk1.at_ 6 _ rfl
  have bx1_7 := hk1.at_ 7 _ rfl
  have bx1_8 := hk1.at_ 8 _ rfl
  have bx1_9 := hk1.at_ 9 _ rfl
  have bx1_10 := hk1.at_ 10 _ rfl
  have bx1_11 := hk1.at_ 11 _ rfl
  have bx1_12 := hk1.at_ 12 _ rfl
  have bx1_13 := hk1.at_ 13 _ rfl
  have bx1_14 := hk1.at_ 14 _ rfl
  have bx1_15 := hk1.at_ 15 _ rfl
  go_wp2_with fail
  refine (hS _).mono ?_
  rintro e w2 ⟨rfl, hb⟩
  have k2 : Below w.heap.size w w2 := ext_step k1 (by omega) hb
  have p2 := hb.size
  replace hk0 := hk0.ext hb
  replace hk1 := hk1.ext hb
  clear bx1_0 bx1_1 bx1_2 bx1_3 bx1_4 bx1_5 bx1_6 bx1_7 bx1_8 bx1_9 bx1_10 bx1_11 bx1_12 bx1_13 bx1_14 bx1_15
  have bl0 := Nat.lt_of_lt_of_le bl0 hb.size
  have bl1 := Nat.lt_of_lt_of_le bl1 hb.size
  clear hb
  have bx0_1 := hk0.at_ 1 _ rfl
  have bx1_8 := hk1.at_ 8 _ rfl
  have bx0_2 := hk0.at_ 2 _ rfl
  have bx0_3 := hk0.at_ 3 _ rfl
  have bx1_6 := hk1.at_ 6 _ rfl
  go_wp2_with fail
  refine (hP _).mono ?_
  rintro e w3 ⟨rfl, hb⟩
  have k3 : Below w.heap.size w w3 := ext_step k2 (by omega) hb
  have p3 := hb.size
  replace hk0 := hk0.ext hb
  replace hk1 := hk1.ext hb
  clear bx0_1 bx1_8 bx0_2 bx0_3 bx1_6
  have bl0 := Nat.lt_of_lt_of_le bl0 hb.size
  have bl1 := Nat.lt_of_lt_of_le bl1 hb.size
  clear hb
  have bx0_4 := hk0.at_ 4 _ rfl
  have bx0_5 := hk0.at_ 5 _ rfl
  have bx0_6 := hk0.at_ 6 _ rfl
  have bx1_2 := hk1.at_ 2 _ rfl
  have bx1_10 := hk1.at_ 10 _ rfl
  go_wp2_with fail
  refine (between_c _ _ _ _).mono ?_
  rintro e w_ ⟨rfl, rfl⟩
  rw [di]
  go_wp2
  go_ret
  exact ⟨rfl, k3⟩
set_option maxRecDepth 100000 in
set_option maxHeartbeats 4000000 in
theorem implRM_av3 (r : Rule) (p : Packet) {b : Bool} (w : World) (hR : ∀ u : World, Calls Try.prog 51 #[.agg #[.int .i64 r.prio, .int .i64 r.kind, .int .i64 r.sip, .int .i64 r.sbits, .int .i64 r.fport, .int .i64 r.lport, .int .i64 r.vlan, .int .i64 r.action, .int .i64 r.queue]] u fun e w' => e = .returned (.bool true) ∧ Below u.heap.size u w') (hS : ∀ u : World, Calls Try.prog 19 #[.agg #[.int .i64 p.dmac, .int .i64 p.smac, .int .i64 p.vlan, .int .i64 p.tos, .int .i64 p.id, .int .i64 p.ttl, .int .i64 p.sip, .int .i64 p.dip, .int .i64 p.seg_kind, .int .i64 p.seg_sport, .int .i64 p.seg_dport, .int .i64 p.seg_seq, .int .i64 p.seg_ack, .int .i64 p.seg_flags, .int .i64 p.seg_win, .string p.seg_body]] u fun e w' => e = .returned (.bool true) ∧ Below u.heap.size u w') (hP : ∀ u : World, Calls Try.prog 71 #[.int .i64 r.sip, .int .i64 p.sip, .int .i64 r.sbits] u fun e w' => e = .returned (.bool true) ∧ Below u.heap.size u w') (bk0 : (r.kind == 0) = true) (di : inB p.seg_dport r.fport r.lport = true) (bv2 : (r.vlan == (-2)) = false) (bv3 : (r.vlan == p.vlan) = true) :
    Calls Try.prog 48 #[.agg #[.int .i64 r.prio, .int .i64 r.kind, .int .i64 r.sip, .int .i64 r.sbits, .int .i64 r.fport, .int .i64 r.lport, .int .i64 r.vlan, .int .i64 r.action, .int .i64 r.queue], .agg #[.int .i64 p.dmac, .int .i64 p.smac, .int .i64 p.vlan, .int .i64 p.tos, .int .i64 p.id, .int .i64 p.ttl, .int .i64 p.sip, .int .i64 p.dip, .int .i64 p.seg_kind, .int .i64 p.seg_sport, .int .i64 p.seg_dport, .int .i64 p.seg_seq, .int .i64 p.seg_ack, .int .i64 p.seg_flags, .int .i64 p.seg_win, .string p.seg_body]] w fun e w' => e = .returned (.bool true) ∧ Below w.heap.size w w' := by
  go_enter Try.func48, Try.ntmps48
  go_wp2_with fail
  have k0 : Below w.heap.size w ((w.alloc (.cells #[.int .i64 r.prio, .int .i64 r.kind, .int .i64 r.sip, .int .i64 r.sbits, .int .i64 r.fport, .int .i64 r.lport, .int .i64 r.vlan, .int .i64 r.action, .int .i64 r.queue] 58)).alloc (.cells #[.int .i64 p.dmac, .int .i64 p.smac, .int .i64 p.vlan, .int .i64 p.tos, .int .i64 p.id, .int .i64 p.ttl, .int .i64 p.sip, .int .i64 p.dip, .int .i64 p.seg_kind, .int .i64 p.seg_sport, .int .i64 p.seg_dport, .int .i64 p.seg_seq, .int .i64 p.seg_ack, .int .i64 p.seg_flags, .int .i64 p.seg_win, .string p.seg_body] 41)) := by go_grown
  have bl0 : w.heap.size < ((w.alloc (.cells #[.int .i64 r.prio, .int .i64 r.kind, .int .i64 r.sip, .int .i64 r.sbits, .int .i64 r.fport, .int .i64 r.lport, .int .i64 r.vlan, .int .i64 r.action, .int .i64 r.queue] 58)).alloc (.cells #[.int .i64 p.dmac, .int .i64 p.smac, .int .i64 p.vlan, .int .i64 p.tos, .int .i64 p.id, .int .i64 p.ttl, .int .i64 p.sip, .int .i64 p.dip, .int .i64 p.seg_kind, .int .i64 p.seg_sport, .int .i64 p.seg_dport, .int .i64 p.seg_seq, .int .i64 p.seg_ack, .int .i64 p.seg_flags, .int .i64 p.seg_win, .string p.seg_body] 41)).heap.size := by go_size
  have hk0 : Blk ((w.alloc (.cells #[.int .i64 r.prio, .int .i64 r.kind, .int .i64 r.sip, .int .i64 r.sbits, .int .i64 r.fport, .int .i64 r.lport, .int .i64 r.vlan, .int .i64 r.action, .int .i64 r.queue] 58)).alloc (.cells #[.int .i64 p.dmac, .int .i64 p.smac, .int .i64 p.vlan, .int .i64 p.tos, .int .i64 p.id, .int .i64 p.ttl, .int .i64 p.sip, .int .i64 p.dip, .int .i64 p.seg_kind, .int .i64 p.seg_sport, .int .i64 p.seg_dport, .int .i64 p.seg_seq, .int .i64 p.seg_ack, .int .i64 p.seg_flags, .int .i64 p.seg_win, .string p.seg_body] 41)) (w.heap.size) 58 [.int .i64 r.prio, .int .i64 r.kind, .int .i64 r.sip, .int .i64 r.sbits, .int .i64 r.fport, .int .i64 r.lport, .int .i64 r.vlan, .int .i64 r.action, .int .i64 r.queue] := by simpa using (Blk.new w 58 [.int .i64 r.prio, .int .i64 r.kind, .int .i64 r.sip, .int .i64 r.sbits, .int .i64 r.fport, .int .i64 r.lport, .int .i64 r.vlan, .int .i64 r.action, .int .i64 r.queue]).alloc (.cells #[.int .i64 p.dmac, .int .i64 p.smac, .int .i64 p.vlan, .int .i64 p.tos, .int .i64 p.id, .int .i64 p.ttl, .int .i64 p.sip, .int .i64 p.dip, .int .i64 p.seg_kind, .int .i64 p.seg_sport, .int .i64 p.seg_dport, .int .i64 p.seg_seq, .int .i64 p.seg_ack, .int .i64 p.seg_flags, .int .i64 p.seg_win, .string p.seg_body] 41)
  have bl1 : w.heap.size + 1 < ((w.alloc (.cells #[.int .i64 r.prio, .int .i64 r.kind, .int .i64 r.sip, .int .i64 r.sbits, .int .i64 r.fport, .int .i64 r.lport, .int .i64 r.vlan, .int .i64 r.action, .int .i64 r.queue] 58)).alloc (.cells #[.int .i64 p.dmac, .int .i64 p.smac, .int .i64 p.vlan, .int .i64 p.tos, .int .i64 p.id, .int .i64 p.ttl, .int .i64 p.sip, .int .i64 p.dip, .int .i64 p.seg_kind, .int .i64 p.seg_sport, .int .i64 p.seg_dport, .int .i64 p.seg_seq, .int .i64 p.seg_ack, .int .i64 p.seg_flags, .int .i64 p.seg_win, .string p.seg_body] 41)).heap.size := by go_size
  have hk1 : Blk ((w.alloc (.cells #[.int .i64 r.prio, .int .i64 r.kind, .int .i64 r.sip, .int .i64 r.sbits, .int .i64 r.fport, .int .i64 r.lport, .int .i64 r.vlan, .int .i64 r.action, .int .i64 r.queue] 58)).alloc (.cells #[.int .i64 p.dmac, .int .i64 p.smac, .int .i64 p.vlan, .int .i64 p.tos, .int .i64 p.id, .int .i64 p.ttl, .int .i64 p.sip, .int .i64 p.dip, .int .i64 p.seg_kind, .int .i64 p.seg_sport, .int .i64 p.seg_dport, .int .i64 p.seg_seq, .int .i64 p.seg_ack, .int .i64 p.seg_flags, .int .i64 p.seg_win, .string p.seg_body] 41)) (w.heap.size + 1) 41 [.int .i64 p.dmac, .int .i64 p.smac, .int .i64 p.vlan, .int .i64 p.tos, .int .i64 p.id, .int .i64 p.ttl, .int .i64 p.sip, .int .i64 p.dip, .int .i64 p.seg_kind, .int .i64 p.seg_sport, .int .i64 p.seg_dport, .int .i64 p.seg_seq, .int .i64 p.seg_ack, .int .i64 p.seg_flags, .int .i64 p.seg_win, .string p.seg_body] := by simpa using Blk.new (w.alloc (.cells #[.int .i64 r.prio, .int .i64 r.kind, .int .i64 r.sip, .int .i64 r.sbits, .int .i64 r.fport, .int .i64 r.lport, .int .i64 r.vlan, .int .i64 r.action, .int .i64 r.queue] 58)) 41 [.int .i64 p.dmac, .int .i64 p.smac, .int .i64 p.vlan, .int .i64 p.tos, .int .i64 p.id, .int .i64 p.ttl, .int .i64 p.sip, .int .i64 p.dip, .int .i64 p.seg_kind, .int .i64 p.seg_sport, .int .i64 p.seg_dport, .int .i64 p.seg_seq, .int .i64 p.seg_ack, .int .i64 p.seg_flags, .int .i64 p.seg_win, .string p.seg_body]
  have p0 := k0.size
  generalize hW0 : ((w.alloc (.cells #[.int .i64 r.prio, .int .i64 r.kind, .int .i64 r.sip, .int .i64 r.sbits, .int .i64 r.fport, .int .i64 r.lport, .int .i64 r.vlan, .int .i64 r.action, .int .i64 r.queue] 58)).alloc (.cells #[.int .i64 p.dmac, .int .i64 p.smac, .int .i64 p.vlan, .int .i64 p.tos, .int .i64 p.id, .int .i64 p.ttl, .int .i64 p.sip, .int .i64 p.dip, .int .i64 p.seg_kind, .int .i64 p.seg_sport, .int .i64 p.seg_dport, .int .i64 p.seg_seq, .int .i64 p.seg_ack, .int .i64 p.seg_flags, .int .i64 p.seg_win, .string p.seg_body] 41)) = w0 at *
  clear hW0
  refine (hR _).mono ?_
  rintro e w1 ⟨rfl, hb⟩
  have k1 : Below w.heap.size w w1 := ext_step k0 (by omega) hb
  have p1 := hb.size
  replace hk0 := hk0.ext hb
  replace hk1 := hk1.ext hb
  have bl0 := Nat.lt_of_lt_of_le bl0 hb.size
  have bl1 := Nat.lt_of_lt_of_le bl1 hb.size
  clear hb
  have bx1_0 := hk1.at_ 0 _ rfl
  have bx1_1 := hk1.at_ 1 _ rfl
  have bx1_2 := hk1.at_ 2 _ rfl
  have bx1_3 := hk1.at_ 3 _ rfl
  have bx1_4 := hk1.at_ 4 _ rfl
  have bx1_5 := hk1.at_ 5 _ rfl
  have bx1_6 := hk1.at_ 6 _ rfl
  have bx1_7 := hk1.at_ 7 _ rfl
  have bx1_8 := hk1.at_ 8 _ rfl
  have bx1_9 := hk1.at_ 9 _ rfl
  have bx1_10 := hk1.at_ 10 _ rfl
  have bx1_11 := hk1.at_ 11 _ rfl
  have bx1_12 := hk1.at_ 12 _ rfl
  have bx1_13 := hk1.at_ 13 _ rfl
  have bx1_14 := hk1.at_ 14 _ rfl
  have bx1_15 := hk1.at_ 15 _ rfl
  go_wp2_with fail
  refine (hS _).mono ?_
  rintro e w2 ⟨rfl, hb⟩
  have k2 : Below w.heap.size w w2 := ext_step k1 (by omega) hb
  have p2 := hb.size
  replace hk0 := hk0.ext hb
  replace hk1 := hk1.ext hb
  clear bx1_0 bx1_1 bx1_2 bx1_3 bx1_4 bx1_5 bx1_6 bx1_7 bx1_8 bx1_9 bx1_10 bx1_11 bx1_12 bx1_13 bx1_14 bx1_15
  have bl0 := Nat.lt_of_lt_of_le bl0 hb.size
  have bl1 := Nat.lt_of_lt_of_le bl1 hb.size
  clear hb
  have bx0_1 := hk0.at_ 1 _ rfl
  have bx1_8 := hk1.at_ 8 _ rfl
  have bx0_2 := hk0.at_ 2 _ rfl
  have bx0_3 := hk0.at_ 3 _ rfl
  have bx1_6 := hk1.at_ 6 _ rfl
  go_wp2_with fail
  refine (hP _).mono ?_
  rintro e w3 ⟨rfl, hb⟩
  have k3 : Below w.heap.size w w3 := ext_step k2 (by omega) hb
  have p3 := hb.size
  replace hk0 := hk0.ext hb
  replace hk1 := hk1.ext hb
  clear bx0_1 bx1_8 bx0_2 bx0_3 bx1_6
  have bl0 := Nat.lt_of_lt_of_le bl0 hb.size
  have bl1 := Nat.lt_of_lt_of_le bl1 hb.size
  clear hb
  have bx0_4 := hk0.at_ 4 _ rfl
  have bx0_5 := hk0.at_ 5 _ rfl
  have bx0_6 := hk0.at_ 6 _ rfl
  have bx1_2 := hk1.at_ 2 _ rfl
  have bx1_10 := hk1.at_ 10 _ rfl
  go_wp2_with fail
  refine (between_c _ _ _ _).mono ?_
  rintro e w_ ⟨rfl, rfl⟩
  rw [di]
  go_wp2
  go_ret
  exact ⟨rfl, k3⟩
set_option maxRecDepth 100000 in
set_option maxHeartbeats 4000000 in
theorem implRM_avn (r : Rule) (p : Packet) {b : Bool} (w : World) (hR : ∀ u : World, Calls Try.prog 51 #[.agg #[.int .i64 r.prio, .int .i64 r.kind, .int .i64 r.sip, .int .i64 r.sbits, .int .i64 r.fport, .int .i64 r.lport, .int .i64 r.vlan, .int .i64 r.action, .int .i64 r.queue]] u fun e w' => e = .returned (.bool true) ∧ Below u.heap.size u w') (hS : ∀ u : World, Calls Try.prog 19 #[.agg #[.int .i64 p.dmac, .int .i64 p.smac, .int .i64 p.vlan, .int .i64 p.tos, .int .i64 p.id, .int .i64 p.ttl, .int .i64 p.sip, .int .i64 p.dip, .int .i64 p.seg_kind, .int .i64 p.seg_sport, .int .i64 p.seg_dport, .int .i64 p.seg_seq, .int .i64 p.seg_ack, .int .i64 p.seg_flags, .int .i64 p.seg_win, .string p.seg_body]] u fun e w' => e = .returned (.bool true) ∧ Below u.heap.size u w') (hP : ∀ u : World, Calls Try.prog 71 #[.int .i64 r.sip, .int .i64 p.sip, .int .i64 r.sbits] u fun e w' => e = .returned (.bool true) ∧ Below u.heap.size u w') (bk0 : (r.kind == 0) = true) (di : inB p.seg_dport r.fport r.lport = true) (bv2 : (r.vlan == (-2)) = false) (bv3 : (r.vlan == p.vlan) = false) :
    Calls Try.prog 48 #[.agg #[.int .i64 r.prio, .int .i64 r.kind, .int .i64 r.sip, .int .i64 r.sbits, .int .i64 r.fport, .int .i64 r.lport, .int .i64 r.vlan, .int .i64 r.action, .int .i64 r.queue], .agg #[.int .i64 p.dmac, .int .i64 p.smac, .int .i64 p.vlan, .int .i64 p.tos, .int .i64 p.id, .int .i64 p.ttl, .int .i64 p.sip, .int .i64 p.dip, .int .i64 p.seg_kind, .int .i64 p.seg_sport, .int .i64 p.seg_dport, .int .i64 p.seg_seq, .int .i64 p.seg_ack, .int .i64 p.seg_flags, .int .i64 p.seg_win, .string p.seg_body]] w fun e w' => e = .returned (.bool false) ∧ Below w.heap.size w w' := by
  go_enter Try.func48, Try.ntmps48
  go_wp2_with fail
  have k0 : Below w.heap.size w ((w.alloc (.cells #[.int .i64 r.prio, .int .i64 r.kind, .int .i64 r.sip, .int .i64 r.sbits, .int .i64 r.fport, .int .i64 r.lport, .int .i64 r.vlan, .int .i64 r.action, .int .i64 r.queue] 58)).alloc (.cells #[.int .i64 p.dmac, .int .i64 p.smac, .int .i64 p.vlan, .int .i64 p.tos, .int .i64 p.id, .int .i64 p.ttl, .int .i64 p.sip, .int .i64 p.dip, .int .i64 p.seg_kind, .int .i64 p.seg_sport, .int .i64 p.seg_dport, .int .i64 p.seg_seq, .int .i64 p.seg_ack, .int .i64 p.seg_flags, .int .i64 p.seg_win, .string p.seg_body] 41)) := by go_grown
  have bl0 : w.heap.size < ((w.alloc (.cells #[.int .i64 r.prio, .int .i64 r.kind, .int .i64 r.sip, .int .i64 r.sbits, .int .i64 r.fport, .int .i64 r.lport, .int .i64 r.vlan, .int .i64 r.action, .int .i64 r.queue] 58)).alloc (.cells #[.int .i64 p.dmac, .int .i64 p.smac, .int .i64 p.vlan, .int .i64 p.tos, .int .i64 p.id, .int .i64 p.ttl, .int .i64 p.sip, .int .i64 p.dip, .int .i64 p.seg_kind, .int .i64 p.seg_sport, .int .i64 p.seg_dport, .int .i64 p.seg_seq, .int .i64 p.seg_ack, .int .i64 p.seg_flags, .int .i64 p.seg_win, .string p.seg_body] 41)).heap.size := by go_size
  have hk0 : Blk ((w.alloc (.cells #[.int .i64 r.prio, .int .i64 r.kind, .int .i64 r.sip, .int .i64 r.sbits, .int .i64 r.fport, .int .i64 r.lport, .int .i64 r.vlan, .int .i64 r.action, .int .i64 r.queue] 58)).alloc (.cells #[.int .i64 p.dmac, .int .i64 p.smac, .int .i64 p.vlan, .int .i64 p.tos, .int .i64 p.id, .int .i64 p.ttl, .int .i64 p.sip, .int .i64 p.dip, .int .i64 p.seg_kind, .int .i64 p.seg_sport, .int .i64 p.seg_dport, .int .i64 p.seg_seq, .int .i64 p.seg_ack, .int .i64 p.seg_flags, .int .i64 p.seg_win, .string p.seg_body] 41)) (w.heap.size) 58 [.int .i64 r.prio, .int .i64 r.kind, .int .i64 r.sip, .int .i64 r.sbits, .int .i64 r.fport, .int .i64 r.lport, .int .i64 r.vlan, .int .i64 r.action, .int .i64 r.queue] := by simpa using (Blk.new w 58 [.int .i64 r.prio, .int .i64 r.kind, .int .i64 r.sip, .int .i64 r.sbits, .int .i64 r.fport, .int .i64 r.lport, .int .i64 r.vlan, .int .i64 r.action, .int .i64 r.queue]).alloc (.cells #[.int .i64 p.dmac, .int .i64 p.smac, .int .i64 p.vlan, .int .i64 p.tos, .int .i64 p.id, .int .i64 p.ttl, .int .i64 p.sip, .int .i64 p.dip, .int .i64 p.seg_kind, .int .i64 p.seg_sport, .int .i64 p.seg_dport, .int .i64 p.seg_seq, .int .i64 p.seg_ack, .int .i64 p.seg_flags, .int .i64 p.seg_win, .string p.seg_body] 41)
  have bl1 : w.heap.size + 1 < ((w.alloc (.cells #[.int .i64 r.prio, .int .i64 r.kind, .int .i64 r.sip, .int .i64 r.sbits, .int .i64 r.fport, .int .i64 r.lport, .int .i64 r.vlan, .int .i64 r.action, .int .i64 r.queue] 58)).alloc (.cells #[.int .i64 p.dmac, .int .i64 p.smac, .int .i64 p.vlan, .int .i64 p.tos, .int .i64 p.id, .int .i64 p.ttl, .int .i64 p.sip, .int .i64 p.dip, .int .i64 p.seg_kind, .int .i64 p.seg_sport, .int .i64 p.seg_dport, .int .i64 p.seg_seq, .int .i64 p.seg_ack, .int .i64 p.seg_flags, .int .i64 p.seg_win, .string p.seg_body] 41)).heap.size := by go_size
  have hk1 : Blk ((w.alloc (.cells #[.int .i64 r.prio, .int .i64 r.kind, .int .i64 r.sip, .int .i64 r.sbits, .int .i64 r.fport, .int .i64 r.lport, .int .i64 r.vlan, .int .i64 r.action, .int .i64 r.queue] 58)).alloc (.cells #[.int .i64 p.dmac, .int .i64 p.smac, .int .i64 p.vlan, .int .i64 p.tos, .int .i64 p.id, .int .i64 p.ttl, .int .i64 p.sip, .int .i64 p.dip, .int .i64 p.seg_kind, .int .i64 p.seg_sport, .int .i64 p.seg_dport, .int .i64 p.seg_seq, .int .i64 p.seg_ack, .int .i64 p.seg_flags, .int .i64 p.seg_win, .string p.seg_body] 41)) (w.heap.size + 1) 41 [.int .i64 p.dmac, .int .i64 p.smac, .int .i64 p.vlan, .int .i64 p.tos, .int .i64 p.id, .int .i64 p.ttl, .int .i64 p.sip, .int .i64 p.dip, .int .i64 p.seg_kind, .int .i64 p.seg_sport, .int .i64 p.seg_dport, .int .i64 p.seg_seq, .int .i64 p.seg_ack, .int .i64 p.seg_flags, .int .i64 p.seg_win, .string p.seg_body] := by simpa using Blk.new (w.alloc (.cells #[.int .i64 r.prio, .int .i64 r.kind, .int .i64 r.sip, .int .i64 r.sbits, .int .i64 r.fport, .int .i64 r.lport, .int .i64 r.vlan, .int .i64 r.action, .int .i64 r.queue] 58)) 41 [.int .i64 p.dmac, .int .i64 p.smac, .int .i64 p.vlan, .int .i64 p.tos, .int .i64 p.id, .int .i64 p.ttl, .int .i64 p.sip, .int .i64 p.dip, .int .i64 p.seg_kind, .int .i64 p.seg_sport, .int .i64 p.seg_dport, .int .i64 p.seg_seq, .int .i64 p.seg_ack, .int .i64 p.seg_flags, .int .i64 p.seg_win, .string p.seg_body]
  have p0 := k0.size
  generalize hW0 : ((w.alloc (.cells #[.int .i64 r.prio, .int .i64 r.kind, .int .i64 r.sip, .int .i64 r.sbits, .int .i64 r.fport, .int .i64 r.lport, .int .i64 r.vlan, .int .i64 r.action, .int .i64 r.queue] 58)).alloc (.cells #[.int .i64 p.dmac, .int .i64 p.smac, .int .i64 p.vlan, .int .i64 p.tos, .int .i64 p.id, .int .i64 p.ttl, .int .i64 p.sip, .int .i64 p.dip, .int .i64 p.seg_kind, .int .i64 p.seg_sport, .int .i64 p.seg_dport, .int .i64 p.seg_seq, .int .i64 p.seg_ack, .int .i64 p.seg_flags, .int .i64 p.seg_win, .string p.seg_body] 41)) = w0 at *
  clear hW0
  refine (hR _).mono ?_
  rintro e w1 ⟨rfl, hb⟩
  have k1 : Below w.heap.size w w1 := ext_step k0 (by omega) hb
  have p1 := hb.size
  replace hk0 := hk0.ext hb
  replace hk1 := hk1.ext hb
  have bl0 := Nat.lt_of_lt_of_le bl0 hb.size
  have bl1 := Nat.lt_of_lt_of_le bl1 hb.size
  clear hb
  have bx1_0 := hk1.at_ 0 _ rfl
  have bx1_1 := hk1.at_ 1 _ rfl
  have bx1_2 := hk1.at_ 2 _ rfl
  have bx1_3 := hk1.at_ 3 _ rfl
  have bx1_4 := hk1.at_ 4 _ rfl
  have bx1_5 := hk1.at_ 5 _ rfl
  have bx1_6 := hk1.at_ 6 _ rfl
  have bx1_7 := hk1.at_ 7 _ rfl
  have bx1_8 := hk1.at_ 8 _ rfl
  have bx1_9 := hk1.at_ 9 _ rfl
  have bx1_10 := hk1.at_ 10 _ rfl
  have bx1_11 := hk1.at_ 11 _ rfl
  have bx1_12 := hk1.at_ 12 _ rfl
  have bx1_13 := hk1.at_ 13 _ rfl
  have bx1_14 := hk1.at_ 14 _ rfl
  have bx1_15 := hk1.at_ 15 _ rfl
  go_wp2_with fail
  refine (hS _).mono ?_
  rintro e w2 ⟨rfl, hb⟩
  have k2 : Below w.heap.size w w2 := ext_step k1 (by omega) hb
  have p2 := hb.size
  replace hk0 := hk0.ext hb
  replace hk1 := hk1.ext hb
  clear bx1_0 bx1_1 bx1_2 bx1_3 bx1_4 bx1_5 bx1_6 bx1_7 bx1_8 bx1_9 bx1_10 bx1_11 bx1_12 bx1_13 bx1_14 bx1_15
  have bl0 := Nat.lt_of_lt_of_le bl0 hb.size
  have bl1 := Nat.lt_of_lt_of_le bl1 hb.size
  clear hb
  have bx0_1 := hk0.at_ 1 _ rfl
  have bx1_8 := hk1.at_ 8 _ rfl
  have bx0_2 := hk0.at_ 2 _ rfl
  have bx0_3 := hk0.at_ 3 _ rfl
  have bx1_6 := hk1.at_ 6 _ rfl
  go_wp2_with fail
  refine (hP _).mono ?_
  rintro e w3 ⟨rfl, hb⟩
  have k3 : Below w.heap.size w w3 := ext_step k2 (by omega) hb
  have p3 := hb.size
  replace hk0 := hk0.ext hb
  replace hk1 := hk1.ext hb
  clear bx0_1 bx1_8 bx0_2 bx0_3 bx1_6
  have bl0 := Nat.lt_of_lt_of_le bl0 hb.size
  have bl1 := Nat.lt_of_lt_of_le bl1 hb.size
  clear hb
  have bx0_4 := hk0.at_ 4 _ rfl
  have bx0_5 := hk0.at_ 5 _ rfl
  have bx0_6 := hk0.at_ 6 _ rfl
  have bx1_2 := hk1.at_ 2 _ rfl
  have bx1_10 := hk1.at_ 10 _ rfl
  go_wp2_with fail
  refine (between_c _ _ _ _).mono ?_
  rintro e w_ ⟨rfl, rfl⟩
  rw [di]
  go_wp2
  go_ret
  exact ⟨rfl, k3⟩
set_option maxRecDepth 100000 in
set_option maxHeartbeats 4000000 in
theorem implRM_ad (r : Rule) (p : Packet) {b : Bool} (w : World) (hR : ∀ u : World, Calls Try.prog 51 #[.agg #[.int .i64 r.prio, .int .i64 r.kind, .int .i64 r.sip, .int .i64 r.sbits, .int .i64 r.fport, .int .i64 r.lport, .int .i64 r.vlan, .int .i64 r.action, .int .i64 r.queue]] u fun e w' => e = .returned (.bool true) ∧ Below u.heap.size u w') (hS : ∀ u : World, Calls Try.prog 19 #[.agg #[.int .i64 p.dmac, .int .i64 p.smac, .int .i64 p.vlan, .int .i64 p.tos, .int .i64 p.id, .int .i64 p.ttl, .int .i64 p.sip, .int .i64 p.dip, .int .i64 p.seg_kind, .int .i64 p.seg_sport, .int .i64 p.seg_dport, .int .i64 p.seg_seq, .int .i64 p.seg_ack, .int .i64 p.seg_flags, .int .i64 p.seg_win, .string p.seg_body]] u fun e w' => e = .returned (.bool true) ∧ Below u.heap.size u w') (hP : ∀ u : World, Calls Try.prog 71 #[.int .i64 r.sip, .int .i64 p.sip, .int .i64 r.sbits] u fun e w' => e = .returned (.bool true) ∧ Below u.heap.size u w') (bk0 : (r.kind == 0) = true) (di : inB p.seg_dport r.fport r.lport = false) :
    Calls Try.prog 48 #[.agg #[.int .i64 r.prio, .int .i64 r.kind, .int .i64 r.sip, .int .i64 r.sbits, .int .i64 r.fport, .int .i64 r.lport, .int .i64 r.vlan, .int .i64 r.action, .int .i64 r.queue], .agg #[.int .i64 p.dmac, .int .i64 p.smac, .int .i64 p.vlan, .int .i64 p.tos, .int .i64 p.id, .int .i64 p.ttl, .int .i64 p.sip, .int .i64 p.dip, .int .i64 p.seg_kind, .int .i64 p.seg_sport, .int .i64 p.seg_dport, .int .i64 p.seg_seq, .int .i64 p.seg_ack, .int .i64 p.seg_flags, .int .i64 p.seg_win, .string p.seg_body]] w fun e w' => e = .returned (.bool false) ∧ Below w.heap.size w w' := by
  go_enter Try.func48, Try.ntmps48
  go_wp2_with fail
  have k0 : Below w.heap.size w ((w.alloc (.cells #[.int .i64 r.prio, .int .i64 r.kind, .int .i64 r.sip, .int .i64 r.sbits, .int .i64 r.fport, .int .i64 r.lport, .int .i64 r.vlan, .int .i64 r.action, .int .i64 r.queue] 58)).alloc (.cells #[.int .i64 p.dmac, .int .i64 p.smac, .int .i64 p.vlan, .int .i64 p.tos, .int .i64 p.id, .int .i64 p.ttl, .int .i64 p.sip, .int .i64 p.dip, .int .i64 p.seg_kind, .int .i64 p.seg_sport, .int .i64 p.seg_dport, .int .i64 p.seg_seq, .int .i64 p.seg_ack, .int .i64 p.seg_flags, .int .i64 p.seg_win, .string p.seg_body] 41)) := by go_grown
  have bl0 : w.heap.size < ((w.alloc (.cells #[.int .i64 r.prio, .int .i64 r.kind, .int .i64 r.sip, .int .i64 r.sbits, .int .i64 r.fport, .int .i64 r.lport, .int .i64 r.vlan, .int .i64 r.action, .int .i64 r.queue] 58)).alloc (.cells #[.int .i64 p.dmac, .int .i64 p.smac, .int .i64 p.vlan, .int .i64 p.tos, .int .i64 p.id, .int .i64 p.ttl, .int .i64 p.sip, .int .i64 p.dip, .int .i64 p.seg_kind, .int .i64 p.seg_sport, .int .i64 p.seg_dport, .int .i64 p.seg_seq, .int .i64 p.seg_ack, .int .i64 p.seg_flags, .int .i64 p.seg_win, .string p.seg_body] 41)).heap.size := by go_size
  have hk0 : Blk ((w.alloc (.cells #[.int .i64 r.prio, .int .i64 r.kind, .int .i64 r.sip, .int .i64 r.sbits, .int .i64 r.fport, .int .i64 r.lport, .int .i64 r.vlan, .int .i64 r.action, .int .i64 r.queue] 58)).alloc (.cells #[.int .i64 p.dmac, .int .i64 p.smac, .int .i64 p.vlan, .int .i64 p.tos, .int .i64 p.id, .int .i64 p.ttl, .int .i64 p.sip, .int .i64 p.dip, .int .i64 p.seg_kind, .int .i64 p.seg_sport, .int .i64 p.seg_dport, .int .i64 p.seg_seq, .int .i64 p.seg_ack, .int .i64 p.seg_flags, .int .i64 p.seg_win, .string p.seg_body] 41)) (w.heap.size) 58 [.int .i64 r.prio, .int .i64 r.kind, .int .i64 r.sip, .int .i64 r.sbits, .int .i64 r.fport, .int .i64 r.lport, .int .i64 r.vlan, .int .i64 r.action, .int .i64 r.queue] := by simpa using (Blk.new w 58 [.int .i64 r.prio, .int .i64 r.kind, .int .i64 r.sip, .int .i64 r.sbits, .int .i64 r.fport, .int .i64 r.lport, .int .i64 r.vlan, .int .i64 r.action, .int .i64 r.queue]).alloc (.cells #[.int .i64 p.dmac, .int .i64 p.smac, .int .i64 p.vlan, .int .i64 p.tos, .int .i64 p.id, .int .i64 p.ttl, .int .i64 p.sip, .int .i64 p.dip, .int .i64 p.seg_kind, .int .i64 p.seg_sport, .int .i64 p.seg_dport, .int .i64 p.seg_seq, .int .i64 p.seg_ack, .int .i64 p.seg_flags, .int .i64 p.seg_win, .string p.seg_body] 41)
  have bl1 : w.heap.size + 1 < ((w.alloc (.cells #[.int .i64 r.prio, .int .i64 r.kind, .int .i64 r.sip, .int .i64 r.sbits, .int .i64 r.fport, .int .i64 r.lport, .int .i64 r.vlan, .int .i64 r.action, .int .i64 r.queue] 58)).alloc (.cells #[.int .i64 p.dmac, .int .i64 p.smac, .int .i64 p.vlan, .int .i64 p.tos, .int .i64 p.id, .int .i64 p.ttl, .int .i64 p.sip, .int .i64 p.dip, .int .i64 p.seg_kind, .int .i64 p.seg_sport, .int .i64 p.seg_dport, .int .i64 p.seg_seq, .int .i64 p.seg_ack, .int .i64 p.seg_flags, .int .i64 p.seg_win, .string p.seg_body] 41)).heap.size := by go_size
  have hk1 : Blk ((w.alloc (.cells #[.int .i64 r.prio, .int .i64 r.kind, .int .i64 r.sip, .int .i64 r.sbits, .int .i64 r.fport, .int .i64 r.lport, .int .i64 r.vlan, .int .i64 r.action, .int .i64 r.queue] 58)).alloc (.cells #[.int .i64 p.dmac, .int .i64 p.smac, .int .i64 p.vlan, .int .i64 p.tos, .int .i64 p.id, .int .i64 p.ttl, .int .i64 p.sip, .int .i64 p.dip, .int .i64 p.seg_kind, .int .i64 p.seg_sport, .int .i64 p.seg_dport, .int .i64 p.seg_seq, .int .i64 p.seg_ack, .int .i64 p.seg_flags, .int .i64 p.seg_win, .string p.seg_body] 41)) (w.heap.size + 1) 41 [.int .i64 p.dmac, .int .i64 p.smac, .int .i64 p.vlan, .int .i64 p.tos, .int .i64 p.id, .int .i64 p.ttl, .int .i64 p.sip, .int .i64 p.dip, .int .i64 p.seg_kind, .int .i64 p.seg_sport, .int .i64 p.seg_dport, .int .i64 p.seg_seq, .int .i64 p.seg_ack, .int .i64 p.seg_flags, .int .i64 p.seg_win, .string p.seg_body] := by simpa using Blk.new (w.alloc (.cells #[.int .i64 r.prio, .int .i64 r.kind, .int .i64 r.sip, .int .i64 r.sbits, .int .i64 r.fport, .int .i64 r.lport, .int .i64 r.vlan, .int .i64 r.action, .int .i64 r.queue] 58)) 41 [.int .i64 p.dmac, .int .i64 p.smac, .int .i64 p.vlan, .int .i64 p.tos, .int .i64 p.id, .int .i64 p.ttl, .int .i64 p.sip, .int .i64 p.dip, .int .i64 p.seg_kind, .int .i64 p.seg_sport, .int .i64 p.seg_dport, .int .i64 p.seg_seq, .int .i64 p.seg_ack, .int .i64 p.seg_flags, .int .i64 p.seg_win, .string p.seg_body]
  have p0 := k0.size
  generalize hW0 : ((w.alloc (.cells #[.int .i64 r.prio, .int .i64 r.kind, .int .i64 r.sip, .int .i64 r.sbits, .int .i64 r.fport, .int .i64 r.lport, .int .i64 r.vlan, .int .i64 r.action, .int .i64 r.queue] 58)).alloc (.cells #[.int .i64 p.dmac, .int .i64 p.smac, .int .i64 p.vlan, .int .i64 p.tos, .int .i64 p.id, .int .i64 p.ttl, .int .i64 p.sip, .int .i64 p.dip, .int .i64 p.seg_kind, .int .i64 p.seg_sport, .int .i64 p.seg_dport, .int .i64 p.seg_seq, .int .i64 p.seg_ack, .int .i64 p.seg_flags, .int .i64 p.seg_win, .string p.seg_body] 41)) = w0 at *
  clear hW0
  refine (hR _).mono ?_
  rintro e w1 ⟨rfl, hb⟩
  have k1 : Below w.heap.size w w1 := ext_step k0 (by omega) hb
  have p1 := hb.size
  replace hk0 := hk0.ext hb
  replace hk1 := hk1.ext hb
  have bl0 := Nat.lt_of_lt_of_le bl0 hb.size
  have bl1 := Nat.lt_of_lt_of_le bl1 hb.size
  clear hb
  have bx1_0 := hk1.at_ 0 _ rfl
  have bx1_1 := hk1.at_ 1 _ rfl
  have bx1_2 := hk1.at_ 2 _ rfl
  have bx1_3 := hk1.at_ 3 _ rfl
  have bx1_4 := hk1.at_ 4 _ rfl
  have bx1_5 := hk1.at_ 5 _ rfl
  have bx1_6 := hk1.at_ 6 _ rfl
  have bx1_7 := hk1.at_ 7 _ rfl
  have bx1_8 := hk1.at_ 8 _ rfl
  have bx1_9 := hk1.at_ 9 _ rfl
  have bx1_10 := hk1.at_ 10 _ rfl
  have bx1_11 := hk1.at_ 11 _ rfl
  have bx1_12 := hk1.at_ 12 _ rfl
  have bx1_13 := hk1.at_ 13 _ rfl
  have bx1_14 := hk1.at_ 14 _ rfl
  have bx1_15 := hk1.at_ 15 _ rfl
  go_wp2_with fail
  refine (hS _).mono ?_
  rintro e w2 ⟨rfl, hb⟩
  have k2 : Below w.heap.size w w2 := ext_step k1 (by omega) hb
  have p2 := hb.size
  replace hk0 := hk0.ext hb
  replace hk1 := hk1.ext hb
  clear bx1_0 bx1_1 bx1_2 bx1_3 bx1_4 bx1_5 bx1_6 bx1_7 bx1_8 bx1_9 bx1_10 bx1_11 bx1_12 bx1_13 bx1_14 bx1_15
  have bl0 := Nat.lt_of_lt_of_le bl0 hb.size
  have bl1 := Nat.lt_of_lt_of_le bl1 hb.size
  clear hb
  have bx0_1 := hk0.at_ 1 _ rfl
  have bx1_8 := hk1.at_ 8 _ rfl
  have bx0_2 := hk0.at_ 2 _ rfl
  have bx0_3 := hk0.at_ 3 _ rfl
  have bx1_6 := hk1.at_ 6 _ rfl
  go_wp2_with fail
  refine (hP _).mono ?_
  rintro e w3 ⟨rfl, hb⟩
  have k3 : Below w.heap.size w w3 := ext_step k2 (by omega) hb
  have p3 := hb.size
  replace hk0 := hk0.ext hb
  replace hk1 := hk1.ext hb
  clear bx0_1 bx1_8 bx0_2 bx0_3 bx1_6
  have bl0 := Nat.lt_of_lt_of_le bl0 hb.size
  have bl1 := Nat.lt_of_lt_of_le bl1 hb.size
  clear hb
  have bx0_4 := hk0.at_ 4 _ rfl
  have bx0_5 := hk0.at_ 5 _ rfl
  have bx0_6 := hk0.at_ 6 _ rfl
  have bx1_2 := hk1.at_ 2 _ rfl
  have bx1_10 := hk1.at_ 10 _ rfl
  go_wp2_with fail
  refine (between_c _ _ _ _).mono ?_
  rintro e w_ ⟨rfl, rfl⟩
  rw [di]
  go_wp2
  go_ret
  exact ⟨rfl, k3⟩
set_option maxRecDepth 100000 in
set_option maxHeartbeats 4000000 in
theorem implRM_ap (r : Rule) (p : Packet) {b : Bool} (w : World) (hR : ∀ u : World, Calls Try.prog 51 #[.agg #[.int .i64 r.prio, .int .i64 r.kind, .int .i64 r.sip, .int .i64 r.sbits, .int .i64 r.fport, .int .i64 r.lport, .int .i64 r.vlan, .int .i64 r.action, .int .i64 r.queue]] u fun e w' => e = .returned (.bool true) ∧ Below u.heap.size u w') (hS : ∀ u : World, Calls Try.prog 19 #[.agg #[.int .i64 p.dmac, .int .i64 p.smac, .int .i64 p.vlan, .int .i64 p.tos, .int .i64 p.id, .int .i64 p.ttl, .int .i64 p.sip, .int .i64 p.dip, .int .i64 p.seg_kind, .int .i64 p.seg_sport, .int .i64 p.seg_dport, .int .i64 p.seg_seq, .int .i64 p.seg_ack, .int .i64 p.seg_flags, .int .i64 p.seg_win, .string p.seg_body]] u fun e w' => e = .returned (.bool true) ∧ Below u.heap.size u w') (hP : ∀ u : World, Calls Try.prog 71 #[.int .i64 r.sip, .int .i64 p.sip, .int .i64 r.sbits] u fun e w' => e = .returned (.bool false) ∧ Below u.heap.size u w') (bk0 : (r.kind == 0) = true) :
    Calls Try.prog 48 #[.agg #[.int .i64 r.prio, .int .i64 r.kind, .int .i64 r.sip, .int .i64 r.sbits, .int .i64 r.fport, .int .i64 r.lport, .int .i64 r.vlan, .int .i64 r.action, .int .i64 r.queue], .agg #[.int .i64 p.dmac, .int .i64 p.smac, .int .i64 p.vlan, .int .i64 p.tos, .int .i64 p.id, .int .i64 p.ttl, .int .i64 p.sip, .int .i64 p.dip, .int .i64 p.seg_kind, .int .i64 p.seg_sport, .int .i64 p.seg_dport, .int .i64 p.seg_seq, .int .i64 p.seg_ack, .int .i64 p.seg_flags, .int .i64 p.seg_win, .string p.seg_body]] w fun e w' => e = .returned (.bool false) ∧ Below w.heap.size w w' := by
  go_enter Try.func48, Try.ntmps48
  go_wp2_with fail
  have k0 : Below w.heap.size w ((w.alloc (.cells #[.int .i64 r.prio, .int .i64 r.kind, .int .i64 r.sip, .int .i64 r.sbits, .int .i64 r.fport, .int .i64 r.lport, .int .i64 r.vlan, .int .i64 r.action, .int .i64 r.queue] 58)).alloc (.cells #[.int .i64 p.dmac, .int .i64 p.smac, .int .i64 p.vlan, .int .i64 p.tos, .int .i64 p.id, .int .i64 p.ttl, .int .i64 p.sip, .int .i64 p.dip, .int .i64 p.seg_kind, .int .i64 p.seg_sport, .int .i64 p.seg_dport, .int .i64 p.seg_seq, .int .i64 p.seg_ack, .int .i64 p.seg_flags, .int .i64 p.seg_win, .string p.seg_body] 41)) := by go_grown
  have bl0 : w.heap.size < ((w.alloc (.cells #[.int .i64 r.prio, .int .i64 r.kind, .int .i64 r.sip, .int .i64 r.sbits, .int .i64 r.fport, .int .i64 r.lport, .int .i64 r.vlan, .int .i64 r.action, .int .i64 r.queue] 58)).alloc (.cells #[.int .i64 p.dmac, .int .i64 p.smac, .int .i64 p.vlan, .int .i64 p.tos, .int .i64 p.id, .int .i64 p.ttl, .int .i64 p.sip, .int .i64 p.dip, .int .i64 p.seg_kind, .int .i64 p.seg_sport, .int .i64 p.seg_dport, .int .i64 p.seg_seq, .int .i64 p.seg_ack, .int .i64 p.seg_flags, .int .i64 p.seg_win, .string p.seg_body] 41)).heap.size := by go_size
  have hk0 : Blk ((w.alloc (.cells #[.int .i64 r.prio, .int .i64 r.kind, .int .i64 r.sip, .int .i64 r.sbits, .int .i64 r.fport, .int .i64 r.lport, .int .i64 r.vlan, .int .i64 r.action, .int .i64 r.queue] 58)).alloc (.cells #[.int .i64 p.dmac, .int .i64 p.smac, .int .i64 p.vlan, .int .i64 p.tos, .int .i64 p.id, .int .i64 p.ttl, .int .i64 p.sip, .int .i64 p.dip, .int .i64 p.seg_kind, .int .i64 p.seg_sport, .int .i64 p.seg_dport, .int .i64 p.seg_seq, .int .i64 p.seg_ack, .int .i64 p.seg_flags, .int .i64 p.seg_win, .string p.seg_body] 41)) (w.heap.size) 58 [.int .i64 r.prio, .int .i64 r.kind, .int .i64 r.sip, .int .i64 r.sbits, .int .i64 r.fport, .int .i64 r.lport, .int .i64 r.vlan, .int .i64 r.action, .int .i64 r.queue] := by simpa using (Blk.new w 58 [.int .i64 r.prio, .int .i64 r.kind, .int .i64 r.sip, .int .i64 r.sbits, .int .i64 r.fport, .int .i64 r.lport, .int .i64 r.vlan, .int .i64 r.action, .int .i64 r.queue]).alloc (.cells #[.int .i64 p.dmac, .int .i64 p.smac, .int .i64 p.vlan, .int .i64 p.tos, .int .i64 p.id, .int .i64 p.ttl, .int .i64 p.sip, .int .i64 p.dip, .int .i64 p.seg_kind, .int .i64 p.seg_sport, .int .i64 p.seg_dport, .int .i64 p.seg_seq, .int .i64 p.seg_ack, .int .i64 p.seg_flags, .int .i64 p.seg_win, .string p.seg_body] 41)
  have bl1 : w.heap.size + 1 < ((w.alloc (.cells #[.int .i64 r.prio, .int .i64 r.kind, .int .i64 r.sip, .int .i64 r.sbits, .int .i64 r.fport, .int .i64 r.lport, .int .i64 r.vlan, .int .i64 r.action, .int .i64 r.queue] 58)).alloc (.cells #[.int .i64 p.dmac, .int .i64 p.smac, .int .i64 p.vlan, .int .i64 p.tos, .int .i64 p.id, .int .i64 p.ttl, .int .i64 p.sip, .int .i64 p.dip, .int .i64 p.seg_kind, .int .i64 p.seg_sport, .int .i64 p.seg_dport, .int .i64 p.seg_seq, .int .i64 p.seg_ack, .int .i64 p.seg_flags, .int .i64 p.seg_win, .string p.seg_body] 41)).heap.size := by go_size
  have hk1 : Blk ((w.alloc (.cells #[.int .i64 r.prio, .int .i64 r.kind, .int .i64 r.sip, .int .i64 r.sbits, .int .i64 r.fport, .int .i64 r.lport, .int .i64 r.vlan, .int .i64 r.action, .int .i64 r.queue] 58)).alloc (.cells #[.int .i64 p.dmac, .int .i64 p.smac, .int .i64 p.vlan, .int .i64 p.tos, .int .i64 p.id, .int .i64 p.ttl, .int .i64 p.sip, .int .i64 p.dip, .int .i64 p.seg_kind, .int .i64 p.seg_sport, .int .i64 p.seg_dport, .int .i64 p.seg_seq, .int .i64 p.seg_ack, .int .i64 p.seg_flags, .int .i64 p.seg_win, .string p.seg_body] 41)) (w.heap.size + 1) 41 [.int .i64 p.dmac, .int .i64 p.smac, .int .i64 p.vlan, .int .i64 p.tos, .int .i64 p.id, .int .i64 p.ttl, .int .i64 p.sip, .int .i64 p.dip, .int .i64 p.seg_kind, .int .i64 p.seg_sport, .int .i64 p.seg_dport, .int .i64 p.seg_seq, .int .i64 p.seg_ack, .int .i64 p.seg_flags, .int .i64 p.seg_win, .string p.seg_body] := by simpa using Blk.new (w.alloc (.cells #[.int .i64 r.prio, .int .i64 r.kind, .int .i64 r.sip, .int .i64 r.sbits, .int .i64 r.fport, .int .i64 r.lport, .int .i64 r.vlan, .int .i64 r.action, .int .i64 r.queue] 58)) 41 [.int .i64 p.dmac, .int .i64 p.smac, .int .i64 p.vlan, .int .i64 p.tos, .int .i64 p.id, .int .i64 p.ttl, .int .i64 p.sip, .int .i64 p.dip, .int .i64 p.seg_kind, .int .i64 p.seg_sport, .int .i64 p.seg_dport, .int .i64 p.seg_seq, .int .i64 p.seg_ack, .int .i64 p.seg_flags, .int .i64 p.seg_win, .string p.seg_body]
  have p0 := k0.size
  generalize hW0 : ((w.alloc (.cells #[.int .i64 r.prio, .int .i64 r.kind, .int .i64 r.sip, .int .i64 r.sbits, .int .i64 r.fport, .int .i64 r.lport, .int .i64 r.vlan, .int .i64 r.action, .int .i64 r.queue] 58)).alloc (.cells #[.int .i64 p.dmac, .int .i64 p.smac, .int .i64 p.vlan, .int .i64 p.tos, .int .i64 p.id, .int .i64 p.ttl, .int .i64 p.sip, .int .i64 p.dip, .int .i64 p.seg_kind, .int .i64 p.seg_sport, .int .i64 p.seg_dport, .int .i64 p.seg_seq, .int .i64 p.seg_ack, .int .i64 p.seg_flags, .int .i64 p.seg_win, .string p.seg_body] 41)) = w0 at *
  clear hW0
  refine (hR _).mono ?_
  rintro e w1 ⟨rfl, hb⟩
  have k1 : Below w.heap.size w w1 := ext_step k0 (by omega) hb
  have p1 := hb.size
  replace hk0 := hk0.ext hb
  replace hk1 := hk1.ext hb
  have bl0 := Nat.lt_of_lt_of_le bl0 hb.size
  have bl1 := Nat.lt_of_lt_of_le bl1 hb.size
  clear hb
  have bx1_0 := hk1.at_ 0 _ rfl
  have bx1_1 := hk1.at_ 1 _ rfl
  have bx1_2 := hk1.at_ 2 _ rfl
  have bx1_3 := hk1.at_ 3 _ rfl
  have bx1_4 := hk1.at_ 4 _ rfl
  have bx1_5 := hk1.at_ 5 _ rfl
  have bx1_6 := hk1.at_ 6 _ rfl
  have bx1_7 := hk1.at_ 7 _ rfl
  have bx1_8 := hk1.at_ 8 _ rfl
  have bx1_9 := hk1.at_ 9 _ rfl
  have bx1_10 := hk1.at_ 10 _ rfl
  have bx1_11 := hk1.at_ 11 _ rfl
  have bx1_12 := hk1.at_ 12 _ rfl
  have bx1_13 := hk1.at_ 13 _ rfl
  have bx1_14 := hk1.at_ 14 _ rfl
  have bx1_15 := hk1.at_ 15 _ rfl
  go_wp2_with fail
  refine (hS _).mono ?_
  rintro e w2 ⟨rfl, hb⟩
  have k2 : Below w.heap.size w w2 := ext_step k1 (by omega) hb
  have p2 := hb.size
  replace hk0 := hk0.ext hb
  replace hk1 := hk1.ext hb
  clear bx1_0 bx1_1 bx1_2 bx1_3 bx1_4 bx1_5 bx1_6 bx1_7 bx1_8 bx1_9 bx1_10 bx1_11 bx1_12 bx1_13 bx1_14 bx1_15
  have bl0 := Nat.lt_of_lt_of_le bl0 hb.size
  have bl1 := Nat.lt_of_lt_of_le bl1 hb.size
  clear hb
  have bx0_1 := hk0.at_ 1 _ rfl
  have bx1_8 := hk1.at_ 8 _ rfl
  have bx0_2 := hk0.at_ 2 _ rfl
  have bx0_3 := hk0.at_ 3 _ rfl
  have bx1_6 := hk1.at_ 6 _ rfl
  go_wp2_with fail
  refine (hP _).mono ?_
  rintro e w3 ⟨rfl, hb⟩
  have k3 : Below w.heap.size w w3 := ext_step k2 (by omega) hb
  have p3 := hb.size
  replace hk0 := hk0.ext hb
  replace hk1 := hk1.ext hb
  clear bx0_1 bx1_8 bx0_2 bx0_3 bx1_6
  have bl0 := Nat.lt_of_lt_of_le bl0 hb.size
  have bl1 := Nat.lt_of_lt_of_le bl1 hb.size
  clear hb
  go_wp2
  go_ret
  exact ⟨rfl, k3⟩
set_option maxRecDepth 100000 in
set_option maxHeartbeats 4000000 in
theorem implRM_bv2 (r : Rule) (p : Packet) {b : Bool} (w : World) (hR : ∀ u : World, Calls Try.prog 51 #[.agg #[.int .i64 r.prio, .int .i64 r.kind, .int .i64 r.sip, .int .i64 r.sbits, .int .i64 r.fport, .int .i64 r.lport, .int .i64 r.vlan, .int .i64 r.action, .int .i64 r.queue]] u fun e w' => e = .returned (.bool true) ∧ Below u.heap.size u w') (hS : ∀ u : World, Calls Try.prog 19 #[.agg #[.int .i64 p.dmac, .int .i64 p.smac, .int .i64 p.vlan, .int .i64 p.tos, .int .i64 p.id, .int .i64 p.ttl, .int .i64 p.sip, .int .i64 p.dip, .int .i64 p.seg_kind, .int .i64 p.seg_sport, .int .i64 p.seg_dport, .int .i64 p.seg_seq, .int .i64 p.seg_ack, .int .i64 p.seg_flags, .int .i64 p.seg_win, .string p.seg_body]] u fun e w' => e = .returned (.bool true) ∧ Below u.heap.size u w') (hP : ∀ u : World, Calls Try.prog 71 #[.int .i64 r.sip, .int .i64 p.sip, .int .i64 r.sbits] u fun e w' => e = .returned (.bool true) ∧ Below u.heap.size u w') (bk0 : (r.kind == 0) = false) (bk1 : (r.kind == p.seg_kind) = true) (di : inB p.seg_dport r.fport r.lport = true) (bv2 : (r.vlan == (-2)) = true) :
    Calls Try.prog 48 #[.agg #[.int .i64 r.prio, .int .i64 r.kind, .int .i64 r.sip, .int .i64 r.sbits, .int .i64 r.fport, .int .i64 r.lport, .int .i64 r.vlan, .int .i64 r.action, .int .i64 r.queue], .agg #[.int .i64 p.dmac, .int .i64 p.smac, .int .i64 p.vlan, .int .i64 p.tos, .int .i64 p.id, .int .i64 p.ttl, .int .i64 p.sip, .int .i64 p.dip, .int .i64 p.seg_kind, .int .i64 p.seg_sport, .int .i64 p.seg_dport, .int .i64 p.seg_seq, .int .i64 p.seg_ack, .int .i64 p.seg_flags, .int .i64 p.seg_win, .string p.seg_body]] w fun e w' => e = .returned (.bool true) ∧ Below w.heap.size w w' := by
  go_enter Try.func48, Try.ntmps48
  go_wp2_with fail
  have k0 : Below w.heap.size w ((w.alloc (.cells #[.int .i64 r.prio, .int .i64 r.kind, .int .i64 r.sip, .int .i64 r.sbits, .int .i64 r.fport, .int .i64 r.lport, .int .i64 r.vlan, .int .i64 r.action, .int .i64 r.queue] 58)).alloc (.cells #[.int .i64 p.dmac, .int .i64 p.smac, .int .i64 p.vlan, .int .i64 p.tos, .int .i64 p.id, .int .i64 p.ttl, .int .i64 p.sip, .int .i64 p.dip, .int .i64 p.seg_kind, .int .i64 p.seg_sport, .int .i64 p.seg_dport, .int .i64 p.seg_seq, .int .i64 p.seg_ack, .int .i64 p.seg_flags, .int .i64 p.seg_win, .string p.seg_body] 41)) := by go_grown
  have bl0 : w.heap.size < ((w.alloc (.cells #[.int .i64 r.prio, .int .i64 r.kind, .int .i64 r.sip, .int .i64 r.sbits, .int .i64 r.fport, .int .i64 r.lport, .int .i64 r.vlan, .int .i64 r.action, .int .i64 r.queue] 58)).alloc (.cells #[.int .i64 p.dmac, .int .i64 p.smac, .int .i64 p.vlan, .int .i64 p.tos, .int .i64 p.id, .int .i64 p.ttl, .int .i64 p.sip, .int .i64 p.dip, .int .i64 p.seg_kind, .int .i64 p.seg_sport, .int .i64 p.seg_dport, .int .i64 p.seg_seq, .int .i64 p.seg_ack, .int .i64 p.seg_flags, .int .i64 p.seg_win, .string p.seg_body] 41)).heap.size := by go_size
  have hk0 : Blk ((w.alloc (.cells #[.int .i64 r.prio, .int .i64 r.kind, .int .i64 r.sip, .int .i64 r.sbits, .int .i64 r.fport, .int .i64 r.lport, .int .i64 r.vlan, .int .i64 r.action, .int .i64 r.queue] 58)).alloc (.cells #[.int .i64 p.dmac, .int .i64 p.smac, .int .i64 p.vlan, .int .i64 p.tos, .int .i64 p.id, .int .i64 p.ttl, .int .i64 p.sip, .int .i64 p.dip, .int .i64 p.seg_kind, .int .i64 p.seg_sport, .int .i64 p.seg_dport, .int .i64 p.seg_seq, .int .i64 p.seg_ack, .int .i64 p.seg_flags, .int .i64 p.seg_win, .string p.seg_body] 41)) (w.heap.size) 58 [.int .i64 r.prio, .int .i64 r.kind, .int .i64 r.sip, .int .i64 r.sbits, .int .i64 r.fport, .int .i64 r.lport, .int .i64 r.vlan, .int .i64 r.action, .int .i64 r.queue] := by simpa using (Blk.new w 58 [.int .i64 r.prio, .int .i64 r.kind, .int .i64 r.sip, .int .i64 r.sbits, .int .i64 r.fport, .int .i64 r.lport, .int .i64 r.vlan, .int .i64 r.action, .int .i64 r.queue]).alloc (.cells #[.int .i64 p.dmac, .int .i64 p.smac, .int .i64 p.vlan, .int .i64 p.tos, .int .i64 p.id, .int .i64 p.ttl, .int .i64 p.sip, .int .i64 p.dip, .int .i64 p.seg_kind, .int .i64 p.seg_sport, .int .i64 p.seg_dport, .int .i64 p.seg_seq, .int .i64 p.seg_ack, .int .i64 p.seg_flags, .int .i64 p.seg_win, .string p.seg_body] 41)
  have bl1 : w.heap.size + 1 < ((w.alloc (.cells #[.int .i64 r.prio, .int .i64 r.kind, .int .i64 r.sip, .int .i64 r.sbits, .int .i64 r.fport, .int .i64 r.lport, .int .i64 r.vlan, .int .i64 r.action, .int .i64 r.queue] 58)).alloc (.cells #[.int .i64 p.dmac, .int .i64 p.smac, .int .i64 p.vlan, .int .i64 p.tos, .int .i64 p.id, .int .i64 p.ttl, .int .i64 p.sip, .int .i64 p.dip, .int .i64 p.seg_kind, .int .i64 p.seg_sport, .int .i64 p.seg_dport, .int .i64 p.seg_seq, .int .i64 p.seg_ack, .int .i64 p.seg_flags, .int .i64 p.seg_win, .string p.seg_body] 41)).heap.size := by go_size
  have hk1 : Blk ((w.alloc (.cells #[.int .i64 r.prio, .int .i64 r.kind, .int .i64 r.sip, .int .i64 r.sbits, .int .i64 r.fport, .int .i64 r.lport, .int .i64 r.vlan, .int .i64 r.action, .int .i64 r.queue] 58)).alloc (.cells #[.int .i64 p.dmac, .int .i64 p.smac, .int .i64 p.vlan, .int .i64 p.tos, .int .i64 p.id, .int .i64 p.ttl, .int .i64 p.sip, .int .i64 p.dip, .int .i64 p.seg_kind, .int .i64 p.seg_sport, .int .i64 p.seg_dport, .int .i64 p.seg_seq, .int .i64 p.seg_ack, .int .i64 p.seg_flags, .int .i64 p.seg_win, .string p.seg_body] 41)) (w.heap.size + 1) 41 [.int .i64 p.dmac, .int .i64 p.smac, .int .i64 p.vlan, .int .i64 p.tos, .int .i64 p.id, .int .i64 p.ttl, .int .i64 p.sip, .int .i64 p.dip, .int .i64 p.seg_kind, .int .i64 p.seg_sport, .int .i64 p.seg_dport, .int .i64 p.seg_seq, .int .i64 p.seg_ack, .int .i64 p.seg_flags, .int .i64 p.seg_win, .string p.seg_body] := by simpa using Blk.new (w.alloc (.cells #[.int .i64 r.prio, .int .i64 r.kind, .int .i64 r.sip, .int .i64 r.sbits, .int .i64 r.fport, .int .i64 r.lport, .int .i64 r.vlan, .int .i64 r.action, .int .i64 r.queue] 58)) 41 [.int .i64 p.dmac, .int .i64 p.smac, .int .i64 p.vlan, .int .i64 p.tos, .int .i64 p.id, .int .i64 p.ttl, .int .i64 p.sip, .int .i64 p.dip, .int .i64 p.seg_kind, .int .i64 p.seg_sport, .int .i64 p.seg_dport, .int .i64 p.seg_seq, .int .i64 p.seg_ack, .int .i64 p.seg_flags, .int .i64 p.seg_win, .string p.seg_body]
  have p0 := k0.size
  generalize hW0 : ((w.alloc (.cells #[.int .i64 r.prio, .int .i64 r.kind, .int .i64 r.sip, .int .i64 r.sbits, .int .i64 r.fport, .int .i64 r.lport, .int .i64 r.vlan, .int .i64 r.action, .int .i64 r.queue] 58)).alloc (.cells #[.int .i64 p.dmac, .int .i64 p.smac, .int .i64 p.vlan, .int .i64 p.tos, .int .i64 p.id, .int .i64 p.ttl, .int .i64 p.sip, .int .i64 p.dip, .int .i64 p.seg_kind, .int .i64 p.seg_sport, .int .i64 p.seg_dport, .int .i64 p.seg_seq, .int .i64 p.seg_ack, .int .i64 p.seg_flags, .int .i64 p.seg_win, .string p.seg_body] 41)) = w0 at *
  clear hW0
  refine (hR _).mono ?_
  rintro e w1 ⟨rfl, hb⟩
  have k1 : Below w.heap.size w w1 := ext_step k0 (by omega) hb
  have p1 := hb.size
  replace hk0 := hk0.ext hb
  replace hk1 := hk1.ext hb
  have bl0 := Nat.lt_of_lt_of_le bl0 hb.size
  have bl1 := Nat.lt_of_lt_of_le bl1 hb.size
  clear hb
  have bx1_0 := hk1.at_ 0 _ rfl
  have bx1_1 := hk1.at_ 1 _ rfl
  have bx1_2 := hk1.at_ 2 _ rfl
  have bx1_3 := hk1.at_ 3 _ rfl
  have bx1_4 := hk1.at_ 4 _ rfl
  have bx1_5 := hk1.at_ 5 _ rfl
  have bx1_6 := hk1.at_ 6 _ rfl
  have bx1_7 := hk1.at_ 7 _ rfl
  have bx1_8 := hk1.at_ 8 _ rfl
  have bx1_9 := hk1.at_ 9 _ rfl
  have bx1_10 := hk1.at_ 10 _ rfl
  have bx1_11 := hk1.at_ 11 _ rfl
  have bx1_12 := hk1.at_ 12 _ rfl
  have bx1_13 := hk1.at_ 13 _ rfl
  have bx1_14 := hk1.at_ 14 _ rfl
  have bx1_15 := hk1.at_ 15 _ rfl
  go_wp2_with fail
  refine (hS _).mono ?_
  rintro e w2 ⟨rfl, hb⟩
  have k2 : Below w.heap.size w w2 := ext_step k1 (by omega) hb
  have p2 := hb.size
  replace hk0 := hk0.ext hb
  replace hk1 := hk1.ext hb
  clear bx1_0 bx1_1 bx1_2 bx1_3 bx1_4 bx1_5 bx1_6 bx1_7 bx1_8 bx1_9 bx1_10 bx1_11 bx1_12 bx1_13 bx1_14 bx1_15
  have bl0 := Nat.lt_of_lt_of_le bl0 hb.size
  have bl1 := Nat.lt_of_lt_of_le bl1 hb.size
  clear hb
  have bx0_1 := hk0.at_ 1 _ rfl
  have bx1_8 := hk1.at_ 8 _ rfl
  have bx0_2 := hk0.at_ 2 _ rfl
  have bx0_3 := hk0.at_ 3 _ rfl
  have bx1_6 := hk1.at_ 6 _ rfl
  go_wp2_with fail
  refine (hP _).mono ?_
  rintro e w3 ⟨rfl, hb⟩
  have k3 : Below w.heap.size w w3 := ext_step k2 (by omega) hb
  have p3 := hb.size
  replace hk0 := hk0.ext hb
  replace hk1 := hk1.ext hb
  clear bx0_1 bx1_8 bx0_2 bx0_3 bx1_6
  have bl0 := Nat.lt_of_lt_of_le bl0 hb.size
  have bl1 := Nat.lt_of_lt_of_le bl1 hb.size
  clear hb
  have bx0_4 := hk0.at_ 4 _ rfl
  have bx0_5 := hk0.at_ 5 _ rfl
  have bx0_6 := hk0.at_ 6 _ rfl
  have bx1_2 := hk1.at_ 2 _ rfl
  have bx1_10 := hk1.at_ 10 _ rfl
  go_wp2_with fail
  refine (between_c _ _ _ _).mono ?_
  rintro e w_ ⟨rfl, rfl⟩
  rw [di]
  go_wp2
  go_ret
  exact ⟨rfl, k3⟩
set_option maxRecDepth 100000 in
set_option maxHeartbeats 4000000 in
theorem implRM_bv3 (r : Rule) (p : Packet) {b : Bool} (w : World) (hR : ∀ u : World, Calls Try.prog 51 #[.agg #[.int .i64 r.prio, .int .i64 r.kind, .int .i64 r.sip, .int .i64 r.sbits, .int .i64 r.fport, .int .i64 r.lport, .int .i64 r.vlan, .int .i64 r.action, .int .i64 r.queue]] u fun e w' => e = .returned (.bool true) ∧ Below u.heap.size u w') (hS : ∀ u : World, Calls Try.prog 19 #[.agg #[.int .i64 p.dmac, .int .i64 p.smac, .int .i64 p.vlan, .int .i64 p.tos, .int .i64 p.id, .int .i64 p.ttl, .int .i64 p.sip, .int .i64 p.dip, .int .i64 p.seg_kind, .int .i64 p.seg_sport, .int .i64 p.seg_dport, .int .i64 p.seg_seq, .int .i64 p.seg_ack, .int .i64 p.seg_flags, .int .i64 p.seg_win, .string p.seg_body]] u fun e w' => e = .returned (.bool true) ∧ Below u.heap.size u w') (hP : ∀ u : World, Calls Try.prog 71 #[.int .i64 r.sip, .int .i64 p.sip, .int .i64 r.sbits] u fun e w' => e = .returned (.bool true) ∧ Below u.heap.size u w') (bk0 : (r.kind == 0) = false) (bk1 : (r.kind == p.seg_kind) = true) (di : inB p.seg_dport r.fport r.lport = true) (bv2 : (r.vlan == (-2)) = false) (bv3 : (r.vlan == p.vlan) = true) :
    Calls Try.prog 48 #[.agg #[.int .i64 r.prio, .int .i64 r.kind, .int .i64 r.sip, .int .i64 r.sbits, .int .i64 r.fport, .int .i64 r.lport, .int .i64 r.vlan, .int .i64 r.action, .int .i64 r.queue], .agg #[.int .i64 p.dmac, .int .i64 p.smac, .int .i64 p.vlan, .int .i64 p.tos, .int .i64 p.id, .int .i64 p.ttl, .int .i64 p.sip, .int .i64 p.dip, .int .i64 p.seg_kind, .int .i64 p.seg_sport, .int .i64 p.seg_dport, .int .i64 p.seg_seq, .int .i64 p.seg_ack, .int .i64 p.seg_flags, .int .i64 p.seg_win, .string p.seg_body]] w fun e w' => e = .returned (.bool true) ∧ Below w.heap.size w w' := by
  go_enter Try.func48, Try.ntmps48
  go_wp2_with fail
  have k0 : Below w.heap.size w ((w.alloc (.cells #[.int .i64 r.prio, .int .i64 r.kind, .int .i64 r.sip, .int .i64 r.sbits, .int .i64 r.fport, .int .i64 r.lport, .int .i64 r.vlan, .int .i64 r.action, .int .i64 r.queue] 58)).alloc (.cells #[.int .i64 p.dmac, .int .i64 p.smac, .int .i64 p.vlan, .int .i64 p.tos, .int .i64 p.id, .int .i64 p.ttl, .int .i64 p.sip, .int .i64 p.dip, .int .i64 p.seg_kind, .int .i64 p.seg_sport, .int .i64 p.seg_dport, .int .i64 p.seg_seq, .int .i64 p.seg_ack, .int .i64 p.seg_flags, .int .i64 p.seg_win, .string p.seg_body] 41)) := by go_grown
  have bl0 : w.heap.size < ((w.alloc (.cells #[.int .i64 r.prio, .int .i64 r.kind, .int .i64 r.sip, .int .i64 r.sbits, .int .i64 r.fport, .int .i64 r.lport, .int .i64 r.vlan, .int .i64 r.action, .int .i64 r.queue] 58)).alloc (.cells #[.int .i64 p.dmac, .int .i64 p.smac, .int .i64 p.vlan, .int .i64 p.tos, .int .i64 p.id, .int .i64 p.ttl, .int .i64 p.sip, .int .i64 p.dip, .int .i64 p.seg_kind, .int .i64 p.seg_sport, .int .i64 p.seg_dport, .int .i64 p.seg_seq, .int .i64 p.seg_ack, .int .i64 p.seg_flags, .int .i64 p.seg_win, .string p.seg_body] 41)).heap.size := by go_size
  have hk0 : Blk ((w.alloc (.cells #[.int .i64 r.prio, .int .i64 r.kind, .int .i64 r.sip, .int .i64 r.sbits, .int .i64 r.fport, .int .i64 r.lport, .int .i64 r.vlan, .int .i64 r.action, .int .i64 r.queue] 58)).alloc (.cells #[.int .i64 p.dmac, .int .i64 p.smac, .int .i64 p.vlan, .int .i64 p.tos, .int .i64 p.id, .int .i64 p.ttl, .int .i64 p.sip, .int .i64 p.dip, .int .i64 p.seg_kind, .int .i64 p.seg_sport, .int .i64 p.seg_dport, .int .i64 p.seg_seq, .int .i64 p.seg_ack, .int .i64 p.seg_flags, .int .i64 p.seg_win, .string p.seg_body] 41)) (w.heap.size) 58 [.int .i64 r.prio, .int .i64 r.kind, .int .i64 r.sip, .int .i64 r.sbits, .int .i64 r.fport, .int .i64 r.lport, .int .i64 r.vlan, .int .i64 r.action, .int .i64 r.queue] := by simpa using (Blk.new w 58 [.int .i64 r.prio, .int .i64 r.kind, .int .i64 r.sip, .int .i64 r.sbits, .int .i64 r.fport, .int .i64 r.lport, .int .i64 r.vlan, .int .i64 r.action, .int .i64 r.queue]).alloc (.cells #[.int .i64 p.dmac, .int .i64 p.smac, .int .i64 p.vlan, .int .i64 p.tos, .int .i64 p.id, .int .i64 p.ttl, .int .i64 p.sip, .int .i64 p.dip, .int .i64 p.seg_kind, .int .i64 p.seg_sport, .int .i64 p.seg_dport, .int .i64 p.seg_seq, .int .i64 p.seg_ack, .int .i64 p.seg_flags, .int .i64 p.seg_win, .string p.seg_body] 41)
  have bl1 : w.heap.size + 1 < ((w.alloc (.cells #[.int .i64 r.prio, .int .i64 r.kind, .int .i64 r.sip, .int .i64 r.sbits, .int .i64 r.fport, .int .i64 r.lport, .int .i64 r.vlan, .int .i64 r.action, .int .i64 r.queue] 58)).alloc (.cells #[.int .i64 p.dmac, .int .i64 p.smac, .int .i64 p.vlan, .int .i64 p.tos, .int .i64 p.id, .int .i64 p.ttl, .int .i64 p.sip, .int .i64 p.dip, .int .i64 p.seg_kind, .int .i64 p.seg_sport, .int .i64 p.seg_dport, .int .i64 p.seg_seq, .int .i64 p.seg_ack, .int .i64 p.seg_flags, .int .i64 p.seg_win, .string p.seg_body] 41)).heap.size := by go_size
  have hk1 : Blk ((w.alloc (.cells #[.int .i64 r.prio, .int .i64 r.kind, .int .i64 r.sip, .int .i64 r.sbits, .int .i64 r.fport, .int .i64 r.lport, .int .i64 r.vlan, .int .i64 r.action, .int .i64 r.queue] 58)).alloc (.cells #[.int .i64 p.dmac, .int .i64 p.smac, .int .i64 p.vlan, .int .i64 p.tos, .int .i64 p.id, .int .i64 p.ttl, .int .i64 p.sip, .int .i64 p.dip, .int .i64 p.seg_kind, .int .i64 p.seg_sport, .int .i64 p.seg_dport, .int .i64 p.seg_seq, .int .i64 p.seg_ack, .int .i64 p.seg_flags, .int .i64 p.seg_win, .string p.seg_body] 41)) (w.heap.size + 1) 41 [.int .i64 p.dmac, .int .i64 p.smac, .int .i64 p.vlan, .int .i64 p.tos, .int .i64 p.id, .int .i64 p.ttl, .int .i64 p.sip, .int .i64 p.dip, .int .i64 p.seg_kind, .int .i64 p.seg_sport, .int .i64 p.seg_dport, .int .i64 p.seg_seq, .int .i64 p.seg_ack, .int .i64 p.seg_flags, .int .i64 p.seg_win, .string p.seg_body] := by simpa using Blk.new (w.alloc (.cells #[.int .i64 r.prio, .int .i64 r.kind, .int .i64 r.sip, .int .i64 r.sbits, .int .i64 r.fport, .int .i64 r.lport, .int .i64 r.vlan, .int .i64 r.action, .int .i64 r.queue] 58)) 41 [.int .i64 p.dmac, .int .i64 p.smac, .int .i64 p.vlan, .int .i64 p.tos, .int .i64 p.id, .int .i64 p.ttl, .int .i64 p.sip, .int .i64 p.dip, .int .i64 p.seg_kind, .int .i64 p.seg_sport, .int .i64 p.seg_dport, .int .i64 p.seg_seq, .int .i64 p.seg_ack, .int .i64 p.seg_flags, .int .i64 p.seg_win, .string p.seg_body]
  have p0 := k0.size
  generalize hW0 : ((w.alloc (.cells #[.int .i64 r.prio, .int .i64 r.kind, .int .i64 r.sip, .int .i64 r.sbits, .int .i64 r.fport, .int .i64 r.lport, .int .i64 r.vlan, .int .i64 r.action, .int .i64 r.queue] 58)).alloc (.cells #[.int .i64 p.dmac, .int .i64 p.smac, .int .i64 p.vlan, .int .i64 p.tos, .int .i64 p.id, .int .i64 p.ttl, .int .i64 p.sip, .int .i64 p.dip, .int .i64 p.seg_kind, .int .i64 p.seg_sport, .int .i64 p.seg_dport, .int .i64 p.seg_seq, .int .i64 p.seg_ack, .int .i64 p.seg_flags, .int .i64 p.seg_win, .string p.seg_body] 41)) = w0 at *
  clear hW0
  refine (hR _).mono ?_
  rintro e w1 ⟨rfl, hb⟩
  have k1 : Below w.heap.size w w1 := ext_step k0 (by omega) hb
  have p1 := hb.size
  replace hk0 := hk0.ext hb
  replace hk1 := hk1.ext hb
  have bl0 := Nat.lt_of_lt_of_le bl0 hb.size
  have bl1 := Nat.lt_of_lt_of_le bl1 hb.size
  clear hb
  have bx1_0 := hk1.at_ 0 _ rfl
  have bx1_1 := hk1.at_ 1 _ rfl
  have bx1_2 := hk1.at_ 2 _ rfl
  have bx1_3 := hk1.at_ 3 _ rfl
  have bx1_4 := hk1.at_ 4 _ rfl
  have bx1_5 := hk1.at_ 5 _ rfl
  have bx1_6 := hk1.at_ 6 _ rfl
  have bx1_7 := hk1.at_ 7 _ rfl
  have bx1_8 := hk1.at_ 8 _ rfl
  have bx1_9 := hk1.at_ 9 _ rfl
  have bx1_10 := hk1.at_ 10 _ rfl
  have bx1_11 := hk1.at_ 11 _ rfl
  have bx1_12 := hk1.at_ 12 _ rfl
  have bx1_13 := hk1.at_ 13 _ rfl
  have bx1_14 := hk1.at_ 14 _ rfl
  have bx1_15 := hk1.at_ 15 _ rfl
  go_wp2_with fail
  refine (hS _).mono ?_
  rintro e w2 ⟨rfl, hb⟩
  have k2 : Below w.heap.size w w2 := ext_step k1 (by omega) hb
  have p2 := hb.size
  replace hk0 := hk0.ext hb
  replace hk1 := hk1.ext hb
  clear bx1_0 bx1_1 bx1_2 bx1_3 bx1_4 bx1_5 bx1_6 bx1_7 bx1_8 bx1_9 bx1_10 bx1_11 bx1_12 bx1_13 bx1_14 bx1_15
  have bl0 := Nat.lt_of_lt_of_le bl0 hb.size
  have bl1 := Nat.lt_of_lt_of_le bl1 hb.size
  clear hb
  have bx0_1 := hk0.at_ 1 _ rfl
  have bx1_8 := hk1.at_ 8 _ rfl
  have bx0_2 := hk0.at_ 2 _ rfl
  have bx0_3 := hk0.at_ 3 _ rfl
  have bx1_6 := hk1.at_ 6 _ rfl
  go_wp2_with fail
  refine (hP _).mono ?_
  rintro e w3 ⟨rfl, hb⟩
  have k3 : Below w.heap.size w w3 := ext_step k2 (by omega) hb
  have p3 := hb.size
  replace hk0 := hk0.ext hb
  replace hk1 := hk1.ext hb
  clear bx0_1 bx1_8 bx0_2 bx0_3 bx1_6
  have bl0 := Nat.lt_of_lt_of_le bl0 hb.size
  have bl1 := Nat.lt_of_lt_of_le bl1 hb.size
  clear hb
  have bx0_4 := hk0.at_ 4 _ rfl
  have bx0_5 := hk0.at_ 5 _ rfl
  have bx0_6 := hk0.at_ 6 _ rfl
  have bx1_2 := hk1.at_ 2 _ rfl
  have bx1_10 := hk1.at_ 10 _ rfl
  go_wp2_with fail
  refine (between_c _ _ _ _).mono ?_
  rintro e w_ ⟨rfl, rfl⟩
  rw [di]
  go_wp2
  go_ret
  exact ⟨rfl, k3⟩
set_option maxRecDepth 100000 in
set_option maxHeartbeats 4000000 in
theorem implRM_bvn (r : Rule) (p : Packet) {b : Bool} (w : World) (hR : ∀ u : World, Calls Try.prog 51 #[.agg #[.int .i64 r.prio, .int .i64 r.kind, .int .i64 r.sip, .int .i64 r.sbits, .int .i64 r.fport, .int .i64 r.lport, .int .i64 r.vlan, .int .i64 r.action, .int .i64 r.queue]] u fun e w' => e = .returned (.bool true) ∧ Below u.heap.size u w') (hS : ∀ u : World, Calls Try.prog 19 #[.agg #[.int .i64 p.dmac, .int .i64 p.smac, .int .i64 p.vlan, .int .i64 p.tos, .int .i64 p.id, .int .i64 p.ttl, .int .i64 p.sip, .int .i64 p.dip, .int .i64 p.seg_kind, .int .i64 p.seg_sport, .int .i64 p.seg_dport, .int .i64 p.seg_seq, .int .i64 p.seg_ack, .int .i64 p.seg_flags, .int .i64 p.seg_win, .string p.seg_body]] u fun e w' => e = .returned (.bool true) ∧ Below u.heap.size u w') (hP : ∀ u : World, Calls Try.prog 71 #[.int .i64 r.sip, .int .i64 p.sip, .int .i64 r.sbits] u fun e w' => e = .returned (.bool true) ∧ Below u.heap.size u w') (bk0 : (r.kind == 0) = false) (bk1 : (r.kind == p.seg_kind) = true) (di : inB p.seg_dport r.fport r.lport = true) (bv2 : (r.vlan == (-2)) = false) (bv3 : (r.vlan == p.vlan) = false) :
    Calls Try.prog 48 #[.agg #[.int .i64 r.prio, .int .i64 r.kind, .int .i64 r.sip, .int .i64 r.sbits, .int .i64 r.fport, .int .i64 r.lport, .int .i64 r.vlan, .int .i64 r.action, .int .i64 r.queue], .agg #[.int .i64 p.dmac, .int .i64 p.smac, .int .i64 p.vlan, .int .i64 p.tos, .int .i64 p.id, .int .i64 p.ttl, .int .i64 p.sip, .int .i64 p.dip, .int .i64 p.seg_kind, .int .i64 p.seg_sport, .int .i64 p.seg_dport, .int .i64 p.seg_seq, .int .i64 p.seg_ack, .int .i64 p.seg_flags, .int .i64 p.seg_win, .string p.seg_body]] w fun e w' => e = .returned (.bool false) ∧ Below w.heap.size w w' := by
  go_enter Try.func48, Try.ntmps48
  go_wp2_with fail
  have k0 : Below w.heap.size w ((w.alloc (.cells #[.int .i64 r.prio, .int .i64 r.kind, .int .i64 r.sip, .int .i64 r.sbits, .int .i64 r.fport, .int .i64 r.lport, .int .i64 r.vlan, .int .i64 r.action, .int .i64 r.queue] 58)).alloc (.cells #[.int .i64 p.dmac, .int .i64 p.smac, .int .i64 p.vlan, .int .i64 p.tos, .int .i64 p.id, .int .i64 p.ttl, .int .i64 p.sip, .int .i64 p.dip, .int .i64 p.seg_kind, .int .i64 p.seg_sport, .int .i64 p.seg_dport, .int .i64 p.seg_seq, .int .i64 p.seg_ack, .int .i64 p.seg_flags, .int .i64 p.seg_win, .string p.seg_body] 41)) := by go_grown
  have bl0 : w.heap.size < ((w.alloc (.cells #[.int .i64 r.prio, .int .i64 r.kind, .int .i64 r.sip, .int .i64 r.sbits, .int .i64 r.fport, .int .i64 r.lport, .int .i64 r.vlan, .int .i64 r.action, .int .i64 r.queue] 58)).alloc (.cells #[.int .i64 p.dmac, .int .i64 p.smac, .int .i64 p.vlan, .int .i64 p.tos, .int .i64 p.id, .int .i64 p.ttl, .int .i64 p.sip, .int .i64 p.dip, .int .i64 p.seg_kind, .int .i64 p.seg_sport, .int .i64 p.seg_dport, .int .i64 p.seg_seq, .int .i64 p.seg_ack, .int .i64 p.seg_flags, .int .i64 p.seg_win, .string p.seg_body] 41)).heap.size := by go_size
  have hk0 : Blk ((w.alloc (.cells #[.int .i64 r.prio, .int .i64 r.kind, .int .i64 r.sip, .int .i64 r.sbits, .int .i64 r.fport, .int .i64 r.lport, .int .i64 r.vlan, .int .i64 r.action, .int .i64 r.queue] 58)).alloc (.cells #[.int .i64 p.dmac, .int .i64 p.smac, .int .i64 p.vlan, .int .i64 p.tos, .int .i64 p.id, .int .i64 p.ttl, .int .i64 p.sip, .int .i64 p.dip, .int .i64 p.seg_kind, .int .i64 p.seg_sport, .int .i64 p.seg_dport, .int .i64 p.seg_seq, .int .i64 p.seg_ack, .int .i64 p.seg_flags, .int .i64 p.seg_win, .string p.seg_body] 41)) (w.heap.size) 58 [.int .i64 r.prio, .int .i64 r.kind, .int .i64 r.sip, .int .i64 r.sbits, .int .i64 r.fport, .int .i64 r.lport, .int .i64 r.vlan, .int .i64 r.action, .int .i64 r.queue] := by simpa using (Blk.new w 58 [.int .i64 r.prio, .int .i64 r.kind, .int .i64 r.sip, .int .i64 r.sbits, .int .i64 r.fport, .int .i64 r.lport, .int .i64 r.vlan, .int .i64 r.action, .int .i64 r.queue]).alloc (.cells #[.int .i64 p.dmac, .int .i64 p.smac, .int .i64 p.vlan, .int .i64 p.tos, .int .i64 p.id, .int .i64 p.ttl, .int .i64 p.sip, .int .i64 p.dip, .int .i64 p.seg_kind, .int .i64 p.seg_sport, .int .i64 p.seg_dport, .int .i64 p.seg_seq, .int .i64 p.seg_ack, .int .i64 p.seg_flags, .int .i64 p.seg_win, .string p.seg_body] 41)
  have bl1 : w.heap.size + 1 < ((w.alloc (.cells #[.int .i64 r.prio, .int .i64 r.kind, .int .i64 r.sip, .int .i64 r.sbits, .int .i64 r.fport, .int .i64 r.lport, .int .i64 r.vlan, .int .i64 r.action, .int .i64 r.queue] 58)).alloc (.cells #[.int .i64 p.dmac, .int .i64 p.smac, .int .i64 p.vlan, .int .i64 p.tos, .int .i64 p.id, .int .i64 p.ttl, .int .i64 p.sip, .int .i64 p.dip, .int .i64 p.seg_kind, .int .i64 p.seg_sport, .int .i64 p.seg_dport, .int .i64 p.seg_seq, .int .i64 p.seg_ack, .int .i64 p.seg_flags, .int .i64 p.seg_win, .string p.seg_body] 41)).heap.size := by go_size
  have hk1 : Blk ((w.alloc (.cells #[.int .i64 r.prio, .int .i64 r.kind, .int .i64 r.sip, .int .i64 r.sbits, .int .i64 r.fport, .int .i64 r.lport, .int .i64 r.vlan, .int .i64 r.action, .int .i64 r.queue] 58)).alloc (.cells #[.int .i64 p.dmac, .int .i64 p.smac, .int .i64 p.vlan, .int .i64 p.tos, .int .i64 p.id, .int .i64 p.ttl, .int .i64 p.sip, .int .i64 p.dip, .int .i64 p.seg_kind, .int .i64 p.seg_sport, .int .i64 p.seg_dport, .int .i64 p.seg_seq, .int .i64 p.seg_ack, .int .i64 p.seg_flags, .int .i64 p.seg_win, .string p.seg_body] 41)) (w.heap.size + 1) 41 [.int .i64 p.dmac, .int .i64 p.smac, .int .i64 p.vlan, .int .i64 p.tos, .int .i64 p.id, .int .i64 p.ttl, .int .i64 p.sip, .int .i64 p.dip, .int .i64 p.seg_kind, .int .i64 p.seg_sport, .int .i64 p.seg_dport, .int .i64 p.seg_seq, .int .i64 p.seg_ack, .int .i64 p.seg_flags, .int .i64 p.seg_win, .string p.seg_body] := by simpa using Blk.new (w.alloc (.cells #[.int .i64 r.prio, .int .i64 r.kind, .int .i64 r.sip, .int .i64 r.sbits, .int .i64 r.fport, .int .i64 r.lport, .int .i64 r.vlan, .int .i64 r.action, .int .i64 r.queue] 58)) 41 [.int .i64 p.dmac, .int .i64 p.smac, .int .i64 p.vlan, .int .i64 p.tos, .int .i64 p.id, .int .i64 p.ttl, .int .i64 p.sip, .int .i64 p.dip, .int .i64 p.seg_kind, .int .i64 p.seg_sport, .int .i64 p.seg_dport, .int .i64 p.seg_seq, .int .i64 p.seg_ack, .int .i64 p.seg_flags, .int .i64 p.seg_win, .string p.seg_body]
  have p0 := k0.size
  generalize hW0 : ((w.alloc (.cells #[.int .i64 r.prio, .int .i64 r.kind, .int .i64 r.sip, .int .i64 r.sbits, .int .i64 r.fport, .int .i64 r.lport, .int .i64 r.vlan, .int .i64 r.action, .int .i64 r.queue] 58)).alloc (.cells #[.int .i64 p.dmac, .int .i64 p.smac, .int .i64 p.vlan, .int .i64 p.tos, .int .i64 p.id, .int .i64 p.ttl, .int .i64 p.sip, .int .i64 p.dip, .int .i64 p.seg_kind, .int .i64 p.seg_sport, .int .i64 p.seg_dport, .int .i64 p.seg_seq, .int .i64 p.seg_ack, .int .i64 p.seg_flags, .int .i64 p.seg_win, .string p.seg_body] 41)) = w0 at *
  clear hW0
  refine (hR _).mono ?_
  rintro e w1 ⟨rfl, hb⟩
  have k1 : Below w.heap.size w w1 := ext_step k0 (by omega) hb
  have p1 := hb.size
  replace hk0 := hk0.ext hb
  replace hk1 := hk1.ext hb
  have bl0 := Nat.lt_of_lt_of_le bl0 hb.size
  have bl1 := Nat.lt_of_lt_of_le bl1 hb.size
  clear hb
  have bx1_0 := hk1.at_ 0 _ rfl
  have bx1_1 := hk1.at_ 1 _ rfl
  have bx1_2 := hk1.at_ 2 _ rfl
  have bx1_3 := hk1.at_ 3 _ rfl
  have bx1_4 := hk1.at_ 4 _ rfl
  have bx1_5 := hk1.at_ 5 _ rfl
  have bx1_6 := hk1.at_ 6 _ rfl
  have bx1_7 := hk1.at_ 7 _ rfl
  have bx1_8 := hk1.at_ 8 _ rfl
  have bx1_9 := hk1.at_ 9 _ rfl
  have bx1_10 := hk1.at_ 10 _ rfl
  have bx1_11 := hk1.at_ 11 _ rfl
  have bx1_12 := hk1.at_ 12 _ rfl
  have bx1_13 := hk1.at_ 13 _ rfl
  have bx1_14 := hk1.at_ 14 _ rfl
  have bx1_15 := hk1.at_ 15 _ rfl
  go_wp2_with fail
  refine (hS _).mono ?_
  rintro e w2 ⟨rfl, hb⟩
  have k2 : Below w.heap.size w w2 := ext_step k1 (by omega) hb
  have p2 := hb.size
  replace hk0 := hk0.ext hb
  replace hk1 := hk1.ext hb
  clear bx1_0 bx1_1 bx1_2 bx1_3 bx1_4 bx1_5 bx1_6 bx1_7 bx1_8 bx1_9 bx1_10 bx1_11 bx1_12 bx1_13 bx1_14 bx1_15
  have bl0 := Nat.lt_of_lt_of_le bl0 hb.size
  have bl1 := Nat.lt_of_lt_of_le bl1 hb.size
  clear hb
  have bx0_1 := hk0.at_ 1 _ rfl
  have bx1_8 := hk1.at_ 8 _ rfl
  have bx0_2 := hk0.at_ 2 _ rfl
  have bx0_3 := hk0.at_ 3 _ rfl
  have bx1_6 := hk1.at_ 6 _ rfl
  go_wp2_with fail
  refine (hP _).mono ?_
  rintro e w3 ⟨rfl, hb⟩
  have k3 : Below w.heap.size w w3 := ext_step k2 (by omega) hb
  have p3 := hb.size
  replace hk0 := hk0.ext hb
  replace hk1 := hk1.ext hb
  clear bx0_1 bx1_8 bx0_2 bx0_3 bx1_6
  have bl0 := Nat.lt_of_lt_of_le bl0 hb.size
  have bl1 := Nat.lt_of_lt_of_le bl1 hb.size
  clear hb
  have bx0_4 := hk0.at_ 4 _ rfl
  have bx0_5 := hk0.at_ 5 _ rfl
  have bx0_6 := hk0.at_ 6 _ rfl
  have bx1_2 := hk1.at_ 2 _ rfl
  have bx1_10 := hk1.at_ 10 _ rfl
  go_wp2_with fail
  refine (between_c _ _ _ _).mono ?_
  rintro e w_ ⟨rfl, rfl⟩
  rw [di]
  go_wp2
  go_ret
  exact ⟨rfl, k3⟩
set_option maxRecDepth 100000 in
set_option maxHeartbeats 4000000 in
theorem implRM_bd (r : Rule) (p : Packet) {b : Bool} (w : World) (hR : ∀ u : World, Calls Try.prog 51 #[.agg #[.int .i64 r.prio, .int .i64 r.kind, .int .i64 r.sip, .int .i64 r.sbits, .int .i64 r.fport, .int .i64 r.lport, .int .i64 r.vlan, .int .i64 r.action, .int .i64 r.queue]] u fun e w' => e = .returned (.bool true) ∧ Below u.heap.size u w') (hS : ∀ u : World, Calls Try.prog 19 #[.agg #[.int .i64 p.dmac, .int .i64 p.smac, .int .i64 p.vlan, .int .i64 p.tos, .int .i64 p.id, .int .i64 p.ttl, .int .i64 p.sip, .int .i64 p.dip, .int .i64 p.seg_kind, .int .i64 p.seg_sport, .int .i64 p.seg_dport, .int .i64 p.seg_seq, .int .i64 p.seg_ack, .int .i64 p.seg_flags, .int .i64 p.seg_win, .string p.seg_body]] u fun e w' => e = .returned (.bool true) ∧ Below u.heap.size u w') (hP : ∀ u : World, Calls Try.prog 71 #[.int .i64 r.sip, .int .i64 p.sip, .int .i64 r.sbits] u fun e w' => e = .returned (.bool true) ∧ Below u.heap.size u w') (bk0 : (r.kind == 0) = false) (bk1 : (r.kind == p.seg_kind) = true) (di : inB p.seg_dport r.fport r.lport = false) :
    Calls Try.prog 48 #[.agg #[.int .i64 r.prio, .int .i64 r.kind, .int .i64 r.sip, .int .i64 r.sbits, .int .i64 r.fport, .int .i64 r.lport, .int .i64 r.vlan, .int .i64 r.action, .int .i64 r.queue], .agg #[.int .i64 p.dmac, .int .i64 p.smac, .int .i64 p.vlan, .int .i64 p.tos, .int .i64 p.id, .int .i64 p.ttl, .int .i64 p.sip, .int .i64 p.dip, .int .i64 p.seg_kind, .int .i64 p.seg_sport, .int .i64 p.seg_dport, .int .i64 p.seg_seq, .int .i64 p.seg_ack, .int .i64 p.seg_flags, .int .i64 p.seg_win, .string p.seg_body]] w fun e w' => e = .returned (.bool false) ∧ Below w.heap.size w w' := by
  go_enter Try.func48, Try.ntmps48
  go_wp2_with fail
  have k0 : Below w.heap.size w ((w.alloc (.cells #[.int .i64 r.prio, .int .i64 r.kind, .int .i64 r.sip, .int .i64 r.sbits, .int .i64 r.fport, .int .i64 r.lport, .int .i64 r.vlan, .int .i64 r.action, .int .i64 r.queue] 58)).alloc (.cells #[.int .i64 p.dmac, .int .i64 p.smac, .int .i64 p.vlan, .int .i64 p.tos, .int .i64 p.id, .int .i64 p.ttl, .int .i64 p.sip, .int .i64 p.dip, .int .i64 p.seg_kind, .int .i64 p.seg_sport, .int .i64 p.seg_dport, .int .i64 p.seg_seq, .int .i64 p.seg_ack, .int .i64 p.seg_flags, .int .i64 p.seg_win, .string p.seg_body] 41)) := by go_grown
  have bl0 : w.heap.size < ((w.alloc (.cells #[.int .i64 r.prio, .int .i64 r.kind, .int .i64 r.sip, .int .i64 r.sbits, .int .i64 r.fport, .int .i64 r.lport, .int .i64 r.vlan, .int .i64 r.action, .int .i64 r.queue] 58)).alloc (.cells #[.int .i64 p.dmac, .int .i64 p.smac, .int .i64 p.vlan, .int .i64 p.tos, .int .i64 p.id, .int .i64 p.ttl, .int .i64 p.sip, .int .i64 p.dip, .int .i64 p.seg_kind, .int .i64 p.seg_sport, .int .i64 p.seg_dport, .int .i64 p.seg_seq, .int .i64 p.seg_ack, .int .i64 p.seg_flags, .int .i64 p.seg_win, .string p.seg_body] 41)).heap.size := by go_size
  have hk0 : Blk ((w.alloc (.cells #[.int .i64 r.prio, .int .i64 r.kind, .int .i64 r.sip, .int .i64 r.sbits, .int .i64 r.fport, .int .i64 r.lport, .int .i64 r.vlan, .int .i64 r.action, .int .i64 r.queue] 58)).alloc (.cells #[.int .i64 p.dmac, .int .i64 p.smac, .int .i64 p.vlan, .int .i64 p.tos, .int .i64 p.id, .int .i64 p.ttl, .int .i64 p.sip, .int .i64 p.dip, .int .i64 p.seg_kind, .int .i64 p.seg_sport, .int .i64 p.seg_dport, .int .i64 p.seg_seq, .int .i64 p.seg_ack, .int .i64 p.seg_flags, .int .i64 p.seg_win, .string p.seg_body] 41)) (w.heap.size) 58 [.int .i64 r.prio, .int .i64 r.kind, .int .i64 r.sip, .int .i64 r.sbits, .int .i64 r.fport, .int .i64 r.lport, .int .i64 r.vlan, .int .i64 r.action, .int .i64 r.queue] := by simpa using (Blk.new w 58 [.int .i64 r.prio, .int .i64 r.kind, .int .i64 r.sip, .int .i64 r.sbits, .int .i64 r.fport, .int .i64 r.lport, .int .i64 r.vlan, .int .i64 r.action, .int .i64 r.queue]).alloc (.cells #[.int .i64 p.dmac, .int .i64 p.smac, .int .i64 p.vlan, .int .i64 p.tos, .int .i64 p.id, .int .i64 p.ttl, .int .i64 p.sip, .int .i64 p.dip, .int .i64 p.seg_kind, .int .i64 p.seg_sport, .int .i64 p.seg_dport, .int .i64 p.seg_seq, .int .i64 p.seg_ack, .int .i64 p.seg_flags, .int .i64 p.seg_win, .string p.seg_body] 41)
  have bl1 : w.heap.size + 1 < ((w.alloc (.cells #[.int .i64 r.prio, .int .i64 r.kind, .int .i64 r.sip, .int .i64 r.sbits, .int .i64 r.fport, .int .i64 r.lport, .int .i64 r.vlan, .int .i64 r.action, .int .i64 r.queue] 58)).alloc (.cells #[.int .i64 p.dmac, .int .i64 p.smac, .int .i64 p.vlan, .int .i64 p.tos, .int .i64 p.id, .int .i64 p.ttl, .int .i64 p.sip, .int .i64 p.dip, .int .i64 p.seg_kind, .int .i64 p.seg_sport, .int .i64 p.seg_dport, .int .i64 p.seg_seq, .int .i64 p.seg_ack, .int .i64 p.seg_flags, .int .i64 p.seg_win, .string p.seg_body] 41)).heap.size := by go_size
  have hk1 : Blk ((w.alloc (.cells #[.int .i64 r.prio, .int .i64 r.kind, .int .i64 r.sip, .int .i64 r.sbits, .int .i64 r.fport, .int .i64 r.lport, .int .i64 r.vlan, .int .i64 r.action, .int .i64 r.queue] 58)).alloc (.cells #[.int .i64 p.dmac, .int .i64 p.smac, .int .i64 p.vlan, .int .i64 p.tos, .int .i64 p.id, .int .i64 p.ttl, .int .i64 p.sip, .int .i64 p.dip, .int .i64 p.seg_kind, .int .i64 p.seg_sport, .int .i64 p.seg_dport, .int .i64 p.seg_seq, .int .i64 p.seg_ack, .int .i64 p.seg_flags, .int .i64 p.seg_win, .string p.seg_body] 41)) (w.heap.size + 1) 41 [.int .i64 p.dmac, .int .i64 p.smac, .int .i64 p.vlan, .int .i64 p.tos, .int .i64 p.id, .int .i64 p.ttl, .int .i64 p.sip, .int .i64 p.dip, .int .i64 p.seg_kind, .int .i64 p.seg_sport, .int .i64 p.seg_dport, .int .i64 p.seg_seq, .int .i64 p.seg_ack, .int .i64 p.seg_flags, .int .i64 p.seg_win, .string p.seg_body] := by simpa using Blk.new (w.alloc (.cells #[.int .i64 r.prio, .int .i64 r.kind, .int .i64 r.sip, .int .i64 r.sbits, .int .i64 r.fport, .int .i64 r.lport, .int .i64 r.vlan, .int .i64 r.action, .int .i64 r.queue] 58)) 41 [.int .i64 p.dmac, .int .i64 p.smac, .int .i64 p.vlan, .int .i64 p.tos, .int .i64 p.id, .int .i64 p.ttl, .int .i64 p.sip, .int .i64 p.dip, .int .i64 p.seg_kind, .int .i64 p.seg_sport, .int .i64 p.seg_dport, .int .i64 p.seg_seq, .int .i64 p.seg_ack, .int .i64 p.seg_flags, .int .i64 p.seg_win, .string p.seg_body]
  have p0 := k0.size
  generalize hW0 : ((w.alloc (.cells #[.int .i64 r.prio, .int .i64 r.kind, .int .i64 r.sip, .int .i64 r.sbits, .int .i64 r.fport, .int .i64 r.lport, .int .i64 r.vlan, .int .i64 r.action, .int .i64 r.queue] 58)).alloc (.cells #[.int .i64 p.dmac, .int .i64 p.smac, .int .i64 p.vlan, .int .i64 p.tos, .int .i64 p.id, .int .i64 p.ttl, .int .i64 p.sip, .int .i64 p.dip, .int .i64 p.seg_kind, .int .i64 p.seg_sport, .int .i64 p.seg_dport, .int .i64 p.seg_seq, .int .i64 p.seg_ack, .int .i64 p.seg_flags, .int .i64 p.seg_win, .string p.seg_body] 41)) = w0 at *
  clear hW0
  refine (hR _).mono ?_
  rintro e w1 ⟨rfl, hb⟩
  have k1 : Below w.heap.size w w1 := ext_step k0 (by omega) hb
  have p1 := hb.size
  replace hk0 := hk0.ext hb
  replace hk1 := hk1.ext hb
  have bl0 := Nat.lt_of_lt_of_le bl0 hb.size
  have bl1 := Nat.lt_of_lt_of_le bl1 hb.size
  clear hb
  have bx1_0 := hk1.at_ 0 _ rfl
  have bx1_1 := hk1.at_ 1 _ rfl
  have bx1_2 := hk1.at_ 2 _ rfl
  have bx1_3 := hk1.at_ 3 _ rfl
  have bx1_4 := hk1.at_ 4 _ rfl
  have bx1_5 := hk1.at_ 5 _ rfl
  have bx1_6 := hk1.at_ 6 _ rfl
  have bx1_7 := hk1.at_ 7 _ rfl
  have bx1_8 := hk1.at_ 8 _ rfl
  have bx1_9 := hk1.at_ 9 _ rfl
  have bx1_10 := hk1.at_ 10 _ rfl
  have bx1_11 := hk1.at_ 11 _ rfl
  have bx1_12 := hk1.at_ 12 _ rfl
  have bx1_13 := hk1.at_ 13 _ rfl
  have bx1_14 := hk1.at_ 14 _ rfl
  have bx1_15 := hk1.at_ 15 _ rfl
  go_wp2_with fail
  refine (hS _).mono ?_
  rintro e w2 ⟨rfl, hb⟩
  have k2 : Below w.heap.size w w2 := ext_step k1 (by omega) hb
  have p2 := hb.size
  replace hk0 := hk0.ext hb
  replace hk1 := hk1.ext hb
  clear bx1_0 bx1_1 bx1_2 bx1_3 bx1_4 bx1_5 bx1_6 bx1_7 bx1_8 bx1_9 bx1_10 bx1_11 bx1_12 bx1_13 bx1_14 bx1_15
  have bl0 := Nat.lt_of_lt_of_le bl0 hb.size
  have bl1 := Nat.lt_of_lt_of_le bl1 hb.size
  clear hb
  have bx0_1 := hk0.at_ 1 _ rfl
  have bx1_8 := hk1.at_ 8 _ rfl
  have bx0_2 := hk0.at_ 2 _ rfl
  have bx0_3 := hk0.at_ 3 _ rfl
  have bx1_6 := hk1.at_ 6 _ rfl
  go_wp2_with fail
  refine (hP _).mono ?_
  rintro e w3 ⟨rfl, hb⟩
  have k3 : Below w.heap.size w w3 := ext_step k2 (by omega) hb
  have p3 := hb.size
  replace hk0 := hk0.ext hb
  replace hk1 := hk1.ext hb
  clear bx0_1 bx1_8 bx0_2 bx0_3 bx1_6
  have bl0 := Nat.lt_of_lt_of_le bl0 hb.size
  have bl1 := Nat.lt_of_lt_of_le bl1 hb.size
  clear hb
  have bx0_4 := hk0.at_ 4 _ rfl
  have bx0_5 := hk0.at_ 5 _ rfl
  have bx0_6 := hk0.at_ 6 _ rfl
  have bx1_2 := hk1.at_ 2 _ rfl
  have bx1_10 := hk1.at_ 10 _ rfl
  go_wp2_with fail
  refine (between_c _ _ _ _).mono ?_
  rintro e w_ ⟨rfl, rfl⟩
  rw [di]
  go_wp2
  go_ret
  exact ⟨rfl, k3⟩
set_option maxRecDepth 100000 in
set_option maxHeartbeats 4000000 in
theorem implRM_bp (r : Rule) (p : Packet) {b : Bool} (w : World) (hR : ∀ u : World, Calls Try.prog 51 #[.agg #[.int .i64 r.prio, .int .i64 r.kind, .int .i64 r.sip, .int .i64 r.sbits, .int .i64 r.fport, .int .i64 r.lport, .int .i64 r.vlan, .int .i64 r.action, .int .i64 r.queue]] u fun e w' => e = .returned (.bool true) ∧ Below u.heap.size u w') (hS : ∀ u : World, Calls Try.prog 19 #[.agg #[.int .i64 p.dmac, .int .i64 p.smac, .int .i64 p.vlan, .int .i64 p.tos, .int .i64 p.id, .int .i64 p.ttl, .int .i64 p.sip, .int .i64 p.dip, .int .i64 p.seg_kind, .int .i64 p.seg_sport, .int .i64 p.seg_dport, .int .i64 p.seg_seq, .int .i64 p.seg_ack, .int .i64 p.seg_flags, .int .i64 p.seg_win, .string p.seg_body]] u fun e w' => e = .returned (.bool true) ∧ Below u.heap.size u w') (hP : ∀ u : World, Calls Try.prog 71 #[.int .i64 r.sip, .int .i64 p.sip, .int .i64 r.sbits] u fun e w' => e = .returned (.bool false) ∧ Below u.heap.size u w') (bk0 : (r.kind == 0) = false) (bk1 : (r.kind == p.seg_kind) = true) :
    Calls Try.prog 48 #[.agg #[.int .i64 r.prio, .int .i64 r.kind, .int .i64 r.sip, .int .i64 r.sbits, .int .i64 r.fport, .int .i64 r.lport, .int .i64 r.vlan, .int .i64 r.action, .int .i64 r.queue], .agg #[.int .i64 p.dmac, .int .i64 p.smac, .int .i64 p.vlan, .int .i64 p.tos, .int .i64 p.id, .int .i64 p.ttl, .int .i64 p.sip, .int .i64 p.dip, .int .i64 p.seg_kind, .int .i64 p.seg_sport, .int .i64 p.seg_dport, .int .i64 p.seg_seq, .int .i64 p.seg_ack, .int .i64 p.seg_flags, .int .i64 p.seg_win, .string p.seg_body]] w fun e w' => e = .returned (.bool false) ∧ Below w.heap.size w w' := by
  go_enter Try.func48, Try.ntmps48
  go_wp2_with fail
  have k0 : Below w.heap.size w ((w.alloc (.cells #[.int .i64 r.prio, .int .i64 r.kind, .int .i64 r.sip, .int .i64 r.sbits, .int .i64 r.fport, .int .i64 r.lport, .int .i64 r.vlan, .int .i64 r.action, .int .i64 r.queue] 58)).alloc (.cells #[.int .i64 p.dmac, .int .i64 p.smac, .int .i64 p.vlan, .int .i64 p.tos, .int .i64 p.id, .int .i64 p.ttl, .int .i64 p.sip, .int .i64 p.dip, .int .i64 p.seg_kind, .int .i64 p.seg_sport, .int .i64 p.seg_dport, .int .i64 p.seg_seq, .int .i64 p.seg_ack, .int .i64 p.seg_flags, .int .i64 p.seg_win, .string p.seg_body] 41)) := by go_grown
  have bl0 : w.heap.size < ((w.alloc (.cells #[.int .i64 r.prio, .int .i64 r.kind, .int .i64 r.sip, .int .i64 r.sbits, .int .i64 r.fport, .int .i64 r.lport, .int .i64 r.vlan, .int .i64 r.action, .int .i64 r.queue] 58)).alloc (.cells #[.int .i64 p.dmac, .int .i64 p.smac, .int .i64 p.vlan, .int .i64 p.tos, .int .i64 p.id, .int .i64 p.ttl, .int .i64 p.sip, .int .i64 p.dip, .int .i64 p.seg_kind, .int .i64 p.seg_sport, .int .i64 p.seg_dport, .int .i64 p.seg_seq, .int .i64 p.seg_ack, .int .i64 p.seg_flags, .int .i64 p.seg_win, .string p.seg_body] 41)).heap.size := by go_size
  have hk0 : Blk ((w.alloc (.cells #[.int .i64 r.prio, .int .i64 r.kind, .int .i64 r.sip, .int .i64 r.sbits, .int .i64 r.fport, .int .i64 r.lport, .int .i64 r.vlan, .int .i64 r.action, .int .i64 r.queue] 58)).alloc (.cells #[.int .i64 p.dmac, .int .i64 p.smac, .int .i64 p.vlan, .int .i64 p.tos, .int .i64 p.id, .int .i64 p.ttl, .int .i64 p.sip, .int .i64 p.dip, .int .i64 p.seg_kind, .int .i64 p.seg_sport, .int .i64 p.seg_dport, .int .i64 p.seg_seq, .int .i64 p.seg_ack, .int .i64 p.seg_flags, .int .i64 p.seg_win, .string p.seg_body] 41)) (w.heap.size) 58 [.int .i64 r.prio, .int .i64 r.kind, .int .i64 r.sip, .int .i64 r.sbits, .int .i64 r.fport, .int .i64 r.lport, .int .i64 r.vlan, .int .i64 r.action, .int .i64 r.queue] := by simpa using (Blk.new w 58 [.int .i64 r.prio, .int .i64 r.kind, .int .i64 r.sip, .int .i64 r.sbits, .int .i64 r.fport, .int .i64 r.lport, .int .i64 r.vlan, .int .i64 r.action, .int .i64 r.queue]).alloc (.cells #[.int .i64 p.dmac, .int .i64 p.smac, .int .i64 p.vlan, .int .i64 p.tos, .int .i64 p.id, .int .i64 p.ttl, .int .i64 p.sip, .int .i64 p.dip, .int .i64 p.seg_kind, .int .i64 p.seg_sport, .int .i64 p.seg_dport, .int .i64 p.seg_seq, .int .i64 p.seg_ack, .int .i64 p.seg_flags, .int .i64 p.seg_win, .string p.seg_body] 41)
  have bl1 : w.heap.size + 1 < ((w.alloc (.cells #[.int .i64 r.prio, .int .i64 r.kind, .int .i64 r.sip, .int .i64 r.sbits, .int .i64 r.fport, .int .i64 r.lport, .int .i64 r.vlan, .int .i64 r.action, .int .i64 r.queue] 58)).alloc (.cells #[.int .i64 p.dmac, .int .i64 p.smac, .int .i64 p.vlan, .int .i64 p.tos, .int .i64 p.id, .int .i64 p.ttl, .int .i64 p.sip, .int .i64 p.dip, .int .i64 p.seg_kind, .int .i64 p.seg_sport, .int .i64 p.seg_dport, .int .i64 p.seg_seq, .int .i64 p.seg_ack, .int .i64 p.seg_flags, .int .i64 p.seg_win, .string p.seg_body] 41)).heap.size := by go_size
  have hk1 : Blk ((w.alloc (.cells #[.int .i64 r.prio, .int .i64 r.kind, .int .i64 r.sip, .int .i64 r.sbits, .int .i64 r.fport, .int .i64 r.lport, .int .i64 r.vlan, .int .i64 r.action, .int .i64 r.queue] 58)).alloc (.cells #[.int .i64 p.dmac, .int .i64 p.smac, .int .i64 p.vlan, .int .i64 p.tos, .int .i64 p.id, .int .i64 p.ttl, .int .i64 p.sip, .int .i64 p.dip, .int .i64 p.seg_kind, .int .i64 p.seg_sport, .int .i64 p.seg_dport, .int .i64 p.seg_seq, .int .i64 p.seg_ack, .int .i64 p.seg_flags, .int .i64 p.seg_win, .string p.seg_body] 41)) (w.heap.size + 1) 41 [.int .i64 p.dmac, .int .i64 p.smac, .int .i64 p.vlan, .int .i64 p.tos, .int .i64 p.id, .int .i64 p.ttl, .int .i64 p.sip, .int .i64 p.dip, .int .i64 p.seg_kind, .int .i64 p.seg_sport, .int .i64 p.seg_dport, .int .i64 p.seg_seq, .int .i64 p.seg_ack, .int .i64 p.seg_flags, .int .i64 p.seg_win, .string p.seg_body] := by simpa using Blk.new (w.alloc (.cells #[.int .i64 r.prio, .int .i64 r.kind, .int .i64 r.sip, .int .i64 r.sbits, .int .i64 r.fport, .int .i64 r.lport, .int .i64 r.vlan, .int .i64 r.action, .int .i64 r.queue] 58)) 41 [.int .i64 p.dmac, .int .i64 p.smac, .int .i64 p.vlan, .int .i64 p.tos, .int .i64 p.id, .int .i64 p.ttl, .int .i64 p.sip, .int .i64 p.dip, .int .i64 p.seg_kind, .int .i64 p.seg_sport, .int .i64 p.seg_dport, .int .i64 p.seg_seq, .int .i64 p.seg_ack, .int .i64 p.seg_flags, .int .i64 p.seg_win, .string p.seg_body]
  have p0 := k0.size
  generalize hW0 : ((w.alloc (.cells #[.int .i64 r.prio, .int .i64 r.kind, .int .i64 r.sip, .int .i64 r.sbits, .int .i64 r.fport, .int .i64 r.lport, .int .i64 r.vlan, .int .i64 r.action, .int .i64 r.queue] 58)).alloc (.cells #[.int .i64 p.dmac, .int .i64 p.smac, .int .i64 p.vlan, .int .i64 p.tos, .int .i64 p.id, .int .i64 p.ttl, .int .i64 p.sip, .int .i64 p.dip, .int .i64 p.seg_kind, .int .i64 p.seg_sport, .int .i64 p.seg_dport, .int .i64 p.seg_seq, .int .i64 p.seg_ack, .int .i64 p.seg_flags, .int .i64 p.seg_win, .string p.seg_body] 41)) = w0 at *
  clear hW0
  refine (hR _).mono ?_
  rintro e w1 ⟨rfl, hb⟩
  have k1 : Below w.heap.size w w1 := ext_step k0 (by omega) hb
  have p1 := hb.size
  replace hk0 := hk0.ext hb
  replace hk1 := hk1.ext hb
  have bl0 := Nat.lt_of_lt_of_le bl0 hb.size
  have bl1 := Nat.lt_of_lt_of_le bl1 hb.size
  clear hb
  have bx1_0 := hk1.at_ 0 _ rfl
  have bx1_1 := hk1.at_ 1 _ rfl
  have bx1_2 := hk1.at_ 2 _ rfl
  have bx1_3 := hk1.at_ 3 _ rfl
  have bx1_4 := hk1.at_ 4 _ rfl
  have bx1_5 := hk1.at_ 5 _ rfl
  have bx1_6 := hk1.at_ 6 _ rfl
  have bx1_7 := hk1.at_ 7 _ rfl
  have bx1_8 := hk1.at_ 8 _ rfl
  have bx1_9 := hk1.at_ 9 _ rfl
  have bx1_10 := hk1.at_ 10 _ rfl
  have bx1_11 := hk1.at_ 11 _ rfl
  have bx1_12 := hk1.at_ 12 _ rfl
  have bx1_13 := hk1.at_ 13 _ rfl
  have bx1_14 := hk1.at_ 14 _ rfl
  have bx1_15 := hk1.at_ 15 _ rfl
  go_wp2_with fail
  refine (hS _).mono ?_
  rintro e w2 ⟨rfl, hb⟩
  have k2 : Below w.heap.size w w2 := ext_step k1 (by omega) hb
  have p2 := hb.size
  replace hk0 := hk0.ext hb
  replace hk1 := hk1.ext hb
  clear bx1_0 bx1_1 bx1_2 bx1_3 bx1_4 bx1_5 bx1_6 bx1_7 bx1_8 bx1_9 bx1_10 bx1_11 bx1_12 bx1_13 bx1_14 bx1_15
  have bl0 := Nat.lt_of_lt_of_le bl0 hb.size
  have bl1 := Nat.lt_of_lt_of_le bl1 hb.size
  clear hb
  have bx0_1 := hk0.at_ 1 _ rfl
  have bx1_8 := hk1.at_ 8 _ rfl
  have bx0_2 := hk0.at_ 2 _ rfl
  have bx0_3 := hk0.at_ 3 _ rfl
  have bx1_6 := hk1.at_ 6 _ rfl
  go_wp2_with fail
  refine (hP _).mono ?_
  rintro e w3 ⟨rfl, hb⟩
  have k3 : Below w.heap.size w w3 := ext_step k2 (by omega) hb
  have p3 := hb.size
  replace hk0 := hk0.ext hb
  replace hk1 := hk1.ext hb
  clear bx0_1 bx1_8 bx0_2 bx0_3 bx1_6
  have bl0 := Nat.lt_of_lt_of_le bl0 hb.size
  have bl1 := Nat.lt_of_lt_of_le bl1 hb.size
  clear hb
  go_wp2
  go_ret
  exact ⟨rfl, k3⟩
set_option maxRecDepth 100000 in
set_option maxHeartbeats 4000000 in
theorem implRM_k (r : Rule) (p : Packet) {b : Bool} (w : World) (hR : ∀ u : World, Calls Try.prog 51 #[.agg #[.int .i64 r.prio, .int .i64 r.kind, .int .i64 r.sip, .int .i64 r.sbits, .int .i64 r.fport, .int .i64 r.lport, .int .i64 r.vlan, .int .i64 r.action, .int .i64 r.queue]] u fun e w' => e = .returned (.bool true) ∧ Below u.heap.size u w') (hS : ∀ u : World, Calls Try.prog 19 #[.agg #[.int .i64 p.dmac, .int .i64 p.smac, .int .i64 p.vlan, .int .i64 p.tos, .int .i64 p.id, .int .i64 p.ttl, .int .i64 p.sip, .int .i64 p.dip, .int .i64 p.seg_kind, .int .i64 p.seg_sport, .int .i64 p.seg_dport, .int .i64 p.seg_seq, .int .i64 p.seg_ack, .int .i64 p.seg_flags, .int .i64 p.seg_win, .string p.seg_body]] u fun e w' => e = .returned (.bool true) ∧ Below u.heap.size u w') (bk0 : (r.kind == 0) = false) (bk1 : (r.kind == p.seg_kind) = false) :
    Calls Try.prog 48 #[.agg #[.int .i64 r.prio, .int .i64 r.kind, .int .i64 r.sip, .int .i64 r.sbits, .int .i64 r.fport, .int .i64 r.lport, .int .i64 r.vlan, .int .i64 r.action, .int .i64 r.queue], .agg #[.int .i64 p.dmac, .int .i64 p.smac, .int .i64 p.vlan, .int .i64 p.tos, .int .i64 p.id, .int .i64 p.ttl, .int .i64 p.sip, .int .i64 p.dip, .int .i64 p.seg_kind, .int .i64 p.seg_sport, .int .i64 p.seg_dport, .int .i64 p.seg_seq, .int .i64 p.seg_ack, .int .i64 p.seg_flags, .int .i64 p.seg_win, .string p.seg_body]] w fun e w' => e = .returned (.bool false) ∧ Below w.heap.size w w' := by
  go_enter Try.func48, Try.ntmps48
  go_wp2_with fail
  have k0 : Below w.heap.size w ((w.alloc (.cells #[.int .i64 r.prio, .int .i64 r.kind, .int .i64 r.sip, .int .i64 r.sbits, .int .i64 r.fport, .int .i64 r.lport, .int .i64 r.vlan, .int .i64 r.action, .int .i64 r.queue] 58)).alloc (.cells #[.int .i64 p.dmac, .int .i64 p.smac, .int .i64 p.vlan, .int .i64 p.tos, .int .i64 p.id, .int .i64 p.ttl, .int .i64 p.sip, .int .i64 p.dip, .int .i64 p.seg_kind, .int .i64 p.seg_sport, .int .i64 p.seg_dport, .int .i64 p.seg_seq, .int .i64 p.seg_ack, .int .i64 p.seg_flags, .int .i64 p.seg_win, .string p.seg_body] 41)) := by go_grown
  have bl0 : w.heap.size < ((w.alloc (.cells #[.int .i64 r.prio, .int .i64 r.kind, .int .i64 r.sip, .int .i64 r.sbits, .int .i64 r.fport, .int .i64 r.lport, .int .i64 r.vlan, .int .i64 r.action, .int .i64 r.queue] 58)).alloc (.cells #[.int .i64 p.dmac, .int .i64 p.smac, .int .i64 p.vlan, .int .i64 p.tos, .int .i64 p.id, .int .i64 p.ttl, .int .i64 p.sip, .int .i64 p.dip, .int .i64 p.seg_kind, .int .i64 p.seg_sport, .int .i64 p.seg_dport, .int .i64 p.seg_seq, .int .i64 p.seg_ack, .int .i64 p.seg_flags, .int .i64 p.seg_win, .string p.seg_body] 41)).heap.size := by go_size
  have hk0 : Blk ((w.alloc (.cells #[.int .i64 r.prio, .int .i64 r.kind, .int .i64 r.sip, .int .i64 r.sbits, .int .i64 r.fport, .int .i64 r.lport, .int .i64 r.vlan, .int .i64 r.action, .int .i64 r.queue] 58)).alloc (.cells #[.int .i64 p.dmac, .int .i64 p.smac, .int .i64 p.vlan, .int .i64 p.tos, .int .i64 p.id, .int .i64 p.ttl, .int .i64 p.sip, .int .i64 p.dip, .int .i64 p.seg_kind, .int .i64 p.seg_sport, .int .i64 p.seg_dport, .int .i64 p.seg_seq, .int .i64 p.seg_ack, .int .i64 p.seg_flags, .int .i64 p.seg_win, .string p.seg_body] 41)) (w.heap.size) 58 [.int .i64 r.prio, .int .i64 r.kind, .int .i64 r.sip, .int .i64 r.sbits, .int .i64 r.fport, .int .i64 r.lport, .int .i64 r.vlan, .int .i64 r.action, .int .i64 r.queue] := by simpa using (Blk.new w 58 [.int .i64 r.prio, .int .i64 r.kind, .int .i64 r.sip, .int .i64 r.sbits, .int .i64 r.fport, .int .i64 r.lport, .int .i64 r.vlan, .int .i64 r.action, .int .i64 r.queue]).alloc (.cells #[.int .i64 p.dmac, .int .i64 p.smac, .int .i64 p.vlan, .int .i64 p.tos, .int .i64 p.id, .int .i64 p.ttl, .int .i64 p.sip, .int .i64 p.dip, .int .i64 p.seg_kind, .int .i64 p.seg_sport, .int .i64 p.seg_dport, .int .i64 p.seg_seq, .int .i64 p.seg_ack, .int .i64 p.seg_flags, .int .i64 p.seg_win, .string p.seg_body] 41)
  have bl1 : w.heap.size + 1 < ((w.alloc (.cells #[.int .i64 r.prio, .int .i64 r.kind, .int .i64 r.sip, .int .i64 r.sbits, .int .i64 r.fport, .int .i64 r.lport, .int .i64 r.vlan, .int .i64 r.action, .int .i64 r.queue] 58)).alloc (.cells #[.int .i64 p.dmac, .int .i64 p.smac, .int .i64 p.vlan, .int .i64 p.tos, .int .i64 p.id, .int .i64 p.ttl, .int .i64 p.sip, .int .i64 p.dip, .int .i64 p.seg_kind, .int .i64 p.seg_sport, .int .i64 p.seg_dport, .int .i64 p.seg_seq, .int .i64 p.seg_ack, .int .i64 p.seg_flags, .int .i64 p.seg_win, .string p.seg_body] 41)).heap.size := by go_size
  have hk1 : Blk ((w.alloc (.cells #[.int .i64 r.prio, .int .i64 r.kind, .int .i64 r.sip, .int .i64 r.sbits, .int .i64 r.fport, .int .i64 r.lport, .int .i64 r.vlan, .int .i64 r.action, .int .i64 r.queue] 58)).alloc (.cells #[.int .i64 p.dmac, .int .i64 p.smac, .int .i64 p.vlan, .int .i64 p.tos, .int .i64 p.id, .int .i64 p.ttl, .int .i64 p.sip, .int .i64 p.dip, .int .i64 p.seg_kind, .int .i64 p.seg_sport, .int .i64 p.seg_dport, .int .i64 p.seg_seq, .int .i64 p.seg_ack, .int .i64 p.seg_flags, .int .i64 p.seg_win, .string p.seg_body] 41)) (w.heap.size + 1) 41 [.int .i64 p.dmac, .int .i64 p.smac, .int .i64 p.vlan, .int .i64 p.tos, .int .i64 p.id, .int .i64 p.ttl, .int .i64 p.sip, .int .i64 p.dip, .int .i64 p.seg_kind, .int .i64 p.seg_sport, .int .i64 p.seg_dport, .int .i64 p.seg_seq, .int .i64 p.seg_ack, .int .i64 p.seg_flags, .int .i64 p.seg_win, .string p.seg_body] := by simpa using Blk.new (w.alloc (.cells #[.int .i64 r.prio, .int .i64 r.kind, .int .i64 r.sip, .int .i64 r.sbits, .int .i64 r.fport, .int .i64 r.lport, .int .i64 r.vlan, .int .i64 r.action, .int .i64 r.queue] 58)) 41 [.int .i64 p.dmac, .int .i64 p.smac, .int .i64 p.vlan, .int .i64 p.tos, .int .i64 p.id, .int .i64 p.ttl, .int .i64 p.sip, .int .i64 p.dip, .int .i64 p.seg_kind, .int .i64 p.seg_sport, .int .i64 p.seg_dport, .int .i64 p.seg_seq, .int .i64 p.seg_ack, .int .i64 p.seg_flags, .int .i64 p.seg_win, .string p.seg_body]
  have p0 := k0.size
  generalize hW0 : ((w.alloc (.cells #[.int .i64 r.prio, .int .i64 r.kind, .int .i64 r.sip, .int .i64 r.sbits, .int .i64 r.fport, .int .i64 r.lport, .int .i64 r.vlan, .int .i64 r.action, .int .i64 r.queue] 58)).alloc (.cells #[.int .i64 p.dmac, .int .i64 p.smac, .int .i64 p.vlan, .int .i64 p.tos, .int .i64 p.id, .int .i64 p.ttl, .int .i64 p.sip, .int .i64 p.dip, .int .i64 p.seg_kind, .int .i64 p.seg_sport, .int .i64 p.seg_dport, .int .i64 p.seg_seq, .int .i64 p.seg_ack, .int .i64 p.seg_flags, .int .i64 p.seg_win, .string p.seg_body] 41)) = w0 at *
  clear hW0
  refine (hR _).mono ?_
  rintro e w1 ⟨rfl, hb⟩
  have k1 : Below w.heap.size w w1 := ext_step k0 (by omega) hb
  have p1 := hb.size
  replace hk0 := hk0.ext hb
  replace hk1 := hk1.ext hb
  have bl0 := Nat.lt_of_lt_of_le bl0 hb.size
  have bl1 := Nat.lt_of_lt_of_le bl1 hb.size
  clear hb
  have bx1_0 := hk1.at_ 0 _ rfl
  have bx1_1 := hk1.at_ 1 _ rfl
  have bx1_2 := hk1.at_ 2 _ rfl
  have bx1_3 := hk1.at_ 3 _ rfl
  have bx1_4 := hk1.at_ 4 _ rfl
  have bx1_5 := hk1.at_ 5 _ rfl
  have bx1_6 := hk1.at_ 6 _ rfl
  have bx1_7 := hk1.at_ 7 _ rfl
  have bx1_8 := hk1.at_ 8 _ rfl
  have bx1_9 := hk1.at_ 9 _ rfl
  have bx1_10 := hk1.at_ 10 _ rfl
  have bx1_11 := hk1.at_ 11 _ rfl
  have bx1_12 := hk1.at_ 12 _ rfl
  have bx1_13 := hk1.at_ 13 _ rfl
  have bx1_14 := hk1.at_ 14 _ rfl
  have bx1_15 := hk1.at_ 15 _ rfl
  go_wp2_with fail
  refine (hS _).mono ?_
  rintro e w2 ⟨rfl, hb⟩
  have k2 : Below w.heap.size w w2 := ext_step k1 (by omega) hb
  have p2 := hb.size
  replace hk0 := hk0.ext hb
  replace hk1 := hk1.ext hb
  clear bx1_0 bx1_1 bx1_2 bx1_3 bx1_4 bx1_5 bx1_6 bx1_7 bx1_8 bx1_9 bx1_10 bx1_11 bx1_12 bx1_13 bx1_14 bx1_15
  have bl0 := Nat.lt_of_lt_of_le bl0 hb.size
  have bl1 := Nat.lt_of_lt_of_le bl1 hb.size
  clear hb
  have bx0_1 := hk0.at_ 1 _ rfl
  have bx1_8 := hk1.at_ 8 _ rfl
  go_wp2
  go_ret
  exact ⟨rfl, k2⟩
set_option maxRecDepth 100000 in
set_option maxHeartbeats 4000000 in
theorem implRM_r (r : Rule) (p : Packet) {b : Bool} (w : World) (hR : ∀ u : World, Calls Try.prog 51 #[.agg #[.int .i64 r.prio, .int .i64 r.kind, .int .i64 r.sip, .int .i64 r.sbits, .int .i64 r.fport, .int .i64 r.lport, .int .i64 r.vlan, .int .i64 r.action, .int .i64 r.queue]] u fun e w' => e = .returned (.bool false) ∧ Below u.heap.size u w') :
    Calls Try.prog 48 #[.agg #[.int .i64 r.prio, .int .i64 r.kind, .int .i64 r.sip, .int .i64 r.sbits, .int .i64 r.fport, .int .i64 r.lport, .int .i64 r.vlan, .int .i64 r.action, .int .i64 r.queue], .agg #[.int .i64 p.dmac, .int .i64 p.smac, .int .i64 p.vlan, .int .i64 p.tos, .int .i64 p.id, .int .i64 p.ttl, .int .i64 p.sip, .int .i64 p.dip, .int .i64 p.seg_kind, .int .i64 p.seg_sport, .int .i64 p.seg_dport, .int .i64 p.seg_seq, .int .i64 p.seg_ack, .int .i64 p.seg_flags, .int .i64 p.seg_win, .string p.seg_body]] w fun e w' => e = .returned (.bool false) ∧ Below w.heap.size w w' := by
  go_enter Try.func48, Try.ntmps48
  go_wp2_with fail
  have k0 : Below w.heap.size w ((w.alloc (.cells #[.int .i64 r.prio, .int .i64 r.kind, .int .i64 r.sip, .int .i64 r.sbits, .int .i64 r.fport, .int .i64 r.lport, .int .i64 r.vlan, .int .i64 r.action, .int .i64 r.queue] 58)).alloc (.cells #[.int .i64 p.dmac, .int .i64 p.smac, .int .i64 p.vlan, .int .i64 p.tos, .int .i64 p.id, .int .i64 p.ttl, .int .i64 p.sip, .int .i64 p.dip, .int .i64 p.seg_kind, .int .i64 p.seg_sport, .int .i64 p.seg_dport, .int .i64 p.seg_seq, .int .i64 p.seg_ack, .int .i64 p.seg_flags, .int .i64 p.seg_win, .string p.seg_body] 41)) := by go_grown
  have bl0 : w.heap.size < ((w.alloc (.cells #[.int .i64 r.prio, .int .i64 r.kind, .int .i64 r.sip, .int .i64 r.sbits, .int .i64 r.fport, .int .i64 r.lport, .int .i64 r.vlan, .int .i64 r.action, .int .i64 r.queue] 58)).alloc (.cells #[.int .i64 p.dmac, .int .i64 p.smac, .int .i64 p.vlan, .int .i64 p.tos, .int .i64 p.id, .int .i64 p.ttl, .int .i64 p.sip, .int .i64 p.dip, .int .i64 p.seg_kind, .int .i64 p.seg_sport, .int .i64 p.seg_dport, .int .i64 p.seg_seq, .int .i64 p.seg_ack, .int .i64 p.seg_flags, .int .i64 p.seg_win, .string p.seg_body] 41)).heap.size := by go_size
  have hk0 : Blk ((w.alloc (.cells #[.int .i64 r.prio, .int .i64 r.kind, .int .i64 r.sip, .int .i64 r.sbits, .int .i64 r.fport, .int .i64 r.lport, .int .i64 r.vlan, .int .i64 r.action, .int .i64 r.queue] 58)).alloc (.cells #[.int .i64 p.dmac, .int .i64 p.smac, .int .i64 p.vlan, .int .i64 p.tos, .int .i64 p.id, .int .i64 p.ttl, .int .i64 p.sip, .int .i64 p.dip, .int .i64 p.seg_kind, .int .i64 p.seg_sport, .int .i64 p.seg_dport, .int .i64 p.seg_seq, .int .i64 p.seg_ack, .int .i64 p.seg_flags, .int .i64 p.seg_win, .string p.seg_body] 41)) (w.heap.size) 58 [.int .i64 r.prio, .int .i64 r.kind, .int .i64 r.sip, .int .i64 r.sbits, .int .i64 r.fport, .int .i64 r.lport, .int .i64 r.vlan, .int .i64 r.action, .int .i64 r.queue] := by simpa using (Blk.new w 58 [.int .i64 r.prio, .int .i64 r.kind, .int .i64 r.sip, .int .i64 r.sbits, .int .i64 r.fport, .int .i64 r.lport, .int .i64 r.vlan, .int .i64 r.action, .int .i64 r.queue]).alloc (.cells #[.int .i64 p.dmac, .int .i64 p.smac, .int .i64 p.vlan, .int .i64 p.tos, .int .i64 p.id, .int .i64 p.ttl, .int .i64 p.sip, .int .i64 p.dip, .int .i64 p.seg_kind, .int .i64 p.seg_sport, .int .i64 p.seg_dport, .int .i64 p.seg_seq, .int .i64 p.seg_ack, .int .i64 p.seg_flags, .int .i64 p.seg_win, .string p.seg_body] 41)
  have bl1 : w.heap.size + 1 < ((w.alloc (.cells #[.int .i64 r.prio, .int .i64 r.kind, .int .i64 r.sip, .int .i64 r.sbits, .int .i64 r.fport, .int .i64 r.lport, .int .i64 r.vlan, .int .i64 r.action, .int .i64 r.queue] 58)).alloc (.cells #[.int .i64 p.dmac, .int .i64 p.smac, .int .i64 p.vlan, .int .i64 p.tos, .int .i64 p.id, .int .i64 p.ttl, .int .i64 p.sip, .int .i64 p.dip, .int .i64 p.seg_kind, .int .i64 p.seg_sport, .int .i64 p.seg_dport, .int .i64 p.seg_seq, .int .i64 p.seg_ack, .int .i64 p.seg_flags, .int .i64 p.seg_win, .string p.seg_body] 41)).heap.size := by go_size
  have hk1 : Blk ((w.alloc (.cells #[.int .i64 r.prio, .int .i64 r.kind, .int .i64 r.sip, .int .i64 r.sbits, .int .i64 r.fport, .int .i64 r.lport, .int .i64 r.vlan, .int .i64 r.action, .int .i64 r.queue] 58)).alloc (.cells #[.int .i64 p.dmac, .int .i64 p.smac, .int .i64 p.vlan, .int .i64 p.tos, .int .i64 p.id, .int .i64 p.ttl, .int .i64 p.sip, .int .i64 p.dip, .int .i64 p.seg_kind, .int .i64 p.seg_sport, .int .i64 p.seg_dport, .int .i64 p.seg_seq, .int .i64 p.seg_ack, .int .i64 p.seg_flags, .int .i64 p.seg_win, .string p.seg_body] 41)) (w.heap.size + 1) 41 [.int .i64 p.dmac, .int .i64 p.smac, .int .i64 p.vlan, .int .i64 p.tos, .int .i64 p.id, .int .i64 p.ttl, .int .i64 p.sip, .int .i64 p.dip, .int .i64 p.seg_kind, .int .i64 p.seg_sport, .int .i64 p.seg_dport, .int .i64 p.seg_seq, .int .i64 p.seg_ack, .int .i64 p.seg_flags, .int .i64 p.seg_win, .string p.seg_body] := by simpa using Blk.new (w.alloc (.cells #[.int .i64 r.prio, .int .i64 r.kind, .int .i64 r.sip, .int .i64 r.sbits, .int .i64 r.fport, .int .i64 r.lport, .int .i64 r.vlan, .int .i64 r.action, .int .i64 r.queue] 58)) 41 [.int .i64 p.dmac, .int .i64 p.smac, .int .i64 p.vlan, .int .i64 p.tos, .int .i64 p.id, .int .i64 p.ttl, .int .i64 p.sip, .int .i64 p.dip, .int .i64 p.seg_kind, .int .i64 p.seg_sport, .int .i64 p.seg_dport, .int .i64 p.seg_seq, .int .i64 p.seg_ack, .int .i64 p.seg_flags, .int .i64 p.seg_win, .string p.seg_body]
  have p0 := k0.size
  generalize hW0 : ((w.alloc (.cells #[.int .i64 r.prio, .int .i64 r.kind, .int .i64 r.sip, .int .i64 r.sbits, .int .i64 r.fport, .int .i64 r.lport, .int .i64 r.vlan, .int .i64 r.action, .int .i64 r.queue] 58)).alloc (.cells #[.int .i64 p.dmac, .int .i64 p.smac, .int .i64 p.vlan, .int .i64 p.tos, .int .i64 p.id, .int .i64 p.ttl, .int .i64 p.sip, .int .i64 p.dip, .int .i64 p.seg_kind, .int .i64 p.seg_sport, .int .i64 p.seg_dport, .int .i64 p.seg_seq, .int .i64 p.seg_ack, .int .i64 p.seg_flags, .int .i64 p.seg_win, .string p.seg_body] 41)) = w0 at *
  clear hW0
  refine (hR _).mono ?_
  rintro e w1 ⟨rfl, hb⟩
  have k1 : Below w.heap.size w w1 := ext_step k0 (by omega) hb
  have p1 := hb.size
  replace hk0 := hk0.ext hb
  replace hk1 := hk1.ext hb
  have bl0 := Nat.lt_of_lt_of_le bl0 hb.size
  have bl1 := Nat.lt_of_lt_of_le bl1 hb.size
  clear hb
  go_wp2
  go_ret
  exact ⟨rfl, k1⟩
set_option maxRecDepth 100000 in
set_option maxHeartbeats 4000000 in
theorem implRM_s (r : Rule) (p : Packet) {b : Bool} (w : World) (hR : ∀ u : World, Calls Try.prog 51 #[.agg #[.int .i64 r.prio, .int .i64 r.kind, .int .i64 r.sip, .int .i64 r.sbits, .int .i64 r.fport, .int .i64 r.lport, .int .i64 r.vlan, .int .i64 r.action, .int .i64 r.queue]] u fun e w' => e = .returned (.bool true) ∧ Below u.heap.size u w') (hS : ∀ u : World, Calls Try.prog 19 #[.agg #[.int .i64 p.dmac, .int .i64 p.smac, .int .i64 p.vlan, .int .i64 p.tos, .int .i64 p.id, .int .i64 p.ttl, .int .i64 p.sip, .int .i64 p.dip, .int .i64 p.seg_kind, .int .i64 p.seg_sport, .int .i64 p.seg_dport, .int .i64 p.seg_seq, .int .i64 p.seg_ack, .int .i64 p.seg_flags, .int .i64 p.seg_win, .string p.seg_body]] u fun e w' => e = .returned (.bool false) ∧ Below u.heap.size u w') :
    Calls Try.prog 48 #[.agg #[.int .i64 r.prio, .int .i64 r.kind, .int .i64 r.sip, .int .i64 r.sbits, .int .i64 r.fport, .int .i64 r.lport, .int .i64 r.vlan, .int .i64 r.action, .int .i64 r.queue], .agg #[.int .i64 p.dmac, .int .i64 p.smac, .int .i64 p.vlan, .int .i64 p.tos, .int .i64 p.id, .int .i64 p.ttl, .int .i64 p.sip, .int .i64 p.dip, .int .i64 p.seg_kind, .int .i64 p.seg_sport, .int .i64 p.seg_dport, .int .i64 p.seg_seq, .int .i64 p.seg_ack, .int .i64 p.seg_flags, .int .i64 p.seg_win, .string p.seg_body]] w fun e w' => e = .returned (.bool false) ∧ Below w.heap.size w w' := by
  go_enter Try.func48, Try.ntmps48
  go_wp2_with fail
  have k0 : Below w.heap.size w ((w.alloc (.cells #[.int .i64 r.prio, .int .i64 r.kind, .int .i64 r.sip, .int .i64 r.sbits, .int .i64 r.fport, .int .i64 r.lport, .int .i64 r.vlan, .int .i64 r.action, .int .i64 r.queue] 58)).alloc (.cells #[.int .i64 p.dmac, .int .i64 p.smac, .int .i64 p.vlan, .int .i64 p.tos, .int .i64 p.id, .int .i64 p.ttl, .int .i64 p.sip, .int .i64 p.dip, .int .i64 p.seg_kind, .int .i64 p.seg_sport, .int .i64 p.seg_dport, .int .i64 p.seg_seq, .int .i64 p.seg_ack, .int .i64 p.seg_flags, .int .i64 p.seg_win, .string p.seg_body] 41)) := by go_grown
  have bl0 : w.heap.size < ((w.alloc (.cells #[.int .i64 r.prio, .int .i64 r.kind, .int .i64 r.sip, .int .i64 r.sbits, .int .i64 r.fport, .int .i64 r.lport, .int .i64 r.vlan, .int .i64 r.action, .int .i64 r.queue] 58)).alloc (.cells #[.int .i64 p.dmac, .int .i64 p.smac, .int .i64 p.vlan, .int .i64 p.tos, .int .i64 p.id, .int .i64 p.ttl, .int .i64 p.sip, .int .i64 p.dip, .int .i64 p.seg_kind, .int .i64 p.seg_sport, .int .i64 p.seg_dport, .int .i64 p.seg_seq, .int .i64 p.seg_ack, .int .i64 p.seg_flags, .int .i64 p.seg_win, .string p.seg_body] 41)).heap.size := by go_size
  have hk0 : Blk ((w.alloc (.cells #[.int .i64 r.prio, .int .i64 r.kind, .int .i64 r.sip, .int .i64 r.sbits, .int .i64 r.fport, .int .i64 r.lport, .int .i64 r.vlan, .int .i64 r.action, .int .i64 r.queue] 58)).alloc (.cells #[.int .i64 p.dmac, .int .i64 p.smac, .int .i64 p.vlan, .int .i64 p.tos, .int .i64 p.id, .int .i64 p.ttl, .int .i64 p.sip, .int .i64 p.dip, .int .i64 p.seg_kind, .int .i64 p.seg_sport, .int .i64 p.seg_dport, .int .i64 p.seg_seq, .int .i64 p.seg_ack, .int .i64 p.seg_flags, .int .i64 p.seg_win, .string p.seg_body] 41)) (w.heap.size) 58 [.int .i64 r.prio, .int .i64 r.kind, .int .i64 r.sip, .int .i64 r.sbits, .int .i64 r.fport, .int .i64 r.lport, .int .i64 r.vlan, .int .i64 r.action, .int .i64 r.queue] := by simpa using (Blk.new w 58 [.int .i64 r.prio, .int .i64 r.kind, .int .i64 r.sip, .int .i64 r.sbits, .int .i64 r.fport, .int .i64 r.lport, .int .i64 r.vlan, .int .i64 r.action, .int .i64 r.queue]).alloc (.cells #[.int .i64 p.dmac, .int .i64 p.smac, .int .i64 p.vlan, .int .i64 p.tos, .int .i64 p.id, .int .i64 p.ttl, .int .i64 p.sip, .int .i64 p.dip, .int .i64 p.seg_kind, .int .i64 p.seg_sport, .int .i64 p.seg_dport, .int .i64 p.seg_seq, .int .i64 p.seg_ack, .int .i64 p.seg_flags, .int .i64 p.seg_win, .string p.seg_body] 41)
  have bl1 : w.heap.size + 1 < ((w.alloc (.cells #[.int .i64 r.prio, .int .i64 r.kind, .int .i64 r.sip, .int .i64 r.sbits, .int .i64 r.fport, .int .i64 r.lport, .int .i64 r.vlan, .int .i64 r.action, .int .i64 r.queue] 58)).alloc (.cells #[.int .i64 p.dmac, .int .i64 p.smac, .int .i64 p.vlan, .int .i64 p.tos, .int .i64 p.id, .int .i64 p.ttl, .int .i64 p.sip, .int .i64 p.dip, .int .i64 p.seg_kind, .int .i64 p.seg_sport, .int .i64 p.seg_dport, .int .i64 p.seg_seq, .int .i64 p.seg_ack, .int .i64 p.seg_flags, .int .i64 p.seg_win, .string p.seg_body] 41)).heap.size := by go_size
  have hk1 : Blk ((w.alloc (.cells #[.int .i64 r.prio, .int .i64 r.kind, .int .i64 r.sip, .int .i64 r.sbits, .int .i64 r.fport, .int .i64 r.lport, .int .i64 r.vlan, .int .i64 r.action, .int .i64 r.queue] 58)).alloc (.cells #[.int .i64 p.dmac, .int .i64 p.smac, .int .i64 p.vlan, .int .i64 p.tos, .int .i64 p.id, .int .i64 p.ttl, .int .i64 p.sip, .int .i64 p.dip, .int .i64 p.seg_kind, .int .i64 p.seg_sport, .int .i64 p.seg_dport, .int .i64 p.seg_seq, .int .i64 p.seg_ack, .int .i64 p.seg_flags, .int .i64 p.seg_win, .string p.seg_body] 41)) (w.heap.size + 1) 41 [.int .i64 p.dmac, .int .i64 p.smac, .int .i64 p.vlan, .int .i64 p.tos, .int .i64 p.id, .int .i64 p.ttl, .int .i64 p.sip, .int .i64 p.dip, .int .i64 p.seg_kind, .int .i64 p.seg_sport, .int .i64 p.seg_dport, .int .i64 p.seg_seq, .int .i64 p.seg_ack, .int .i64 p.seg_flags, .int .i64 p.seg_win, .string p.seg_body] := by simpa using Blk.new (w.alloc (.cells #[.int .i64 r.prio, .int .i64 r.kind, .int .i64 r.sip, .int .i64 r.sbits, .int .i64 r.fport, .int .i64 r.lport, .int .i64 r.vlan, .int .i64 r.action, .int .i64 r.queue] 58)) 41 [.int .i64 p.dmac, .int .i64 p.smac, .int .i64 p.vlan, .int .i64 p.tos, .int .i64 p.id, .int .i64 p.ttl, .int .i64 p.sip, .int .i64 p.dip, .int .i64 p.seg_kind, .int .i64 p.seg_sport, .int .i64 p.seg_dport, .int .i64 p.seg_seq, .int .i64 p.seg_ack, .int .i64 p.seg_flags, .int .i64 p.seg_win, .string p.seg_body]
  have p0 := k0.size
  generalize hW0 : ((w.alloc (.cells #[.int .i64 r.prio, .int .i64 r.kind, .int .i64 r.sip, .int .i64 r.sbits, .int .i64 r.fport, .int .i64 r.lport, .int .i64 r.vlan, .int .i64 r.action, .int .i64 r.queue] 58)).alloc (.cells #[.int .i64 p.dmac, .int .i64 p.smac, .int .i64 p.vlan, .int .i64 p.tos, .int .i64 p.id, .int .i64 p.ttl, .int .i64 p.sip, .int .i64 p.dip, .int .i64 p.seg_kind, .int .i64 p.seg_sport, .int .i64 p.seg_dport, .int .i64 p.seg_seq, .int .i64 p.seg_ack, .int .i64 p.seg_flags, .int .i64 p.seg_win, .string p.seg_body] 41)) = w0 at *
  clear hW0
  refine (hR _).mono ?_
  rintro e w1 ⟨rfl, hb⟩
  have k1 : Below w.heap.size w w1 := ext_step k0 (by omega) hb
  have p1 := hb.size
  replace hk0 := hk0.ext hb
  replace hk1 := hk1.ext hb
  have bl0 := Nat.lt_of_lt_of_le bl0 hb.size
  have bl1 := Nat.lt_of_lt_of_le bl1 hb.size
  clear hb
  have bx1_0 := hk1.at_ 0 _ rfl
  have bx1_1 := hk1.at_ 1 _ rfl
  have bx1_2 := hk1.at_ 2 _ rfl
  have bx1_3 := hk1.at_ 3 _ rfl
  have bx1_4 := hk1.at_ 4 _ rfl
  have bx1_5 := hk1.at_ 5 _ rfl
  have bx1_6 := hk1.at_ 6 _ rfl
  have bx1_7 := hk1.at_ 7 _ rfl
  have bx1_8 := hk1.at_ 8 _ rfl
  have bx1_9 := hk1.at_ 9 _ rfl
  have bx1_10 := hk1.at_ 10 _ rfl
  have bx1_11 := hk1.at_ 11 _ rfl
  have bx1_12 := hk1.at_ 12 _ rfl
  have bx1_13 := hk1.at_ 13 _ rfl
  have bx1_14 := hk1.at_ 14 _ rfl
  have bx1_15 := hk1.at_ 15 _ rfl
  go_wp2_with fail
  refine (hS _).mono ?_
  rintro e w2 ⟨rfl, hb⟩
  have k2 : Below w.heap.size w w2 := ext_step k1 (by omega) hb
  have p2 := hb.size
  replace hk0 := hk0.ext hb
  replace hk1 := hk1.ext hb
  clear bx1_0 bx1_1 bx1_2 bx1_3 bx1_4 bx1_5 bx1_6 bx1_7 bx1_8 bx1_9 bx1_10 bx1_11 bx1_12 bx1_13 bx1_14 bx1_15
  have bl0 := Nat.lt_of_lt_of_le bl0 hb.size
  have bl1 := Nat.lt_of_lt_of_le bl1 hb.size
  clear hb
  go_wp2
  go_ret
  exact ⟨rfl, k2⟩
theorem implRuleMatches_c (r : Rule) (p : Packet) (w : World) (hz : p.seg_body.size ≤ 1048576) :
    Calls Try.prog 48 #[.agg #[.int .i64 r.prio, .int .i64 r.kind, .int .i64 r.sip, .int .i64 r.sbits, .int .i64 r.fport, .int .i64 r.lport, .int .i64 r.vlan, .int .i64 r.action, .int .i64 r.queue], .agg #[.int .i64 p.dmac, .int .i64 p.smac, .int .i64 p.vlan, .int .i64 p.tos, .int .i64 p.id, .int .i64 p.ttl, .int .i64 p.sip, .int .i64 p.dip, .int .i64 p.seg_kind, .int .i64 p.seg_sport, .int .i64 p.seg_dport, .int .i64 p.seg_seq, .int .i64 p.seg_ack, .int .i64 p.seg_flags, .int .i64 p.seg_win, .string p.seg_body]] w fun e w' => e = .returned (.bool (matB r p)) ∧ Below w.heap.size w w' := by
  have hR := fun u : World => implRuleOk_c r u
  have hS := fun u : World => implSuperOk_c p u hz
  cases h0 : ruleB r
  · simp only [h0] at hR
    rw [show matB r p = false by (try simp only [beq_iff_eq, beq_eq_false_iff_ne, ne_eq, decide_eq_true_eq, decide_eq_false_iff_not] at *); simp [matB, hitR, *]]
    exact implRM_r (b := true) r p w hR
  · obtain ⟨_, _, _, _, hb0, hb1, _⟩ := ruleB_t h0
    simp only [h0] at hR
    cases h1 : superB p
    · simp only [h1] at hS
      rw [show matB r p = false by (try simp only [beq_iff_eq, beq_eq_false_iff_ne, ne_eq, decide_eq_true_eq, decide_eq_false_iff_not] at *); simp [matB, hitR, *]]
      exact implRM_s (b := true) r p w hR hS
    · simp only [h1] at hS
      cases bk0 : (r.kind == 0)
      · cases bk1 : (r.kind == p.seg_kind)
        · rw [show matB r p = false by (try simp only [beq_iff_eq, beq_eq_false_iff_ne, ne_eq, decide_eq_true_eq, decide_eq_false_iff_not] at *); simp [matB, hitR, *]]
          exact implRM_k (b := true) r p w hR hS bk0 bk1
        · have hP := fun u : World => samePrefix_c r.sip p.sip r.sbits u hb0 hb1
          cases sh : decide (r.sip / 2 ^ (32 - r.sbits).toNat = p.sip / 2 ^ (32 - r.sbits).toNat)
          · rw [sh] at hP
            rw [show matB r p = false by (try simp only [beq_iff_eq, beq_eq_false_iff_ne, ne_eq, decide_eq_true_eq, decide_eq_false_iff_not] at *); simp [matB, hitR, *]]
            exact implRM_bp (b := true) r p w hR hS hP bk0 bk1
          · rw [sh] at hP
            cases di : inB p.seg_dport r.fport r.lport
            · rw [show matB r p = false by (try simp only [beq_iff_eq, beq_eq_false_iff_ne, ne_eq, decide_eq_true_eq, decide_eq_false_iff_not] at *); simp [matB, hitR, *]]
              exact implRM_bd (b := true) r p w hR hS hP bk0 bk1 di
            · cases bv2 : (r.vlan == (-2))
              · cases bv3 : (r.vlan == p.vlan)
                · rw [show matB r p = false by (try simp only [beq_iff_eq, beq_eq_false_iff_ne, ne_eq, decide_eq_true_eq, decide_eq_false_iff_not] at *); simp [matB, hitR, *]]
                  exact implRM_bvn (b := true) r p w hR hS hP bk0 bk1 di bv2 bv3
                · rw [show matB r p = true by (try simp only [beq_iff_eq, beq_eq_false_iff_ne, ne_eq, decide_eq_true_eq, decide_eq_false_iff_not] at *); simp [matB, hitR, *]]
                  exact implRM_bv3 (b := true) r p w hR hS hP bk0 bk1 di bv2 bv3
              · rw [show matB r p = true by (try simp only [beq_iff_eq, beq_eq_false_iff_ne, ne_eq, decide_eq_true_eq, decide_eq_false_iff_not] at *); simp [matB, hitR, *]]
                exact implRM_bv2 (b := true) r p w hR hS hP bk0 bk1 di bv2
      · have hP := fun u : World => samePrefix_c r.sip p.sip r.sbits u hb0 hb1
        cases sh : decide (r.sip / 2 ^ (32 - r.sbits).toNat = p.sip / 2 ^ (32 - r.sbits).toNat)
        · rw [sh] at hP
          rw [show matB r p = false by (try simp only [beq_iff_eq, beq_eq_false_iff_ne, ne_eq, decide_eq_true_eq, decide_eq_false_iff_not] at *); simp [matB, hitR, *]]
          exact implRM_ap (b := true) r p w hR hS hP bk0
        · rw [sh] at hP
          cases di : inB p.seg_dport r.fport r.lport
          · rw [show matB r p = false by (try simp only [beq_iff_eq, beq_eq_false_iff_ne, ne_eq, decide_eq_true_eq, decide_eq_false_iff_not] at *); simp [matB, hitR, *]]
            exact implRM_ad (b := true) r p w hR hS hP bk0 di
          · cases bv2 : (r.vlan == (-2))
            · cases bv3 : (r.vlan == p.vlan)
              · rw [show matB r p = false by (try simp only [beq_iff_eq, beq_eq_false_iff_ne, ne_eq, decide_eq_true_eq, decide_eq_false_iff_not] at *); simp [matB, hitR, *]]
                exact implRM_avn (b := true) r p w hR hS hP bk0 di bv2 bv3
              · rw [show matB r p = true by (try simp only [beq_iff_eq, beq_eq_false_iff_ne, ne_eq, decide_eq_true_eq, decide_eq_false_iff_not] at *); simp [matB, hitR, *]]
                exact implRM_av3 (b := true) r p w hR hS hP bk0 di bv2 bv3
            · rw [show matB r p = true by (try simp only [beq_iff_eq, beq_eq_false_iff_ne, ne_eq, decide_eq_true_eq, decide_eq_false_iff_not] at *); simp [matB, hitR, *]]
              exact implRM_av2 (b := true) r p w hR hS hP bk0 di bv2
end Go.Proofs.Ytkfekgmdjemkbaa
