/- The walk of laws.FnExactSteerPacket. -/
import Derived.Test.YtifbfmafogmemaaStJ
import Derived.Test.YtifbfmafogmemaaStK
import Derived.Test.YtifbfmafogmemaaConvPkt
import Derived.Test.YtifbfmafogmemaaConvSt2
namespace Go.Proofs.Ytifbfmafogmemaa
set_option linter.unusedSimpArgs false
set_option linter.unusedVariables false
open Go.RowKit Go.ChangeShapes Go.WideShapes
set_option maxRecDepth 100000 in
set_option maxHeartbeats 4000000 in
theorem steerL_n (Ar : Option Addr) (cr : Nat) (rs : List Rule) (As : Option Addr) (cs : Nat) (l : List Slot) (key : ByteArray) (At : Option Addr) (ct : Nat) (tb : List Int) (q : Int) (p : Packet) (w : World) (hk : key.size ≤ maxLen) (hm : p.seg_body.size ≤ maxLen) (hz1 : ∀ u, Calls Try.prog 21 #[.agg #[.slice Ar rs.length cr, .slice As l.length cs, .string key, .slice At tb.length ct], .int .i64 1048576] u fun e w' => e = .returned (.int .i64 (-1)) ∧ Below u.heap.size u w') :
    Calls Try.prog 6 #[.agg #[.slice Ar rs.length cr, .slice As l.length cs, .string key, .slice At tb.length ct], .int .i64 q, .agg #[.int .i64 p.dmac, .int .i64 p.smac, .int .i64 p.vlan, .int .i64 p.tos, .int .i64 p.id, .int .i64 p.ttl, .int .i64 p.sip, .int .i64 p.dip, .int .i64 p.seg_kind, .int .i64 p.seg_sport, .int .i64 p.seg_dport, .int .i64 p.seg_seq, .int .i64 p.seg_ack, .int .i64 p.seg_flags, .int .i64 p.seg_win, .string p.seg_body]] w fun e w' => e = .returned (.bool true) ∧ Below w.heap.size w w' := by
  go_enter Try.func6, Try.ntmps6
  go_wp2_with fail
  have k0 : Below w.heap.size w ((w.alloc (.cells #[.slice Ar rs.length cr, .slice As l.length cs, .string key, .slice At tb.length ct] 49)).alloc (.cells #[.int .i64 p.dmac, .int .i64 p.smac, .int .i64 p.vlan, .int .i64 p.tos, .int .i64 p.id, .int .i64 p.ttl, .int .i64 p.sip, .int .i64 p.dip, .int .i64 p.seg_kind, .int .i64 p.seg_sport, .int .i64 p.seg_dport, .int .i64 p.seg_seq, .int .i64 p.seg_ack, .int .i64 p.seg_flags, .int .i64 p.seg_win, .string p.seg_body] 25)) := by go_grown
  have bx0_0 : ((w.alloc (.cells #[.slice Ar rs.length cr, .slice As l.length cs, .string key, .slice At tb.length ct] 49)).alloc (.cells #[.int .i64 p.dmac, .int .i64 p.smac, .int .i64 p.vlan, .int .i64 p.tos, .int .i64 p.id, .int .i64 p.ttl, .int .i64 p.sip, .int .i64 p.dip, .int .i64 p.seg_kind, .int .i64 p.seg_sport, .int .i64 p.seg_dport, .int .i64 p.seg_seq, .int .i64 p.seg_ack, .int .i64 p.seg_flags, .int .i64 p.seg_win, .string p.seg_body] 25)).cell? ⟨w.heap.size, 0, none⟩ = some (.slice Ar rs.length cr) := by simp [go_sem]
  have bx0_1 : ((w.alloc (.cells #[.slice Ar rs.length cr, .slice As l.length cs, .string key, .slice At tb.length ct] 49)).alloc (.cells #[.int .i64 p.dmac, .int .i64 p.smac, .int .i64 p.vlan, .int .i64 p.tos, .int .i64 p.id, .int .i64 p.ttl, .int .i64 p.sip, .int .i64 p.dip, .int .i64 p.seg_kind, .int .i64 p.seg_sport, .int .i64 p.seg_dport, .int .i64 p.seg_seq, .int .i64 p.seg_ack, .int .i64 p.seg_flags, .int .i64 p.seg_win, .string p.seg_body] 25)).cell? ⟨w.heap.size, 1, none⟩ = some (.slice As l.length cs) := by simp [go_sem]
  have bx0_2 : ((w.alloc (.cells #[.slice Ar rs.length cr, .slice As l.length cs, .string key, .slice At tb.length ct] 49)).alloc (.cells #[.int .i64 p.dmac, .int .i64 p.smac, .int .i64 p.vlan, .int .i64 p.tos, .int .i64 p.id, .int .i64 p.ttl, .int .i64 p.sip, .int .i64 p.dip, .int .i64 p.seg_kind, .int .i64 p.seg_sport, .int .i64 p.seg_dport, .int .i64 p.seg_seq, .int .i64 p.seg_ack, .int .i64 p.seg_flags, .int .i64 p.seg_win, .string p.seg_body] 25)).cell? ⟨w.heap.size, 2, none⟩ = some (.string key) := by simp [go_sem]
  have bx0_3 : ((w.alloc (.cells #[.slice Ar rs.length cr, .slice As l.length cs, .string key, .slice At tb.length ct] 49)).alloc (.cells #[.int .i64 p.dmac, .int .i64 p.smac, .int .i64 p.vlan, .int .i64 p.tos, .int .i64 p.id, .int .i64 p.ttl, .int .i64 p.sip, .int .i64 p.dip, .int .i64 p.seg_kind, .int .i64 p.seg_sport, .int .i64 p.seg_dport, .int .i64 p.seg_seq, .int .i64 p.seg_ack, .int .i64 p.seg_flags, .int .i64 p.seg_win, .string p.seg_body] 25)).cell? ⟨w.heap.size, 3, none⟩ = some (.slice At tb.length ct) := by simp [go_sem]
  have bl0 : w.heap.size < ((w.alloc (.cells #[.slice Ar rs.length cr, .slice As l.length cs, .string key, .slice At tb.length ct] 49)).alloc (.cells #[.int .i64 p.dmac, .int .i64 p.smac, .int .i64 p.vlan, .int .i64 p.tos, .int .i64 p.id, .int .i64 p.ttl, .int .i64 p.sip, .int .i64 p.dip, .int .i64 p.seg_kind, .int .i64 p.seg_sport, .int .i64 p.seg_dport, .int .i64 p.seg_seq, .int .i64 p.seg_ack, .int .i64 p.seg_flags, .int .i64 p.seg_win, .string p.seg_body] 25)).heap.size := by go_size
  have bx1_0 : ((w.alloc (.cells #[.slice Ar rs.length cr, .slice As l.length cs, .string key, .slice At tb.length ct] 49)).alloc (.cells #[.int .i64 p.dmac, .int .i64 p.smac, .int .i64 p.vlan, .int .i64 p.tos, .int .i64 p.id, .int .i64 p.ttl, .int .i64 p.sip, .int .i64 p.dip, .int .i64 p.seg_kind, .int .i64 p.seg_sport, .int .i64 p.seg_dport, .int .i64 p.seg_seq, .int .i64 p.seg_ack, .int .i64 p.seg_flags, .int .i64 p.seg_win, .string p.seg_body] 25)).cell? ⟨w.heap.size + 1, 0, none⟩ = some (.int .i64 p.dmac) := by simp [go_sem]
  have bx1_1 : ((w.alloc (.cells #[.slice Ar rs.length cr, .slice As l.length cs, .string key, .slice At tb.length ct] 49)).alloc (.cells #[.int .i64 p.dmac, .int .i64 p.smac, .int .i64 p.vlan, .int .i64 p.tos, .int .i64 p.id, .int .i64 p.ttl, .int .i64 p.sip, .int .i64 p.dip, .int .i64 p.seg_kind, .int .i64 p.seg_sport, .int .i64 p.seg_dport, .int .i64 p.seg_seq, .int .i64 p.seg_ack, .int .i64 p.seg_flags, .int .i64 p.seg_win, .string p.seg_body] 25)).cell? ⟨w.heap.size + 1, 1, none⟩ = some (.int .i64 p.smac) := by simp [go_sem]
  have bx1_2 : ((w.alloc (.cells #[.slice Ar rs.length cr, .slice As l.length cs, .string key, .slice At tb.length ct] 49)).alloc (.cells #[.int .i64 p.dmac, .int .i64 p.smac, .int .i64 p.vlan, .int .i64 p.tos, .int .i64 p.id, .int .i64 p.ttl, .int .i64 p.sip, .int .i64 p.dip, .int .i64 p.seg_kind, .int .i64 p.seg_sport, .int .i64 p.seg_dport, .int .i64 p.seg_seq, .int .i64 p.seg_ack, .int .i64 p.seg_flags, .int .i64 p.seg_win, .string p.seg_body] 25)).cell? ⟨w.heap.size + 1, 2, none⟩ = some (.int .i64 p.vlan) := by simp [go_sem]
  have bx1_3 : ((w.alloc (.cells #[.slice Ar rs.length cr, .slice As l.length cs, .string key, .slice At tb.length ct] 49)).alloc (.cells #[.int .i64 p.dmac, .int .i64 p.smac, .int .i64 p.vlan, .int .i64 p.tos, .int .i64 p.id, .int .i64 p.ttl, .int .i64 p.sip, .int .i64 p.dip, .int .i64 p.seg_kind, .int .i64 p.seg_sport, .int .i64 p.seg_dport, .int .i64 p.seg_seq, .int .i64 p.seg_ack, .int .i64 p.seg_flags, .int .i64 p.seg_win, .string p.seg_body] 25)).cell? ⟨w.heap.size + 1, 3, none⟩ = some (.int .i64 p.tos) := by simp [go_sem]
  have bx1_4 : ((w.alloc (.cells #[.slice Ar rs.length cr, .slice As l.length cs, .string key, .slice At tb.length ct] 49)).alloc (.cells #[.int .i64 p.dmac, .int .i64 p.smac, .int .i64 p.vlan, .int .i64 p.tos, .int .i64 p.id, .int .i64 p.ttl, .int .i64 p.sip, .int .i64 p.dip, .int .i64 p.seg_kind, .int .i64 p.seg_sport, .int .i64 p.seg_dport, .int .i64 p.seg_seq, .int .i64 p.seg_ack, .int .i64 p.seg_flags, .int .i64 p.seg_win, .string p.seg_body] 25)).cell? ⟨w.heap.size + 1, 4, none⟩ = some (.int .i64 p.id) := by simp [go_sem]
  have bx1_5 : ((w.alloc (.cells #[.slice Ar rs.length cr, .slice As l.length cs, .string key, .slice At tb.length ct] 49)).alloc (.cells #[.int .i64 p.dmac, .int .i64 p.smac, .int .i64 p.vlan, .int .i64 p.tos, .int .i64 p.id, .int .i64 p.ttl, .int .i64 p.sip, .int .i64 p.dip, .int .i64 p.seg_kind, .int .i64 p.seg_sport, .int .i64 p.seg_dport, .int .i64 p.seg_seq, .int .i64 p.seg_ack, .int .i64 p.seg_flags, .int .i64 p.seg_win, .string p.seg_body] 25)).cell? ⟨w.heap.size + 1, 5, none⟩ = some (.int .i64 p.ttl) := by simp [go_sem]
  have bx1_6 : ((w.alloc (.cells #[.slice Ar rs.length cr, .slice As l.length cs, .string key, .slice At tb.length ct] 49)).alloc (.cells #[.int .i64 p.dmac, .int .i64 p.smac, .int .i64 p.vlan, .int .i64 p.tos, .int .i64 p.id, .int .i64 p.ttl, .int .i64 p.sip, .int .i64 p.dip, .int .i64 p.seg_kind, .int .i64 p.seg_sport, .int .i64 p.seg_dport, .int .i64 p.seg_seq, .int .i64 p.seg_ack, .int .i64 p.seg_flags, .int .i64 p.seg_win, .string p.seg_body] 25)).cell? ⟨w.heap.size + 1, 6, none⟩ = some (.int .i64 p.sip) := by simp [go_sem]
  have bx1_7 : ((w.alloc (.cells #[.slice Ar rs.length cr, .slice As l.length cs, .string key, .slice At tb.length ct] 49)).alloc (.cells #[.int .i64 p.dmac, .int .i64 p.smac, .int .i64 p.vlan, .int .i64 p.tos, .int .i64 p.id, .int .i64 p.ttl, .int .i64 p.sip, .int .i64 p.dip, .int .i64 p.seg_kind, .int .i64 p.seg_sport, .int .i64 p.seg_dport, .int .i64 p.seg_seq, .int .i64 p.seg_ack, .int .i64 p.seg_flags, .int .i64 p.seg_win, .string p.seg_body] 25)).cell? ⟨w.heap.size + 1, 7, none⟩ = some (.int .i64 p.dip) := by simp [go_sem]
  have bx1_8 : ((w.alloc (.cells #[.slice Ar rs.length cr, .slice As l.length cs, .string key, .slice At tb.length ct] 49)).alloc (.cells #[.int .i64 p.dmac, .int .i64 p.smac, .int .i64 p.vlan, .int .i64 p.tos, .int .i64 p.id, .int .i64 p.ttl, .int .i64 p.sip, .int .i64 p.dip, .int .i64 p.seg_kind, .int .i64 p.seg_sport, .int .i64 p.seg_dport, .int .i64 p.seg_seq, .int .i64 p.seg_ack, .int .i64 p.seg_flags, .int .i64 p.seg_win, .string p.seg_body] 25)).cell? ⟨w.heap.size + 1, 8, none⟩ = some (.int .i64 p.seg_kind) := by simp [go_sem]
  have bx1_9 : ((w.alloc (.cells #[.slice Ar rs.length cr, .slice As l.length cs, .string key, .slice At tb.length ct] 49)).alloc (.cells #[.int .i64 p.dmac, .int .i64 p.smac, .int .i64 p.vlan, .int .i64 p.tos, .int .i64 p.id, .int .i64 p.ttl, .int .i64 p.sip, .int .i64 p.dip, .int .i64 p.seg_kind, .int .i64 p.seg_sport, .int .i64 p.seg_dport, .int .i64 p.seg_seq, .int .i64 p.seg_ack, .int .i64 p.seg_flags, .int .i64 p.seg_win, .string p.seg_body] 25)).cell? ⟨w.heap.size + 1, 9, none⟩ = some (.int .i64 p.seg_sport) := by simp [go_sem]
  have bx1_10 : ((w.alloc (.cells #[.slice Ar rs.length cr, .slice As l.length cs, .string key, .slice At tb.length ct] 49)).alloc (.cells #[.int .i64 p.dmac, .int .i64 p.smac, .int .i64 p.vlan, .int .i64 p.tos, .int .i64 p.id, .int .i64 p.ttl, .int .i64 p.sip, .int .i64 p.dip, .int .i64 p.seg_kind, .int .i64 p.seg_sport, .int .i64 p.seg_dport, .int .i64 p.seg_seq, .int .i64 p.seg_ack, .int .i64 p.seg_flags, .int .i64 p.seg_win, .string p.seg_body] 25)).cell? ⟨w.heap.size + 1, 10, none⟩ = some (.int .i64 p.seg_dport) := by simp [go_sem]
  have bx1_11 : ((w.alloc (.cells #[.slice Ar rs.length cr, .slice As l.length cs, .string key, .slice At tb.length ct] 49)).alloc (.cells #[.int .i64 p.dmac, .int .i64 p.smac, .int .i64 p.vlan, .int .i64 p.tos, .int .i64 p.id, .int .i64 p.ttl, .int .i64 p.sip, .int .i64 p.dip, .int .i64 p.seg_kind, .int .i64 p.seg_sport, .int .i64 p.seg_dport, .int .i64 p.seg_seq, .int .i64 p.seg_ack, .int .i64 p.seg_flags, .int .i64 p.seg_win, .string p.seg_body] 25)).cell? ⟨w.heap.size + 1, 11, none⟩ = some (.int .i64 p.seg_seq) := by simp [go_sem]
  have bx1_12 : ((w.alloc (.cells #[.slice Ar rs.length cr, .slice As l.length cs, .string key, .slice At tb.length ct] 49)).alloc (.cells #[.int .i64 p.dmac, .int .i64 p.smac, .int .i64 p.vlan, .int .i64 p.tos, .int .i64 p.id, .int .i64 p.ttl, .int .i64 p.sip, .int .i64 p.dip, .int .i64 p.seg_kind, .int .i64 p.seg_sport, .int .i64 p.seg_dport, .int .i64 p.seg_seq, .int .i64 p.seg_ack, .int .i64 p.seg_flags, .int .i64 p.seg_win, .string p.seg_body] 25)).cell? ⟨w.heap.size + 1, 12, none⟩ = some (.int .i64 p.seg_ack) := by simp [go_sem]
  have bx1_13 : ((w.alloc (.cells #[.slice Ar rs.length cr, .slice As l.length cs, .string key, .slice At tb.length ct] 49)).alloc (.cells #[.int .i64 p.dmac, .int .i64 p.smac, .int .i64 p.vlan, .int .i64 p.tos, .int .i64 p.id, .int .i64 p.ttl, .int .i64 p.sip, .int .i64 p.dip, .int .i64 p.seg_kind, .int .i64 p.seg_sport, .int .i64 p.seg_dport, .int .i64 p.seg_seq, .int .i64 p.seg_ack, .int .i64 p.seg_flags, .int .i64 p.seg_win, .string p.seg_body] 25)).cell? ⟨w.heap.size + 1, 13, none⟩ = some (.int .i64 p.seg_flags) := by simp [go_sem]
  have bx1_14 : ((w.alloc (.cells #[.slice Ar rs.length cr, .slice As l.length cs, .string key, .slice At tb.length ct] 49)).alloc (.cells #[.int .i64 p.dmac, .int .i64 p.smac, .int .i64 p.vlan, .int .i64 p.tos, .int .i64 p.id, .int .i64 p.ttl, .int .i64 p.sip, .int .i64 p.dip, .int .i64 p.seg_kind, .int .i64 p.seg_sport, .int .i64 p.seg_dport, .int .i64 p.seg_seq, .int .i64 p.seg_ack, .int .i64 p.seg_flags, .int .i64 p.seg_win, .string p.seg_body] 25)).cell? ⟨w.heap.size + 1, 14, none⟩ = some (.int .i64 p.seg_win) := by simp [go_sem]
  have bx1_15 : ((w.alloc (.cells #[.slice Ar rs.length cr, .slice As l.length cs, .string key, .slice At tb.length ct] 49)).alloc (.cells #[.int .i64 p.dmac, .int .i64 p.smac, .int .i64 p.vlan, .int .i64 p.tos, .int .i64 p.id, .int .i64 p.ttl, .int .i64 p.sip, .int .i64 p.dip, .int .i64 p.seg_kind, .int .i64 p.seg_sport, .int .i64 p.seg_dport, .int .i64 p.seg_seq, .int .i64 p.seg_ack, .int .i64 p.seg_flags, .int .i64 p.seg_win, .string p.seg_body] 25)).cell? ⟨w.heap.size + 1, 15, none⟩ = some (.string p.seg_body) := by simp [go_sem]
  have bl1 : w.heap.size + 1 < ((w.alloc (.cells #[.slice Ar rs.length cr, .slice As l.length cs, .string key, .slice At tb.length ct] 49)).alloc (.cells #[.int .i64 p.dmac, .int .i64 p.smac, .int .i64 p.vlan, .int .i64 p.tos, .int .i64 p.id, .int .i64 p.ttl, .int .i64 p.sip, .int .i64 p.dip, .int .i64 p.seg_kind, .int .i64 p.seg_sport, .int .i64 p.seg_dport, .int .i64 p.seg_seq, .int .i64 p.seg_ack, .int .i64 p.seg_flags, .int .i64 p.seg_win, .string p.seg_body] 25)).heap.size := by go_size
  have p0 := k0.size
  generalize hW0 : ((w.alloc (.cells #[.slice Ar rs.length cr, .slice As l.length cs, .string key, .slice At tb.length ct] 49)).alloc (.cells #[.int .i64 p.dmac, .int .i64 p.smac, .int .i64 p.vlan, .int .i64 p.tos, .int .i64 p.id, .int .i64 p.ttl, .int .i64 p.sip, .int .i64 p.dip, .int .i64 p.seg_kind, .int .i64 p.seg_sport, .int .i64 p.seg_dport, .int .i64 p.seg_seq, .int .i64 p.seg_ack, .int .i64 p.seg_flags, .int .i64 p.seg_win, .string p.seg_body] 25)) = w0 at *
  clear hW0
  refine (hz1 _).mono ?_
  rintro e w1 ⟨rfl, hb⟩
  have k1 : Below w.heap.size w w1 := ext_step k0 (by omega) hb
  have p1 := hb.size
  replace bx0_0 := ccell hb _ _ _ bx0_0
  replace bx0_1 := ccell hb _ _ _ bx0_1
  replace bx0_2 := ccell hb _ _ _ bx0_2
  replace bx0_3 := ccell hb _ _ _ bx0_3
  replace bx1_0 := ccell hb _ _ _ bx1_0
  replace bx1_1 := ccell hb _ _ _ bx1_1
  replace bx1_2 := ccell hb _ _ _ bx1_2
  replace bx1_3 := ccell hb _ _ _ bx1_3
  replace bx1_4 := ccell hb _ _ _ bx1_4
  replace bx1_5 := ccell hb _ _ _ bx1_5
  replace bx1_6 := ccell hb _ _ _ bx1_6
  replace bx1_7 := ccell hb _ _ _ bx1_7
  replace bx1_8 := ccell hb _ _ _ bx1_8
  replace bx1_9 := ccell hb _ _ _ bx1_9
  replace bx1_10 := ccell hb _ _ _ bx1_10
  replace bx1_11 := ccell hb _ _ _ bx1_11
  replace bx1_12 := ccell hb _ _ _ bx1_12
  replace bx1_13 := ccell hb _ _ _ bx1_13
  replace bx1_14 := ccell hb _ _ _ bx1_14
  replace bx1_15 := ccell hb _ _ _ bx1_15
  have bl0 := Nat.lt_of_lt_of_le bl0 hb.size
  have bl1 := Nat.lt_of_lt_of_le bl1 hb.size
  clear hb
  go_wp2
  go_ret
  exact ⟨rfl, k1⟩
set_option maxRecDepth 100000 in
set_option maxHeartbeats 4000000 in
theorem steerL_m (Ar : Option Addr) (cr : Nat) (rs : List Rule) (As : Option Addr) (cs : Nat) (l : List Slot) (key : ByteArray) (At : Option Addr) (ct : Nat) (tb : List Int) (q : Int) (p : Packet) (w : World) (hk : key.size ≤ maxLen) (hm : p.seg_body.size ≤ maxLen) (lf : Int) (hl0 : ¬ lf < 0) (hz1 : ∀ u, Calls Try.prog 21 #[.agg #[.slice Ar rs.length cr, .slice As l.length cs, .string key, .slice At tb.length ct], .int .i64 1048576] u fun e w' => e = .returned (.int .i64 lf) ∧ Below u.heap.size u w') (hz2 : ∀ u, Calls Try.prog 11 #[.agg #[.int .i64 p.dmac, .int .i64 p.smac, .int .i64 p.vlan, .int .i64 p.tos, .int .i64 p.id, .int .i64 p.ttl, .int .i64 p.sip, .int .i64 p.dip, .int .i64 p.seg_kind, .int .i64 p.seg_sport, .int .i64 p.seg_dport, .int .i64 p.seg_seq, .int .i64 p.seg_ack, .int .i64 p.seg_flags, .int .i64 p.seg_win, .string p.seg_body], .int .i64 lf] u fun e w' => e = .returned (.int .i64 (-1)) ∧ Below u.heap.size u w') :
    Calls Try.prog 6 #[.agg #[.slice Ar rs.length cr, .slice As l.length cs, .string key, .slice At tb.length ct], .int .i64 q, .agg #[.int .i64 p.dmac, .int .i64 p.smac, .int .i64 p.vlan, .int .i64 p.tos, .int .i64 p.id, .int .i64 p.ttl, .int .i64 p.sip, .int .i64 p.dip, .int .i64 p.seg_kind, .int .i64 p.seg_sport, .int .i64 p.seg_dport, .int .i64 p.seg_seq, .int .i64 p.seg_ack, .int .i64 p.seg_flags, .int .i64 p.seg_win, .string p.seg_body]] w fun e w' => e = .returned (.bool true) ∧ Below w.heap.size w w' := by
  go_enter Try.func6, Try.ntmps6
  go_wp2_with fail
  have k0 : Below w.heap.size w ((w.alloc (.cells #[.slice Ar rs.length cr, .slice As l.length cs, .string key, .slice At tb.length ct] 49)).alloc (.cells #[.int .i64 p.dmac, .int .i64 p.smac, .int .i64 p.vlan, .int .i64 p.tos, .int .i64 p.id, .int .i64 p.ttl, .int .i64 p.sip, .int .i64 p.dip, .int .i64 p.seg_kind, .int .i64 p.seg_sport, .int .i64 p.seg_dport, .int .i64 p.seg_seq, .int .i64 p.seg_ack, .int .i64 p.seg_flags, .int .i64 p.seg_win, .string p.seg_body] 25)) := by go_grown
  have bx0_0 : ((w.alloc (.cells #[.slice Ar rs.length cr, .slice As l.length cs, .string key, .slice At tb.length ct] 49)).alloc (.cells #[.int .i64 p.dmac, .int .i64 p.smac, .int .i64 p.vlan, .int .i64 p.tos, .int .i64 p.id, .int .i64 p.ttl, .int .i64 p.sip, .int .i64 p.dip, .int .i64 p.seg_kind, .int .i64 p.seg_sport, .int .i64 p.seg_dport, .int .i64 p.seg_seq, .int .i64 p.seg_ack, .int .i64 p.seg_flags, .int .i64 p.seg_win, .string p.seg_body] 25)).cell? ⟨w.heap.size, 0, none⟩ = some (.slice Ar rs.length cr) := by simp [go_sem]
  have bx0_1 : ((w.alloc (.cells #[.slice Ar rs.length cr, .slice As l.length cs, .string key, .slice At tb.length ct] 49)).alloc (.cells #[.int .i64 p.dmac, .int .i64 p.smac, .int .i64 p.vlan, .int .i64 p.tos, .int .i64 p.id, .int .i64 p.ttl, .int .i64 p.sip, .int .i64 p.dip, .int .i64 p.seg_kind, .int .i64 p.seg_sport, .int .i64 p.seg_dport, .int .i64 p.seg_seq, .int .i64 p.seg_ack, .int .i64 p.seg_flags, .int .i64 p.seg_win, .string p.seg_body] 25)).cell? ⟨w.heap.size, 1, none⟩ = some (.slice As l.length cs) := by simp [go_sem]
  have bx0_2 : ((w.alloc (.cells #[.slice Ar rs.length cr, .slice As l.length cs, .string key, .slice At tb.length ct] 49)).alloc (.cells #[.int .i64 p.dmac, .int .i64 p.smac, .int .i64 p.vlan, .int .i64 p.tos, .int .i64 p.id, .int .i64 p.ttl, .int .i64 p.sip, .int .i64 p.dip, .int .i64 p.seg_kind, .int .i64 p.seg_sport, .int .i64 p.seg_dport, .int .i64 p.seg_seq, .int .i64 p.seg_ack, .int .i64 p.seg_flags, .int .i64 p.seg_win, .string p.seg_body] 25)).cell? ⟨w.heap.size, 2, none⟩ = some (.string key) := by simp [go_sem]
  have bx0_3 : ((w.alloc (.cells #[.slice Ar rs.length cr, .slice As l.length cs, .string key, .slice At tb.length ct] 49)).alloc (.cells #[.int .i64 p.dmac, .int .i64 p.smac, .int .i64 p.vlan, .int .i64 p.tos, .int .i64 p.id, .int .i64 p.ttl, .int .i64 p.sip, .int .i64 p.dip, .int .i64 p.seg_kind, .int .i64 p.seg_sport, .int .i64 p.seg_dport, .int .i64 p.seg_seq, .int .i64 p.seg_ack, .int .i64 p.seg_flags, .int .i64 p.seg_win, .string p.seg_body] 25)).cell? ⟨w.heap.size, 3, none⟩ = some (.slice At tb.length ct) := by simp [go_sem]
  have bl0 : w.heap.size < ((w.alloc (.cells #[.slice Ar rs.length cr, .slice As l.length cs, .string key, .slice At tb.length ct] 49)).alloc (.cells #[.int .i64 p.dmac, .int .i64 p.smac, .int .i64 p.vlan, .int .i64 p.tos, .int .i64 p.id, .int .i64 p.ttl, .int .i64 p.sip, .int .i64 p.dip, .int .i64 p.seg_kind, .int .i64 p.seg_sport, .int .i64 p.seg_dport, .int .i64 p.seg_seq, .int .i64 p.seg_ack, .int .i64 p.seg_flags, .int .i64 p.seg_win, .string p.seg_body] 25)).heap.size := by go_size
  have bx1_0 : ((w.alloc (.cells #[.slice Ar rs.length cr, .slice As l.length cs, .string key, .slice At tb.length ct] 49)).alloc (.cells #[.int .i64 p.dmac, .int .i64 p.smac, .int .i64 p.vlan, .int .i64 p.tos, .int .i64 p.id, .int .i64 p.ttl, .int .i64 p.sip, .int .i64 p.dip, .int .i64 p.seg_kind, .int .i64 p.seg_sport, .int .i64 p.seg_dport, .int .i64 p.seg_seq, .int .i64 p.seg_ack, .int .i64 p.seg_flags, .int .i64 p.seg_win, .string p.seg_body] 25)).cell? ⟨w.heap.size + 1, 0, none⟩ = some (.int .i64 p.dmac) := by simp [go_sem]
  have bx1_1 : ((w.alloc (.cells #[.slice Ar rs.length cr, .slice As l.length cs, .string key, .slice At tb.length ct] 49)).alloc (.cells #[.int .i64 p.dmac, .int .i64 p.smac, .int .i64 p.vlan, .int .i64 p.tos, .int .i64 p.id, .int .i64 p.ttl, .int .i64 p.sip, .int .i64 p.dip, .int .i64 p.seg_kind, .int .i64 p.seg_sport, .int .i64 p.seg_dport, .int .i64 p.seg_seq, .int .i64 p.seg_ack, .int .i64 p.seg_flags, .int .i64 p.seg_win, .string p.seg_body] 25)).cell? ⟨w.heap.size + 1, 1, none⟩ = some (.int .i64 p.smac) := by simp [go_sem]
  have bx1_2 : ((w.alloc (.cells #[.slice Ar rs.length cr, .slice As l.length cs, .string key, .slice At tb.length ct] 49)).alloc (.cells #[.int .i64 p.dmac, .int .i64 p.smac, .int .i64 p.vlan, .int .i64 p.tos, .int .i64 p.id, .int .i64 p.ttl, .int .i64 p.sip, .int .i64 p.dip, .int .i64 p.seg_kind, .int .i64 p.seg_sport, .int .i64 p.seg_dport, .int .i64 p.seg_seq, .int .i64 p.seg_ack, .int .i64 p.seg_flags, .int .i64 p.seg_win, .string p.seg_body] 25)).cell? ⟨w.heap.size + 1, 2, none⟩ = some (.int .i64 p.vlan) := by simp [go_sem]
  have bx1_3 : ((w.alloc (.cells #[.slice Ar rs.length cr, .slice As l.length cs, .string key, .slice At tb.length ct] 49)).alloc (.cells #[.int .i64 p.dmac, .int .i64 p.smac, .int .i64 p.vlan, .int .i64 p.tos, .int .i64 p.id, .int .i64 p.ttl, .int .i64 p.sip, .int .i64 p.dip, .int .i64 p.seg_kind, .int .i64 p.seg_sport, .int .i64 p.seg_dport, .int .i64 p.seg_seq, .int .i64 p.seg_ack, .int .i64 p.seg_flags, .int .i64 p.seg_win, .string p.seg_body] 25)).cell? ⟨w.heap.size + 1, 3, none⟩ = some (.int .i64 p.tos) := by simp [go_sem]
  have bx1_4 : ((w.alloc (.cells #[.slice Ar rs.length cr, .slice As l.length cs, .string key, .slice At tb.length ct] 49)).alloc (.cells #[.int .i64 p.dmac, .int .i64 p.smac, .int .i64 p.vlan, .int .i64 p.tos, .int .i64 p.id, .int .i64 p.ttl, .int .i64 p.sip, .int .i64 p.dip, .int .i64 p.seg_kind, .int .i64 p.seg_sport, .int .i64 p.seg_dport, .int .i64 p.seg_seq, .int .i64 p.seg_ack, .int .i64 p.seg_flags, .int .i64 p.seg_win, .string p.seg_body] 25)).cell? ⟨w.heap.size + 1, 4, none⟩ = some (.int .i64 p.id) := by simp [go_sem]
  have bx1_5 : ((w.alloc (.cells #[.slice Ar rs.length cr, .slice As l.length cs, .string key, .slice At tb.length ct] 49)).alloc (.cells #[.int .i64 p.dmac, .int .i64 p.smac, .int .i64 p.vlan, .int .i64 p.tos, .int .i64 p.id, .int .i64 p.ttl, .int .i64 p.sip, .int .i64 p.dip, .int .i64 p.seg_kind, .int .i64 p.seg_sport, .int .i64 p.seg_dport, .int .i64 p.seg_seq, .int .i64 p.seg_ack, .int .i64 p.seg_flags, .int .i64 p.seg_win, .string p.seg_body] 25)).cell? ⟨w.heap.size + 1, 5, none⟩ = some (.int .i64 p.ttl) := by simp [go_sem]
  have bx1_6 : ((w.alloc (.cells #[.slice Ar rs.length cr, .slice As l.length cs, .string key, .slice At tb.length ct] 49)).alloc (.cells #[.int .i64 p.dmac, .int .i64 p.smac, .int .i64 p.vlan, .int .i64 p.tos, .int .i64 p.id, .int .i64 p.ttl, .int .i64 p.sip, .int .i64 p.dip, .int .i64 p.seg_kind, .int .i64 p.seg_sport, .int .i64 p.seg_dport, .int .i64 p.seg_seq, .int .i64 p.seg_ack, .int .i64 p.seg_flags, .int .i64 p.seg_win, .string p.seg_body] 25)).cell? ⟨w.heap.size + 1, 6, none⟩ = some (.int .i64 p.sip) := by simp [go_sem]
  have bx1_7 : ((w.alloc (.cells #[.slice Ar rs.length cr, .slice As l.length cs, .string key, .slice At tb.length ct] 49)).alloc (.cells #[.int .i64 p.dmac, .int .i64 p.smac, .int .i64 p.vlan, .int .i64 p.tos, .int .i64 p.id, .int .i64 p.ttl, .int .i64 p.sip, .int .i64 p.dip, .int .i64 p.seg_kind, .int .i64 p.seg_sport, .int .i64 p.seg_dport, .int .i64 p.seg_seq, .int .i64 p.seg_ack, .int .i64 p.seg_flags, .int .i64 p.seg_win, .string p.seg_body] 25)).cell? ⟨w.heap.size + 1, 7, none⟩ = some (.int .i64 p.dip) := by simp [go_sem]
  have bx1_8 : ((w.alloc (.cells #[.slice Ar rs.length cr, .slice As l.length cs, .string key, .slice At tb.length ct] 49)).alloc (.cells #[.int .i64 p.dmac, .int .i64 p.smac, .int .i64 p.vlan, .int .i64 p.tos, .int .i64 p.id, .int .i64 p.ttl, .int .i64 p.sip, .int .i64 p.dip, .int .i64 p.seg_kind, .int .i64 p.seg_sport, .int .i64 p.seg_dport, .int .i64 p.seg_seq, .int .i64 p.seg_ack, .int .i64 p.seg_flags, .int .i64 p.seg_win, .string p.seg_body] 25)).cell? ⟨w.heap.size + 1, 8, none⟩ = some (.int .i64 p.seg_kind) := by simp [go_sem]
  have bx1_9 : ((w.alloc (.cells #[.slice Ar rs.length cr, .slice As l.length cs, .string key, .slice At tb.length ct] 49)).alloc (.cells #[.int .i64 p.dmac, .int .i64 p.smac, .int .i64 p.vlan, .int .i64 p.tos, .int .i64 p.id, .int .i64 p.ttl, .int .i64 p.sip, .int .i64 p.dip, .int .i64 p.seg_kind, .int .i64 p.seg_sport, .int .i64 p.seg_dport, .int .i64 p.seg_seq, .int .i64 p.seg_ack, .int .i64 p.seg_flags, .int .i64 p.seg_win, .string p.seg_body] 25)).cell? ⟨w.heap.size + 1, 9, none⟩ = some (.int .i64 p.seg_sport) := by simp [go_sem]
  have bx1_10 : ((w.alloc (.cells #[.slice Ar rs.length cr, .slice As l.length cs, .string key, .slice At tb.length ct] 49)).alloc (.cells #[.int .i64 p.dmac, .int .i64 p.smac, .int .i64 p.vlan, .int .i64 p.tos, .int .i64 p.id, .int .i64 p.ttl, .int .i64 p.sip, .int .i64 p.dip, .int .i64 p.seg_kind, .int .i64 p.seg_sport, .int .i64 p.seg_dport, .int .i64 p.seg_seq, .int .i64 p.seg_ack, .int .i64 p.seg_flags, .int .i64 p.seg_win, .string p.seg_body] 25)).cell? ⟨w.heap.size + 1, 10, none⟩ = some (.int .i64 p.seg_dport) := by simp [go_sem]
  have bx1_11 : ((w.alloc (.cells #[.slice Ar rs.length cr, .slice As l.length cs, .string key, .slice At tb.length ct] 49)).alloc (.cells #[.int .i64 p.dmac, .int .i64 p.smac, .int .i64 p.vlan, .int .i64 p.tos, .int .i64 p.id, .int .i64 p.ttl, .int .i64 p.sip, .int .i64 p.dip, .int .i64 p.seg_kind, .int .i64 p.seg_sport, .int .i64 p.seg_dport, .int .i64 p.seg_seq, .int .i64 p.seg_ack, .int .i64 p.seg_flags, .int .i64 p.seg_win, .string p.seg_body] 25)).cell? ⟨w.heap.size + 1, 11, none⟩ = some (.int .i64 p.seg_seq) := by simp [go_sem]
  have bx1_12 : ((w.alloc (.cells #[.slice Ar rs.length cr, .slice As l.length cs, .string key, .slice At tb.length ct] 49)).alloc (.cells #[.int .i64 p.dmac, .int .i64 p.smac, .int .i64 p.vlan, .int .i64 p.tos, .int .i64 p.id, .int .i64 p.ttl, .int .i64 p.sip, .int .i64 p.dip, .int .i64 p.seg_kind, .int .i64 p.seg_sport, .int .i64 p.seg_dport, .int .i64 p.seg_seq, .int .i64 p.seg_ack, .int .i64 p.seg_flags, .int .i64 p.seg_win, .string p.seg_body] 25)).cell? ⟨w.heap.size + 1, 12, none⟩ = some (.int .i64 p.seg_ack) := by simp [go_sem]
  have bx1_13 : ((w.alloc (.cells #[.slice Ar rs.length cr, .slice As l.length cs, .string key, .slice At tb.length ct] 49)).alloc (.cells #[.int .i64 p.dmac, .int .i64 p.smac, .int .i64 p.vlan, .int .i64 p.tos, .int .i64 p.id, .int .i64 p.ttl, .int .i64 p.sip, .int .i64 p.dip, .int .i64 p.seg_kind, .int .i64 p.seg_sport, .int .i64 p.seg_dport, .int .i64 p.seg_seq, .int .i64 p.seg_ack, .int .i64 p.seg_flags, .int .i64 p.seg_win, .string p.seg_body] 25)).cell? ⟨w.heap.size + 1, 13, none⟩ = some (.int .i64 p.seg_flags) := by simp [go_sem]
  have bx1_14 : ((w.alloc (.cells #[.slice Ar rs.length cr, .slice As l.length cs, .string key, .slice At tb.length ct] 49)).alloc (.cells #[.int .i64 p.dmac, .int .i64 p.smac, .int .i64 p.vlan, .int .i64 p.tos, .int .i64 p.id, .int .i64 p.ttl, .int .i64 p.sip, .int .i64 p.dip, .int .i64 p.seg_kind, .int .i64 p.seg_sport, .int .i64 p.seg_dport, .int .i64 p.seg_seq, .int .i64 p.seg_ack, .int .i64 p.seg_flags, .int .i64 p.seg_win, .string p.seg_body] 25)).cell? ⟨w.heap.size + 1, 14, none⟩ = some (.int .i64 p.seg_win) := by simp [go_sem]
  have bx1_15 : ((w.alloc (.cells #[.slice Ar rs.length cr, .slice As l.length cs, .string key, .slice At tb.length ct] 49)).alloc (.cells #[.int .i64 p.dmac, .int .i64 p.smac, .int .i64 p.vlan, .int .i64 p.tos, .int .i64 p.id, .int .i64 p.ttl, .int .i64 p.sip, .int .i64 p.dip, .int .i64 p.seg_kind, .int .i64 p.seg_sport, .int .i64 p.seg_dport, .int .i64 p.seg_seq, .int .i64 p.seg_ack, .int .i64 p.seg_flags, .int .i64 p.seg_win, .string p.seg_body] 25)).cell? ⟨w.heap.size + 1, 15, none⟩ = some (.string p.seg_body) := by simp [go_sem]
  have bl1 : w.heap.size + 1 < ((w.alloc (.cells #[.slice Ar rs.length cr, .slice As l.length cs, .string key, .slice At tb.length ct] 49)).alloc (.cells #[.int .i64 p.dmac, .int .i64 p.smac, .int .i64 p.vlan, .int .i64 p.tos, .int .i64 p.id, .int .i64 p.ttl, .int .i64 p.sip, .int .i64 p.dip, .int .i64 p.seg_kind, .int .i64 p.seg_sport, .int .i64 p.seg_dport, .int .i64 p.seg_seq, .int .i64 p.seg_ack, .int .i64 p.seg_flags, .int .i64 p.seg_win, .string p.seg_body] 25)).heap.size := by go_size
  have p0 := k0.size
  generalize hW0 : ((w.alloc (.cells #[.slice Ar rs.length cr, .slice As l.length cs, .string key, .slice At tb.length ct] 49)).alloc (.cells #[.int .i64 p.dmac, .int .i64 p.smac, .int .i64 p.vlan, .int .i64 p.tos, .int .i64 p.id, .int .i64 p.ttl, .int .i64 p.sip, .int .i64 p.dip, .int .i64 p.seg_kind, .int .i64 p.seg_sport, .int .i64 p.seg_dport, .int .i64 p.seg_seq, .int .i64 p.seg_ack, .int .i64 p.seg_flags, .int .i64 p.seg_win, .string p.seg_body] 25)) = w0 at *
  clear hW0
  refine (hz1 _).mono ?_
  rintro e w1 ⟨rfl, hb⟩
  have k1 : Below w.heap.size w w1 := ext_step k0 (by omega) hb
  have p1 := hb.size
  replace bx0_0 := ccell hb _ _ _ bx0_0
  replace bx0_1 := ccell hb _ _ _ bx0_1
  replace bx0_2 := ccell hb _ _ _ bx0_2
  replace bx0_3 := ccell hb _ _ _ bx0_3
  replace bx1_0 := ccell hb _ _ _ bx1_0
  replace bx1_1 := ccell hb _ _ _ bx1_1
  replace bx1_2 := ccell hb _ _ _ bx1_2
  replace bx1_3 := ccell hb _ _ _ bx1_3
  replace bx1_4 := ccell hb _ _ _ bx1_4
  replace bx1_5 := ccell hb _ _ _ bx1_5
  replace bx1_6 := ccell hb _ _ _ bx1_6
  replace bx1_7 := ccell hb _ _ _ bx1_7
  replace bx1_8 := ccell hb _ _ _ bx1_8
  replace bx1_9 := ccell hb _ _ _ bx1_9
  replace bx1_10 := ccell hb _ _ _ bx1_10
  replace bx1_11 := ccell hb _ _ _ bx1_11
  replace bx1_12 := ccell hb _ _ _ bx1_12
  replace bx1_13 := ccell hb _ _ _ bx1_13
  replace bx1_14 := ccell hb _ _ _ bx1_14
  replace bx1_15 := ccell hb _ _ _ bx1_15
  have bl0 := Nat.lt_of_lt_of_le bl0 hb.size
  have bl1 := Nat.lt_of_lt_of_le bl1 hb.size
  clear hb
  go_wp2_with fail
  refine (hz2 _).mono ?_
  rintro e w2 ⟨rfl, hb⟩
  have k2 : Below w.heap.size w w2 := ext_step k1 (by omega) hb
  have p2 := hb.size
  replace bx0_0 := ccell hb _ _ _ bx0_0
  replace bx0_1 := ccell hb _ _ _ bx0_1
  replace bx0_2 := ccell hb _ _ _ bx0_2
  replace bx0_3 := ccell hb _ _ _ bx0_3
  replace bx1_0 := ccell hb _ _ _ bx1_0
  replace bx1_1 := ccell hb _ _ _ bx1_1
  replace bx1_2 := ccell hb _ _ _ bx1_2
  replace bx1_3 := ccell hb _ _ _ bx1_3
  replace bx1_4 := ccell hb _ _ _ bx1_4
  replace bx1_5 := ccell hb _ _ _ bx1_5
  replace bx1_6 := ccell hb _ _ _ bx1_6
  replace bx1_7 := ccell hb _ _ _ bx1_7
  replace bx1_8 := ccell hb _ _ _ bx1_8
  replace bx1_9 := ccell hb _ _ _ bx1_9
  replace bx1_10 := ccell hb _ _ _ bx1_10
  replace bx1_11 := ccell hb _ _ _ bx1_11
  replace bx1_12 := ccell hb _ _ _ bx1_12
  replace bx1_13 := ccell hb _ _ _ bx1_13
  replace bx1_14 := ccell hb _ _ _ bx1_14
  replace bx1_15 := ccell hb _ _ _ bx1_15
  have bl0 := Nat.lt_of_lt_of_le bl0 hb.size
  have bl1 := Nat.lt_of_lt_of_le bl1 hb.size
  clear hb
  go_wp2
  go_ret
  exact ⟨rfl, k2⟩
set_option maxRecDepth 100000 in
set_option maxHeartbeats 8000000 in
theorem steerL_ok (Ar : Option Addr) (cr : Nat) (rs : List Rule) (As : Option Addr) (cs : Nat) (l : List Slot) (key : ByteArray) (At : Option Addr) (ct : Nat) (tb : List Int) (q : Int) (p : Packet) (w : World) (hk : key.size ≤ maxLen) (hm : p.seg_body.size ≤ maxLen) (lf lg : Int) (hl0 : ¬ lf < 0) (hg0 : ¬ lg < 0) (hz1 : ∀ u, Calls Try.prog 21 #[.agg #[.slice Ar rs.length cr, .slice As l.length cs, .string key, .slice At tb.length ct], .int .i64 1048576] u fun e w' => e = .returned (.int .i64 lf) ∧ Below u.heap.size u w') (hz2 : ∀ u, Calls Try.prog 11 #[.agg #[.int .i64 p.dmac, .int .i64 p.smac, .int .i64 p.vlan, .int .i64 p.tos, .int .i64 p.id, .int .i64 p.ttl, .int .i64 p.sip, .int .i64 p.dip, .int .i64 p.seg_kind, .int .i64 p.seg_sport, .int .i64 p.seg_dport, .int .i64 p.seg_seq, .int .i64 p.seg_ack, .int .i64 p.seg_flags, .int .i64 p.seg_win, .string p.seg_body], .int .i64 lf] u fun e w' => e = .returned (.int .i64 lg) ∧ Below u.heap.size u w')
    (hmr : rs.length ≤ 1048576) (hms : l.length ≤ 1048576) (hmt : tb.length ≤ 1048576) (hz : p.seg_body.size ≤ 1048576) (r_r : Reads w w.heap.size 9 Ar rs.length (rs.flatMap Rule.cells)) (r_s : Reads w w.heap.size 7 As l.length (l.flatMap Slot.cells)) (r_t : Reads w w.heap.size 1 At tb.length (tb.flatMap fun x : Int => [Value.int .i64 x])) :
    Calls Try.prog 6 #[.agg #[.slice Ar rs.length cr, .slice As l.length cs, .string key, .slice At tb.length ct], .int .i64 q, .agg #[.int .i64 p.dmac, .int .i64 p.smac, .int .i64 p.vlan, .int .i64 p.tos, .int .i64 p.id, .int .i64 p.ttl, .int .i64 p.sip, .int .i64 p.dip, .int .i64 p.seg_kind, .int .i64 p.seg_sport, .int .i64 p.seg_dport, .int .i64 p.seg_seq, .int .i64 p.seg_ack, .int .i64 p.seg_flags, .int .i64 p.seg_win, .string p.seg_body]] w fun e w' => e = .returned (.bool true) ∧ Below w.heap.size w w' := by
  have hto := fun (u : World) h1 h2 h3 => toSteering_c Ar rs.length cr rs As l.length cs l key At tb.length ct tb u rfl hmr h1 rfl hms h2 rfl hmt h3
  have hspec := fun (A1 : Option Addr) (c1 : Nat) (A2 : Option Addr) (c2 : Nat) (A3 : Option Addr) (c3 : Nat) (u : World) h1 h2 h3 => specSteerPacket_c A1 rs.length c1 rs A2 l.length c2 l key A3 tb.length c3 tb q u rfl hmr h1 rfl hms h2 rfl hmt h3 p hz
  have himpl := fun (A1 : Option Addr) (c1 : Nat) (A2 : Option Addr) (c2 : Nat) (A3 : Option Addr) (c3 : Nat) (u : World) h1 h2 h3 => implSteerPacket_c A1 rs.length c1 rs A2 l.length c2 l key A3 tb.length c3 tb q u rfl hmr h1 rfl hms h2 rfl hmt h3 p hz
  have heq := fun (A1 : Option Addr) (c1 : Nat) (A2 : Option Addr) (c2 : Nat) (A3 : Option Addr) (c3 : Nat) (B1 : Option Addr) (d1 : Nat) (B2 : Option Addr) (d2 : Nat) (B3 : Option Addr) (d3 : Nat) (u : World) h1 h2 h3 => eqSteering_c A1 rs.length c1 rs A2 l.length c2 l key A3 tb.length c3 tb B1 d1 B2 d2 B3 d3 u rfl hmr h1 rfl hms h2 rfl hmt h3
  obtain ⟨I, hI⟩ : ∃ I, steerI rs l key tb q p = I := ⟨_, rfl⟩
  simp only [hI] at hspec himpl
  clear hI
  go_enter Try.func6, Try.ntmps6
  go_wp2_with fail
  have k0 : Below w.heap.size w ((w.alloc (.cells #[.slice Ar rs.length cr, .slice As l.length cs, .string key, .slice At tb.length ct] 49)).alloc (.cells #[.int .i64 p.dmac, .int .i64 p.smac, .int .i64 p.vlan, .int .i64 p.tos, .int .i64 p.id, .int .i64 p.ttl, .int .i64 p.sip, .int .i64 p.dip, .int .i64 p.seg_kind, .int .i64 p.seg_sport, .int .i64 p.seg_dport, .int .i64 p.seg_seq, .int .i64 p.seg_ack, .int .i64 p.seg_flags, .int .i64 p.seg_win, .string p.seg_body] 25)) := by go_grown
  have bx0_0 : ((w.alloc (.cells #[.slice Ar rs.length cr, .slice As l.length cs, .string key, .slice At tb.length ct] 49)).alloc (.cells #[.int .i64 p.dmac, .int .i64 p.smac, .int .i64 p.vlan, .int .i64 p.tos, .int .i64 p.id, .int .i64 p.ttl, .int .i64 p.sip, .int .i64 p.dip, .int .i64 p.seg_kind, .int .i64 p.seg_sport, .int .i64 p.seg_dport, .int .i64 p.seg_seq, .int .i64 p.seg_ack, .int .i64 p.seg_flags, .int .i64 p.seg_win, .string p.seg_body] 25)).cell? ⟨w.heap.size, 0, none⟩ = some (.slice Ar rs.length cr) := by simp [go_sem]
  have bx0_1 : ((w.alloc (.cells #[.slice Ar rs.length cr, .slice As l.length cs, .string key, .slice At tb.length ct] 49)).alloc (.cells #[.int .i64 p.dmac, .int .i64 p.smac, .int .i64 p.vlan, .int .i64 p.tos, .int .i64 p.id, .int .i64 p.ttl, .int .i64 p.sip, .int .i64 p.dip, .int .i64 p.seg_kind, .int .i64 p.seg_sport, .int .i64 p.seg_dport, .int .i64 p.seg_seq, .int .i64 p.seg_ack, .int .i64 p.seg_flags, .int .i64 p.seg_win, .string p.seg_body] 25)).cell? ⟨w.heap.size, 1, none⟩ = some (.slice As l.length cs) := by simp [go_sem]
  have bx0_2 : ((w.alloc (.cells #[.slice Ar rs.length cr, .slice As l.length cs, .string key, .slice At tb.length ct] 49)).alloc (.cells #[.int .i64 p.dmac, .int .i64 p.smac, .int .i64 p.vlan, .int .i64 p.tos, .int .i64 p.id, .int .i64 p.ttl, .int .i64 p.sip, .int .i64 p.dip, .int .i64 p.seg_kind, .int .i64 p.seg_sport, .int .i64 p.seg_dport, .int .i64 p.seg_seq, .int .i64 p.seg_ack, .int .i64 p.seg_flags, .int .i64 p.seg_win, .string p.seg_body] 25)).cell? ⟨w.heap.size, 2, none⟩ = some (.string key) := by simp [go_sem]
  have bx0_3 : ((w.alloc (.cells #[.slice Ar rs.length cr, .slice As l.length cs, .string key, .slice At tb.length ct] 49)).alloc (.cells #[.int .i64 p.dmac, .int .i64 p.smac, .int .i64 p.vlan, .int .i64 p.tos, .int .i64 p.id, .int .i64 p.ttl, .int .i64 p.sip, .int .i64 p.dip, .int .i64 p.seg_kind, .int .i64 p.seg_sport, .int .i64 p.seg_dport, .int .i64 p.seg_seq, .int .i64 p.seg_ack, .int .i64 p.seg_flags, .int .i64 p.seg_win, .string p.seg_body] 25)).cell? ⟨w.heap.size, 3, none⟩ = some (.slice At tb.length ct) := by simp [go_sem]
  have bl0 : w.heap.size < ((w.alloc (.cells #[.slice Ar rs.length cr, .slice As l.length cs, .string key, .slice At tb.length ct] 49)).alloc (.cells #[.int .i64 p.dmac, .int .i64 p.smac, .int .i64 p.vlan, .int .i64 p.tos, .int .i64 p.id, .int .i64 p.ttl, .int .i64 p.sip, .int .i64 p.dip, .int .i64 p.seg_kind, .int .i64 p.seg_sport, .int .i64 p.seg_dport, .int .i64 p.seg_seq, .int .i64 p.seg_ack, .int .i64 p.seg_flags, .int .i64 p.seg_win, .string p.seg_body] 25)).heap.size := by go_size
  have bx1_0 : ((w.alloc (.cells #[.slice Ar rs.length cr, .slice As l.length cs, .string key, .slice At tb.length ct] 49)).alloc (.cells #[.int .i64 p.dmac, .int .i64 p.smac, .int .i64 p.vlan, .int .i64 p.tos, .int .i64 p.id, .int .i64 p.ttl, .int .i64 p.sip, .int .i64 p.dip, .int .i64 p.seg_kind, .int .i64 p.seg_sport, .int .i64 p.seg_dport, .int .i64 p.seg_seq, .int .i64 p.seg_ack, .int .i64 p.seg_flags, .int .i64 p.seg_win, .string p.seg_body] 25)).cell? ⟨w.heap.size + 1, 0, none⟩ = some (.int .i64 p.dmac) := by simp [go_sem]
  have bx1_1 : ((w.alloc (.cells #[.slice Ar rs.length cr, .slice As l.length cs, .string key, .slice At tb.length ct] 49)).alloc (.cells #[.int .i64 p.dmac, .int .i64 p.smac, .int .i64 p.vlan, .int .i64 p.tos, .int .i64 p.id, .int .i64 p.ttl, .int .i64 p.sip, .int .i64 p.dip, .int .i64 p.seg_kind, .int .i64 p.seg_sport, .int .i64 p.seg_dport, .int .i64 p.seg_seq, .int .i64 p.seg_ack, .int .i64 p.seg_flags, .int .i64 p.seg_win, .string p.seg_body] 25)).cell? ⟨w.heap.size + 1, 1, none⟩ = some (.int .i64 p.smac) := by simp [go_sem]
  have bx1_2 : ((w.alloc (.cells #[.slice Ar rs.length cr, .slice As l.length cs, .string key, .slice At tb.length ct] 49)).alloc (.cells #[.int .i64 p.dmac, .int .i64 p.smac, .int .i64 p.vlan, .int .i64 p.tos, .int .i64 p.id, .int .i64 p.ttl, .int .i64 p.sip, .int .i64 p.dip, .int .i64 p.seg_kind, .int .i64 p.seg_sport, .int .i64 p.seg_dport, .int .i64 p.seg_seq, .int .i64 p.seg_ack, .int .i64 p.seg_flags, .int .i64 p.seg_win, .string p.seg_body] 25)).cell? ⟨w.heap.size + 1, 2, none⟩ = some (.int .i64 p.vlan) := by simp [go_sem]
  have bx1_3 : ((w.alloc (.cells #[.slice Ar rs.length cr, .slice As l.length cs, .string key, .slice At tb.length ct] 49)).alloc (.cells #[.int .i64 p.dmac, .int .i64 p.smac, .int .i64 p.vlan, .int .i64 p.tos, .int .i64 p.id, .int .i64 p.ttl, .int .i64 p.sip, .int .i64 p.dip, .int .i64 p.seg_kind, .int .i64 p.seg_sport, .int .i64 p.seg_dport, .int .i64 p.seg_seq, .int .i64 p.seg_ack, .int .i64 p.seg_flags, .int .i64 p.seg_win, .string p.seg_body] 25)).cell? ⟨w.heap.size + 1, 3, none⟩ = some (.int .i64 p.tos) := by simp [go_sem]
  have bx1_4 : ((w.alloc (.cells #[.slice Ar rs.length cr, .slice As l.length cs, .string key, .slice At tb.length ct] 49)).alloc (.cells #[.int .i64 p.dmac, .int .i64 p.smac, .int .i64 p.vlan, .int .i64 p.tos, .int .i64 p.id, .int .i64 p.ttl, .int .i64 p.sip, .int .i64 p.dip, .int .i64 p.seg_kind, .int .i64 p.seg_sport, .int .i64 p.seg_dport, .int .i64 p.seg_seq, .int .i64 p.seg_ack, .int .i64 p.seg_flags, .int .i64 p.seg_win, .string p.seg_body] 25)).cell? ⟨w.heap.size + 1, 4, none⟩ = some (.int .i64 p.id) := by simp [go_sem]
  have bx1_5 : ((w.alloc (.cells #[.slice Ar rs.length cr, .slice As l.length cs, .string key, .slice At tb.length ct] 49)).alloc (.cells #[.int .i64 p.dmac, .int .i64 p.smac, .int .i64 p.vlan, .int .i64 p.tos, .int .i64 p.id, .int .i64 p.ttl, .int .i64 p.sip, .int .i64 p.dip, .int .i64 p.seg_kind, .int .i64 p.seg_sport, .int .i64 p.seg_dport, .int .i64 p.seg_seq, .int .i64 p.seg_ack, .int .i64 p.seg_flags, .int .i64 p.seg_win, .string p.seg_body] 25)).cell? ⟨w.heap.size + 1, 5, none⟩ = some (.int .i64 p.ttl) := by simp [go_sem]
  have bx1_6 : ((w.alloc (.cells #[.slice Ar rs.length cr, .slice As l.length cs, .string key, .slice At tb.length ct] 49)).alloc (.cells #[.int .i64 p.dmac, .int .i64 p.smac, .int .i64 p.vlan, .int .i64 p.tos, .int .i64 p.id, .int .i64 p.ttl, .int .i64 p.sip, .int .i64 p.dip, .int .i64 p.seg_kind, .int .i64 p.seg_sport, .int .i64 p.seg_dport, .int .i64 p.seg_seq, .int .i64 p.seg_ack, .int .i64 p.seg_flags, .int .i64 p.seg_win, .string p.seg_body] 25)).cell? ⟨w.heap.size + 1, 6, none⟩ = some (.int .i64 p.sip) := by simp [go_sem]
  have bx1_7 : ((w.alloc (.cells #[.slice Ar rs.length cr, .slice As l.length cs, .string key, .slice At tb.length ct] 49)).alloc (.cells #[.int .i64 p.dmac, .int .i64 p.smac, .int .i64 p.vlan, .int .i64 p.tos, .int .i64 p.id, .int .i64 p.ttl, .int .i64 p.sip, .int .i64 p.dip, .int .i64 p.seg_kind, .int .i64 p.seg_sport, .int .i64 p.seg_dport, .int .i64 p.seg_seq, .int .i64 p.seg_ack, .int .i64 p.seg_flags, .int .i64 p.seg_win, .string p.seg_body] 25)).cell? ⟨w.heap.size + 1, 7, none⟩ = some (.int .i64 p.dip) := by simp [go_sem]
  have bx1_8 : ((w.alloc (.cells #[.slice Ar rs.length cr, .slice As l.length cs, .string key, .slice At tb.length ct] 49)).alloc (.cells #[.int .i64 p.dmac, .int .i64 p.smac, .int .i64 p.vlan, .int .i64 p.tos, .int .i64 p.id, .int .i64 p.ttl, .int .i64 p.sip, .int .i64 p.dip, .int .i64 p.seg_kind, .int .i64 p.seg_sport, .int .i64 p.seg_dport, .int .i64 p.seg_seq, .int .i64 p.seg_ack, .int .i64 p.seg_flags, .int .i64 p.seg_win, .string p.seg_body] 25)).cell? ⟨w.heap.size + 1, 8, none⟩ = some (.int .i64 p.seg_kind) := by simp [go_sem]
  have bx1_9 : ((w.alloc (.cells #[.slice Ar rs.length cr, .slice As l.length cs, .string key, .slice At tb.length ct] 49)).alloc (.cells #[.int .i64 p.dmac, .int .i64 p.smac, .int .i64 p.vlan, .int .i64 p.tos, .int .i64 p.id, .int .i64 p.ttl, .int .i64 p.sip, .int .i64 p.dip, .int .i64 p.seg_kind, .int .i64 p.seg_sport, .int .i64 p.seg_dport, .int .i64 p.seg_seq, .int .i64 p.seg_ack, .int .i64 p.seg_flags, .int .i64 p.seg_win, .string p.seg_body] 25)).cell? ⟨w.heap.size + 1, 9, none⟩ = some (.int .i64 p.seg_sport) := by simp [go_sem]
  have bx1_10 : ((w.alloc (.cells #[.slice Ar rs.length cr, .slice As l.length cs, .string key, .slice At tb.length ct] 49)).alloc (.cells #[.int .i64 p.dmac, .int .i64 p.smac, .int .i64 p.vlan, .int .i64 p.tos, .int .i64 p.id, .int .i64 p.ttl, .int .i64 p.sip, .int .i64 p.dip, .int .i64 p.seg_kind, .int .i64 p.seg_sport, .int .i64 p.seg_dport, .int .i64 p.seg_seq, .int .i64 p.seg_ack, .int .i64 p.seg_flags, .int .i64 p.seg_win, .string p.seg_body] 25)).cell? ⟨w.heap.size + 1, 10, none⟩ = some (.int .i64 p.seg_dport) := by simp [go_sem]
  have bx1_11 : ((w.alloc (.cells #[.slice Ar rs.length cr, .slice As l.length cs, .string key, .slice At tb.length ct] 49)).alloc (.cells #[.int .i64 p.dmac, .int .i64 p.smac, .int .i64 p.vlan, .int .i64 p.tos, .int .i64 p.id, .int .i64 p.ttl, .int .i64 p.sip, .int .i64 p.dip, .int .i64 p.seg_kind, .int .i64 p.seg_sport, .int .i64 p.seg_dport, .int .i64 p.seg_seq, .int .i64 p.seg_ack, .int .i64 p.seg_flags, .int .i64 p.seg_win, .string p.seg_body] 25)).cell? ⟨w.heap.size + 1, 11, none⟩ = some (.int .i64 p.seg_seq) := by simp [go_sem]
  have bx1_12 : ((w.alloc (.cells #[.slice Ar rs.length cr, .slice As l.length cs, .string key, .slice At tb.length ct] 49)).alloc (.cells #[.int .i64 p.dmac, .int .i64 p.smac, .int .i64 p.vlan, .int .i64 p.tos, .int .i64 p.id, .int .i64 p.ttl, .int .i64 p.sip, .int .i64 p.dip, .int .i64 p.seg_kind, .int .i64 p.seg_sport, .int .i64 p.seg_dport, .int .i64 p.seg_seq, .int .i64 p.seg_ack, .int .i64 p.seg_flags, .int .i64 p.seg_win, .string p.seg_body] 25)).cell? ⟨w.heap.size + 1, 12, none⟩ = some (.int .i64 p.seg_ack) := by simp [go_sem]
  have bx1_13 : ((w.alloc (.cells #[.slice Ar rs.length cr, .slice As l.length cs, .string key, .slice At tb.length ct] 49)).alloc (.cells #[.int .i64 p.dmac, .int .i64 p.smac, .int .i64 p.vlan, .int .i64 p.tos, .int .i64 p.id, .int .i64 p.ttl, .int .i64 p.sip, .int .i64 p.dip, .int .i64 p.seg_kind, .int .i64 p.seg_sport, .int .i64 p.seg_dport, .int .i64 p.seg_seq, .int .i64 p.seg_ack, .int .i64 p.seg_flags, .int .i64 p.seg_win, .string p.seg_body] 25)).cell? ⟨w.heap.size + 1, 13, none⟩ = some (.int .i64 p.seg_flags) := by simp [go_sem]
  have bx1_14 : ((w.alloc (.cells #[.slice Ar rs.length cr, .slice As l.length cs, .string key, .slice At tb.length ct] 49)).alloc (.cells #[.int .i64 p.dmac, .int .i64 p.smac, .int .i64 p.vlan, .int .i64 p.tos, .int .i64 p.id, .int .i64 p.ttl, .int .i64 p.sip, .int .i64 p.dip, .int .i64 p.seg_kind, .int .i64 p.seg_sport, .int .i64 p.seg_dport, .int .i64 p.seg_seq, .int .i64 p.seg_ack, .int .i64 p.seg_flags, .int .i64 p.seg_win, .string p.seg_body] 25)).cell? ⟨w.heap.size + 1, 14, none⟩ = some (.int .i64 p.seg_win) := by simp [go_sem]
  have bx1_15 : ((w.alloc (.cells #[.slice Ar rs.length cr, .slice As l.length cs, .string key, .slice At tb.length ct] 49)).alloc (.cells #[.int .i64 p.dmac, .int .i64 p.smac, .int .i64 p.vlan, .int .i64 p.tos, .int .i64 p.id, .int .i64 p.ttl, .int .i64 p.sip, .int .i64 p.dip, .int .i64 p.seg_kind, .int .i64 p.seg_sport, .int .i64 p.seg_dport, .int .i64 p.seg_seq, .int .i64 p.seg_ack, .int .i64 p.seg_flags, .int .i64 p.seg_win, .string p.seg_body] 25)).cell? ⟨w.heap.size + 1, 15, none⟩ = some (.string p.seg_body) := by simp [go_sem]
  have bl1 : w.heap.size + 1 < ((w.alloc (.cells #[.slice Ar rs.length cr, .slice As l.length cs, .string key, .slice At tb.length ct] 49)).alloc (.cells #[.int .i64 p.dmac, .int .i64 p.smac, .int .i64 p.vlan, .int .i64 p.tos, .int .i64 p.id, .int .i64 p.ttl, .int .i64 p.sip, .int .i64 p.dip, .int .i64 p.seg_kind, .int .i64 p.seg_sport, .int .i64 p.seg_dport, .int .i64 p.seg_seq, .int .i64 p.seg_ack, .int .i64 p.seg_flags, .int .i64 p.seg_win, .string p.seg_body] 25)).heap.size := by go_size
  have r_r := r_r.below k0
  have r_s := r_s.below k0
  have r_t := r_t.below k0
  have p0 := k0.size
  generalize hW0 : ((w.alloc (.cells #[.slice Ar rs.length cr, .slice As l.length cs, .string key, .slice At tb.length ct] 49)).alloc (.cells #[.int .i64 p.dmac, .int .i64 p.smac, .int .i64 p.vlan, .int .i64 p.tos, .int .i64 p.id, .int .i64 p.ttl, .int .i64 p.sip, .int .i64 p.dip, .int .i64 p.seg_kind, .int .i64 p.seg_sport, .int .i64 p.seg_dport, .int .i64 p.seg_seq, .int .i64 p.seg_ack, .int .i64 p.seg_flags, .int .i64 p.seg_win, .string p.seg_body] 25)) = w0 at *
  clear hW0
  refine (hz1 _).mono ?_
  rintro e w1 ⟨rfl, hb⟩
  have k1 : Below w.heap.size w w1 := ext_step k0 (by omega) hb
  have p1 := hb.size
  replace bx0_0 := ccell hb _ _ _ bx0_0
  replace bx0_1 := ccell hb _ _ _ bx0_1
  replace bx0_2 := ccell hb _ _ _ bx0_2
  replace bx0_3 := ccell hb _ _ _ bx0_3
  replace bx1_0 := ccell hb _ _ _ bx1_0
  replace bx1_1 := ccell hb _ _ _ bx1_1
  replace bx1_2 := ccell hb _ _ _ bx1_2
  replace bx1_3 := ccell hb _ _ _ bx1_3
  replace bx1_4 := ccell hb _ _ _ bx1_4
  replace bx1_5 := ccell hb _ _ _ bx1_5
  replace bx1_6 := ccell hb _ _ _ bx1_6
  replace bx1_7 := ccell hb _ _ _ bx1_7
  replace bx1_8 := ccell hb _ _ _ bx1_8
  replace bx1_9 := ccell hb _ _ _ bx1_9
  replace bx1_10 := ccell hb _ _ _ bx1_10
  replace bx1_11 := ccell hb _ _ _ bx1_11
  replace bx1_12 := ccell hb _ _ _ bx1_12
  replace bx1_13 := ccell hb _ _ _ bx1_13
  replace bx1_14 := ccell hb _ _ _ bx1_14
  replace bx1_15 := ccell hb _ _ _ bx1_15
  have bl0 := Nat.lt_of_lt_of_le bl0 hb.size
  have bl1 := Nat.lt_of_lt_of_le bl1 hb.size
  replace r_r := r_r.below (hb.mono (by omega))
  replace r_s := r_s.below (hb.mono (by omega))
  replace r_t := r_t.below (hb.mono (by omega))
  clear hb
  go_wp2_with fail
  refine (hz2 _).mono ?_
  rintro e w2 ⟨rfl, hb⟩
  have k2 : Below w.heap.size w w2 := ext_step k1 (by omega) hb
  have p2 := hb.size
  replace bx0_0 := ccell hb _ _ _ bx0_0
  replace bx0_1 := ccell hb _ _ _ bx0_1
  replace bx0_2 := ccell hb _ _ _ bx0_2
  replace bx0_3 := ccell hb _ _ _ bx0_3
  replace bx1_0 := ccell hb _ _ _ bx1_0
  replace bx1_1 := ccell hb _ _ _ bx1_1
  replace bx1_2 := ccell hb _ _ _ bx1_2
  replace bx1_3 := ccell hb _ _ _ bx1_3
  replace bx1_4 := ccell hb _ _ _ bx1_4
  replace bx1_5 := ccell hb _ _ _ bx1_5
  replace bx1_6 := ccell hb _ _ _ bx1_6
  replace bx1_7 := ccell hb _ _ _ bx1_7
  replace bx1_8 := ccell hb _ _ _ bx1_8
  replace bx1_9 := ccell hb _ _ _ bx1_9
  replace bx1_10 := ccell hb _ _ _ bx1_10
  replace bx1_11 := ccell hb _ _ _ bx1_11
  replace bx1_12 := ccell hb _ _ _ bx1_12
  replace bx1_13 := ccell hb _ _ _ bx1_13
  replace bx1_14 := ccell hb _ _ _ bx1_14
  replace bx1_15 := ccell hb _ _ _ bx1_15
  have bl0 := Nat.lt_of_lt_of_le bl0 hb.size
  have bl1 := Nat.lt_of_lt_of_le bl1 hb.size
  replace r_r := r_r.below (hb.mono (by omega))
  replace r_s := r_s.below (hb.mono (by omega))
  replace r_t := r_t.below (hb.mono (by omega))
  clear hb
  go_wp2_with fail
  have hBB : w2.heap.size ≤ w2.heap.size := by omega
  refine wp_region_slotsS (w2.heap.size) [(21, fun _ v => v = .agg #[.slice Ar rs.length cr, .slice As l.length cs, .string key, .slice At tb.length ct]), (22, SteO w2.heap.size rs l key tb), (23, fun _ v => v = .int .i64 q), (24, fun _ v => v = .agg #[.int .i64 p.dmac, .int .i64 p.smac, .int .i64 p.vlan, .int .i64 p.tos, .int .i64 p.id, .int .i64 p.ttl, .int .i64 p.sip, .int .i64 p.dip, .int .i64 p.seg_kind, .int .i64 p.seg_sport, .int .i64 p.seg_dport, .int .i64 p.seg_seq, .int .i64 p.seg_ack, .int .i64 p.seg_flags, .int .i64 p.seg_win, .string p.seg_body]), (25, fun _ v => v = .agg #[.int .i64 p.dmac, .int .i64 p.smac, .int .i64 p.vlan, .int .i64 p.tos, .int .i64 p.id, .int .i64 p.ttl, .int .i64 p.sip, .int .i64 p.dip, .int .i64 p.seg_kind, .int .i64 p.seg_sport, .int .i64 p.seg_dport, .int .i64 p.seg_seq, .int .i64 p.seg_ack, .int .i64 p.seg_flags, .int .i64 p.seg_win, .string p.seg_body]), (26, fun _ v => v = .int .i64 I), (8, fun _ v => v = .int .i64 I)] [] (fun _ => True) (by kernel_rfl) hBB (by kernel_rfl) (by kernel_rfl) (by kernel_rfl) (by kernel_rfl) ?_ ?_ ?_ ?_ ?_ ?_ ?_
  · intro p hp
    simp only [List.mem_cons, List.not_mem_nil, or_false] at hp
    rcases hp with rfl | rfl | rfl | rfl | rfl | rfl | rfl
    all_goals (intro u u' v hb hv; first | exact hv | exact BoxP.keep hv hb | exact RowP.keep hv hb | exact SteO.keep hv hb)
  · intro s hs; cases hs
  · intro s hs; cases hs
  · exact trivial
  · intro u u' hb hj
    exact trivial
  · intro hGk hSk hJk
    refine allStep_cons (stepS_plain hGk hSk hBB hJk (by kernel_rfl) rfl ?_) ?_
    · intro a u hb hz hj hl hp K Q hK
      have e3 : a.tmps[3]?.getD undef = .pointer (some ⟨w.heap.size, 0, none⟩) := gd (hl 3 (by kernel_rfl))
      have bx0_0 := ccell hb _ _ _ bx0_0
      have bx0_1 := ccell hb _ _ _ bx0_1
      have bx0_2 := ccell hb _ _ _ bx0_2
      have bx0_3 := ccell hb _ _ _ bx0_3
      go_simp
      exact hK _ _ (Below.refl _ _) (by intro d hd; cases hd; exact rfl)
    refine allStep_cons (stepS_plain hGk hSk hBB hJk (by kernel_rfl) rfl ?_) ?_
    · intro a u hb hz hj hl hp K Q hK
      have e21 : a.tmps[21]?.getD undef = .agg #[.slice Ar rs.length cr, .slice As l.length cs, .string key, .slice At tb.length ct] := gd (hl 21 (by kernel_rfl))
      go_simp
      refine (hto _ ((r_r.below (hb.mono (by omega))).more (by omega)) ((r_s.below (hb.mono (by omega))).more (by omega)) ((r_t.below (hb.mono (by omega))).more (by omega))).mono ?_
      rintro e u1 ⟨v, rfl, hS, hb1⟩
      exact hK _ _ hb1 (by intro d hd; cases hd; exact (hS.base (by omega)))
    refine allStep_cons (stepS_plain hGk hSk hBB hJk (by kernel_rfl) rfl ?_) ?_
    · intro a u hb hz hj hl hp K Q hK
      have e1 : a.tmps[1]?.getD undef = .int .i64 q := gd (hl 1 (by kernel_rfl))
      go_simp
      exact hK _ _ (Below.refl _ _) (by intro d hd; cases hd; exact rfl)
    refine allStep_cons (stepS_plain hGk hSk hBB hJk (by kernel_rfl) rfl ?_) ?_
    · intro a u hb hz hj hl hp K Q hK
      have e5 : a.tmps[5]?.getD undef = .pointer (some ⟨w.heap.size + 1, 0, none⟩) := gd (hl 5 (by kernel_rfl))
      have bx1_0 := ccell hb _ _ _ bx1_0
      have bx1_1 := ccell hb _ _ _ bx1_1
      have bx1_2 := ccell hb _ _ _ bx1_2
      have bx1_3 := ccell hb _ _ _ bx1_3
      have bx1_4 := ccell hb _ _ _ bx1_4
      have bx1_5 := ccell hb _ _ _ bx1_5
      have bx1_6 := ccell hb _ _ _ bx1_6
      have bx1_7 := ccell hb _ _ _ bx1_7
      have bx1_8 := ccell hb _ _ _ bx1_8
      have bx1_9 := ccell hb _ _ _ bx1_9
      have bx1_10 := ccell hb _ _ _ bx1_10
      have bx1_11 := ccell hb _ _ _ bx1_11
      have bx1_12 := ccell hb _ _ _ bx1_12
      have bx1_13 := ccell hb _ _ _ bx1_13
      have bx1_14 := ccell hb _ _ _ bx1_14
      have bx1_15 := ccell hb _ _ _ bx1_15
      go_simp
      exact hK _ _ (Below.refl _ _) (by intro d hd; cases hd; exact rfl)
    refine allStep_cons (stepS_plain hGk hSk hBB hJk (by kernel_rfl) rfl ?_) ?_
    · intro a u hb hz hj hl hp K Q hK
      have e24 : a.tmps[24]?.getD undef = .agg #[.int .i64 p.dmac, .int .i64 p.smac, .int .i64 p.vlan, .int .i64 p.tos, .int .i64 p.id, .int .i64 p.ttl, .int .i64 p.sip, .int .i64 p.dip, .int .i64 p.seg_kind, .int .i64 p.seg_sport, .int .i64 p.seg_dport, .int .i64 p.seg_seq, .int .i64 p.seg_ack, .int .i64 p.seg_flags, .int .i64 p.seg_win, .string p.seg_body] := gd (hl 24 (by kernel_rfl))
      go_simp
      refine (toPacket_c p _).mono ?_
      rintro e u1 ⟨rfl, hb1⟩
      exact hK _ _ hb1 (by intro d hd; cases hd; exact rfl)
    refine allStep_cons (stepS_plain hGk hSk hBB hJk (by kernel_rfl) rfl ?_) ?_
    · intro a u hb hz hj hl hp K Q hK
      obtain ⟨Ap1, cp1, Aq1, cq1, At1, ct1, ex22, o1_1, o2_1, o3_1⟩ : (SteO w2.heap.size rs l key tb) u (a.tmps.getD 22 undef) := hl 22 (by kernel_rfl)
      have e22 := gd ex22
      have e23 : a.tmps[23]?.getD undef = .int .i64 q := gd (hl 23 (by kernel_rfl))
      have e25 : a.tmps[25]?.getD undef = .agg #[.int .i64 p.dmac, .int .i64 p.smac, .int .i64 p.vlan, .int .i64 p.tos, .int .i64 p.id, .int .i64 p.ttl, .int .i64 p.sip, .int .i64 p.dip, .int .i64 p.seg_kind, .int .i64 p.seg_sport, .int .i64 p.seg_dport, .int .i64 p.seg_seq, .int .i64 p.seg_ack, .int .i64 p.seg_flags, .int .i64 p.seg_win, .string p.seg_body] := gd (hl 25 (by kernel_rfl))
      go_simp
      refine (hspec _ _ _ _ _ _ _ (Reads.of_own o1_1) (Reads.of_own o2_1) (Reads.of_own o3_1)).mono ?_
      rintro e u1 ⟨rfl, hb1⟩
      exact hK _ _ hb1 (by intro d hd; cases hd; exact rfl)
    refine allStep_cons (stepS_plain hGk hSk hBB hJk (by kernel_rfl) rfl ?_) ?_
    · intro a u hb hz hj hl hp K Q hK
      have e26 : a.tmps[26]?.getD undef = .int .i64 I := gd (hl 26 (by kernel_rfl))
      go_simp
      exact hK _ _ (Below.refl _ _) (by intro d hd; cases hd; exact rfl)
    exact allStep_nil
  intro xT w3 hb hz hj hL hSt
  have fx8 : xT 8 = .int .i64 I := hL _ (List.mem_of_getElem? (i := 6) rfl)
  simp only [List.map, putAll, fx8]
  have k3 : Below w.heap.size w w3 := ext_step k2 (by omega) hb
  have p3 := hb.size
  replace bx0_0 := ccell hb _ _ _ bx0_0
  replace bx0_1 := ccell hb _ _ _ bx0_1
  replace bx0_2 := ccell hb _ _ _ bx0_2
  replace bx0_3 := ccell hb _ _ _ bx0_3
  replace bx1_0 := ccell hb _ _ _ bx1_0
  replace bx1_1 := ccell hb _ _ _ bx1_1
  replace bx1_2 := ccell hb _ _ _ bx1_2
  replace bx1_3 := ccell hb _ _ _ bx1_3
  replace bx1_4 := ccell hb _ _ _ bx1_4
  replace bx1_5 := ccell hb _ _ _ bx1_5
  replace bx1_6 := ccell hb _ _ _ bx1_6
  replace bx1_7 := ccell hb _ _ _ bx1_7
  replace bx1_8 := ccell hb _ _ _ bx1_8
  replace bx1_9 := ccell hb _ _ _ bx1_9
  replace bx1_10 := ccell hb _ _ _ bx1_10
  replace bx1_11 := ccell hb _ _ _ bx1_11
  replace bx1_12 := ccell hb _ _ _ bx1_12
  replace bx1_13 := ccell hb _ _ _ bx1_13
  replace bx1_14 := ccell hb _ _ _ bx1_14
  replace bx1_15 := ccell hb _ _ _ bx1_15
  have bl0 := Nat.lt_of_lt_of_le bl0 hb.size
  have bl1 := Nat.lt_of_lt_of_le bl1 hb.size
  replace r_r := r_r.below (hb.mono (by omega))
  replace r_s := r_s.below (hb.mono (by omega))
  replace r_t := r_t.below (hb.mono (by omega))
  clear hL hSt hb hz fx8
  go_wp2_with fail
  refine (hto _ (r_r.more (by omega)) (r_s.more (by omega)) (r_t.more (by omega))).mono ?_
  rintro e w4 ⟨v, rfl, ⟨A_x, c_x, A_y, c_y, A_z, c_z, rfl, o_x, o_y, o_z⟩, hb⟩
  have k4 : Below w.heap.size w w4 := ext_step k3 (by omega) hb
  have p4 := hb.size
  replace bx0_0 := ccell hb _ _ _ bx0_0
  replace bx0_1 := ccell hb _ _ _ bx0_1
  replace bx0_2 := ccell hb _ _ _ bx0_2
  replace bx0_3 := ccell hb _ _ _ bx0_3
  replace bx1_0 := ccell hb _ _ _ bx1_0
  replace bx1_1 := ccell hb _ _ _ bx1_1
  replace bx1_2 := ccell hb _ _ _ bx1_2
  replace bx1_3 := ccell hb _ _ _ bx1_3
  replace bx1_4 := ccell hb _ _ _ bx1_4
  replace bx1_5 := ccell hb _ _ _ bx1_5
  replace bx1_6 := ccell hb _ _ _ bx1_6
  replace bx1_7 := ccell hb _ _ _ bx1_7
  replace bx1_8 := ccell hb _ _ _ bx1_8
  replace bx1_9 := ccell hb _ _ _ bx1_9
  replace bx1_10 := ccell hb _ _ _ bx1_10
  replace bx1_11 := ccell hb _ _ _ bx1_11
  replace bx1_12 := ccell hb _ _ _ bx1_12
  replace bx1_13 := ccell hb _ _ _ bx1_13
  replace bx1_14 := ccell hb _ _ _ bx1_14
  replace bx1_15 := ccell hb _ _ _ bx1_15
  have bl0 := Nat.lt_of_lt_of_le bl0 hb.size
  have bl1 := Nat.lt_of_lt_of_le bl1 hb.size
  replace r_r := r_r.below (hb.mono (by omega))
  replace r_s := r_s.below (hb.mono (by omega))
  replace r_t := r_t.below (hb.mono (by omega))
  clear hb
  have r_x := Reads.of_own o_x
  clear o_x
  have r_y := Reads.of_own o_y
  clear o_y
  have r_z := Reads.of_own o_z
  clear o_z
  go_wp2_with fail
  obtain ⟨w5, hW0⟩ : ∃ W, W = (w4.alloc (.cells #[.slice A_x rs.length c_x, .slice A_y l.length c_y, .string key, .slice A_z tb.length c_z] 58)) := ⟨_, rfl⟩
  have hb : Below w4.heap.size w4 w5 := by rw [hW0]; go_grown
  have hkz : Blk w5 w4.heap.size 58 [.slice A_x rs.length c_x, .slice A_y l.length c_y, .string key, .slice A_z tb.length c_z] := by rw [hW0]; exact Blk.new _ _ _
  rw [← hW0]
  clear hW0
  have bl2 := hkz.lt
  have k5 : Below w.heap.size w w5 := ext_step k4 (by omega) hb
  have p5 := hb.size
  replace bx0_0 := ccell hb _ _ _ bx0_0
  replace bx0_1 := ccell hb _ _ _ bx0_1
  replace bx0_2 := ccell hb _ _ _ bx0_2
  replace bx0_3 := ccell hb _ _ _ bx0_3
  replace bx1_0 := ccell hb _ _ _ bx1_0
  replace bx1_1 := ccell hb _ _ _ bx1_1
  replace bx1_2 := ccell hb _ _ _ bx1_2
  replace bx1_3 := ccell hb _ _ _ bx1_3
  replace bx1_4 := ccell hb _ _ _ bx1_4
  replace bx1_5 := ccell hb _ _ _ bx1_5
  replace bx1_6 := ccell hb _ _ _ bx1_6
  replace bx1_7 := ccell hb _ _ _ bx1_7
  replace bx1_8 := ccell hb _ _ _ bx1_8
  replace bx1_9 := ccell hb _ _ _ bx1_9
  replace bx1_10 := ccell hb _ _ _ bx1_10
  replace bx1_11 := ccell hb _ _ _ bx1_11
  replace bx1_12 := ccell hb _ _ _ bx1_12
  replace bx1_13 := ccell hb _ _ _ bx1_13
  replace bx1_14 := ccell hb _ _ _ bx1_14
  replace bx1_15 := ccell hb _ _ _ bx1_15
  have bl0 := Nat.lt_of_lt_of_le bl0 hb.size
  have bl1 := Nat.lt_of_lt_of_le bl1 hb.size
  replace r_r := r_r.below (hb.mono (by omega))
  replace r_s := r_s.below (hb.mono (by omega))
  replace r_t := r_t.below (hb.mono (by omega))
  replace r_x := r_x.below (hb.mono (by omega))
  replace r_y := r_y.below (hb.mono (by omega))
  replace r_z := r_z.below (hb.mono (by omega))
  have bx2_0 := hkz.at_ 0 _ rfl
  have bx2_1 := hkz.at_ 1 _ rfl
  have bx2_2 := hkz.at_ 2 _ rfl
  have bx2_3 := hkz.at_ 3 _ rfl
  clear hb hkz
  have hBB : w5.heap.size ≤ w5.heap.size := by omega
  refine wp_region_slotsS (w5.heap.size) [(29, fun _ v => v = .agg #[.slice A_x rs.length c_x, .slice A_y l.length c_y, .string key, .slice A_z tb.length c_z]), (30, fun _ v => v = .int .i64 q), (31, fun _ v => v = .agg #[.int .i64 p.dmac, .int .i64 p.smac, .int .i64 p.vlan, .int .i64 p.tos, .int .i64 p.id, .int .i64 p.ttl, .int .i64 p.sip, .int .i64 p.dip, .int .i64 p.seg_kind, .int .i64 p.seg_sport, .int .i64 p.seg_dport, .int .i64 p.seg_seq, .int .i64 p.seg_ack, .int .i64 p.seg_flags, .int .i64 p.seg_win, .string p.seg_body]), (32, fun _ v => v = .agg #[.int .i64 p.dmac, .int .i64 p.smac, .int .i64 p.vlan, .int .i64 p.tos, .int .i64 p.id, .int .i64 p.ttl, .int .i64 p.sip, .int .i64 p.dip, .int .i64 p.seg_kind, .int .i64 p.seg_sport, .int .i64 p.seg_dport, .int .i64 p.seg_seq, .int .i64 p.seg_ack, .int .i64 p.seg_flags, .int .i64 p.seg_win, .string p.seg_body]), (33, fun _ v => v = .int .i64 I), (10, fun _ v => v = .int .i64 I)] [] (fun _ => True) (by kernel_rfl) hBB (by kernel_rfl) (by kernel_rfl) (by kernel_rfl) (by kernel_rfl) ?_ ?_ ?_ ?_ ?_ ?_ ?_
  · intro p hp
    simp only [List.mem_cons, List.not_mem_nil, or_false] at hp
    rcases hp with rfl | rfl | rfl | rfl | rfl | rfl
    all_goals (intro u u' v hb hv; first | exact hv | exact BoxP.keep hv hb | exact RowP.keep hv hb)
  · intro s hs; cases hs
  · intro s hs; cases hs
  · exact trivial
  · intro u u' hb hj
    exact trivial
  · intro hGk hSk hJk
    refine allStep_cons (stepS_plain hGk hSk hBB hJk (by kernel_rfl) rfl ?_) ?_
    · intro a u hb hz hj hl hp K Q hK
      have e9 : a.tmps[9]?.getD undef = .pointer (some ⟨w4.heap.size, 0, none⟩) := gd (hl 9 (by kernel_rfl))
      have bx2_0 := ccell hb _ _ _ bx2_0
      have bx2_1 := ccell hb _ _ _ bx2_1
      have bx2_2 := ccell hb _ _ _ bx2_2
      have bx2_3 := ccell hb _ _ _ bx2_3
      go_simp
      exact hK _ _ (Below.refl _ _) (by intro d hd; cases hd; exact rfl)
    refine allStep_cons (stepS_plain hGk hSk hBB hJk (by kernel_rfl) rfl ?_) ?_
    · intro a u hb hz hj hl hp K Q hK
      have e1 : a.tmps[1]?.getD undef = .int .i64 q := gd (hl 1 (by kernel_rfl))
      go_simp
      exact hK _ _ (Below.refl _ _) (by intro d hd; cases hd; exact rfl)
    refine allStep_cons (stepS_plain hGk hSk hBB hJk (by kernel_rfl) rfl ?_) ?_
    · intro a u hb hz hj hl hp K Q hK
      have e5 : a.tmps[5]?.getD undef = .pointer (some ⟨w.heap.size + 1, 0, none⟩) := gd (hl 5 (by kernel_rfl))
      have bx1_0 := ccell hb _ _ _ bx1_0
      have bx1_1 := ccell hb _ _ _ bx1_1
      have bx1_2 := ccell hb _ _ _ bx1_2
      have bx1_3 := ccell hb _ _ _ bx1_3
      have bx1_4 := ccell hb _ _ _ bx1_4
      have bx1_5 := ccell hb _ _ _ bx1_5
      have bx1_6 := ccell hb _ _ _ bx1_6
      have bx1_7 := ccell hb _ _ _ bx1_7
      have bx1_8 := ccell hb _ _ _ bx1_8
      have bx1_9 := ccell hb _ _ _ bx1_9
      have bx1_10 := ccell hb _ _ _ bx1_10
      have bx1_11 := ccell hb _ _ _ bx1_11
      have bx1_12 := ccell hb _ _ _ bx1_12
      have bx1_13 := ccell hb _ _ _ bx1_13
      have bx1_14 := ccell hb _ _ _ bx1_14
      have bx1_15 := ccell hb _ _ _ bx1_15
      go_simp
      exact hK _ _ (Below.refl _ _) (by intro d hd; cases hd; exact rfl)
    refine allStep_cons (stepS_plain hGk hSk hBB hJk (by kernel_rfl) rfl ?_) ?_
    · intro a u hb hz hj hl hp K Q hK
      have e31 : a.tmps[31]?.getD undef = .agg #[.int .i64 p.dmac, .int .i64 p.smac, .int .i64 p.vlan, .int .i64 p.tos, .int .i64 p.id, .int .i64 p.ttl, .int .i64 p.sip, .int .i64 p.dip, .int .i64 p.seg_kind, .int .i64 p.seg_sport, .int .i64 p.seg_dport, .int .i64 p.seg_seq, .int .i64 p.seg_ack, .int .i64 p.seg_flags, .int .i64 p.seg_win, .string p.seg_body] := gd (hl 31 (by kernel_rfl))
      go_simp
      refine (toPacket_c p _).mono ?_
      rintro e u1 ⟨rfl, hb1⟩
      exact hK _ _ hb1 (by intro d hd; cases hd; exact rfl)
    refine allStep_cons (stepS_plain hGk hSk hBB hJk (by kernel_rfl) rfl ?_) ?_
    · intro a u hb hz hj hl hp K Q hK
      have e29 : a.tmps[29]?.getD undef = .agg #[.slice A_x rs.length c_x, .slice A_y l.length c_y, .string key, .slice A_z tb.length c_z] := gd (hl 29 (by kernel_rfl))
      have e30 : a.tmps[30]?.getD undef = .int .i64 q := gd (hl 30 (by kernel_rfl))
      have e32 : a.tmps[32]?.getD undef = .agg #[.int .i64 p.dmac, .int .i64 p.smac, .int .i64 p.vlan, .int .i64 p.tos, .int .i64 p.id, .int .i64 p.ttl, .int .i64 p.sip, .int .i64 p.dip, .int .i64 p.seg_kind, .int .i64 p.seg_sport, .int .i64 p.seg_dport, .int .i64 p.seg_seq, .int .i64 p.seg_ack, .int .i64 p.seg_flags, .int .i64 p.seg_win, .string p.seg_body] := gd (hl 32 (by kernel_rfl))
      go_simp
      refine (himpl _ _ _ _ _ _ _ ((r_x.below (hb.mono (by omega))).more (by omega)) ((r_y.below (hb.mono (by omega))).more (by omega)) ((r_z.below (hb.mono (by omega))).more (by omega))).mono ?_
      rintro e u1 ⟨rfl, hb1⟩
      exact hK _ _ hb1 (by intro d hd; cases hd; exact rfl)
    refine allStep_cons (stepS_plain hGk hSk hBB hJk (by kernel_rfl) rfl ?_) ?_
    · intro a u hb hz hj hl hp K Q hK
      have e33 : a.tmps[33]?.getD undef = .int .i64 I := gd (hl 33 (by kernel_rfl))
      go_simp
      exact hK _ _ (Below.refl _ _) (by intro d hd; cases hd; exact rfl)
    exact allStep_nil
  intro xT w6 hb hz hj hL hSt
  have fx10 : xT 10 = .int .i64 I := hL _ (List.mem_of_getElem? (i := 5) rfl)
  simp only [List.map, putAll, fx10]
  have k6 : Below w.heap.size w w6 := ext_step k5 (by omega) hb
  have p6 := hb.size
  replace bx0_0 := ccell hb _ _ _ bx0_0
  replace bx0_1 := ccell hb _ _ _ bx0_1
  replace bx0_2 := ccell hb _ _ _ bx0_2
  replace bx0_3 := ccell hb _ _ _ bx0_3
  replace bx1_0 := ccell hb _ _ _ bx1_0
  replace bx1_1 := ccell hb _ _ _ bx1_1
  replace bx1_2 := ccell hb _ _ _ bx1_2
  replace bx1_3 := ccell hb _ _ _ bx1_3
  replace bx1_4 := ccell hb _ _ _ bx1_4
  replace bx1_5 := ccell hb _ _ _ bx1_5
  replace bx1_6 := ccell hb _ _ _ bx1_6
  replace bx1_7 := ccell hb _ _ _ bx1_7
  replace bx1_8 := ccell hb _ _ _ bx1_8
  replace bx1_9 := ccell hb _ _ _ bx1_9
  replace bx1_10 := ccell hb _ _ _ bx1_10
  replace bx1_11 := ccell hb _ _ _ bx1_11
  replace bx1_12 := ccell hb _ _ _ bx1_12
  replace bx1_13 := ccell hb _ _ _ bx1_13
  replace bx1_14 := ccell hb _ _ _ bx1_14
  replace bx1_15 := ccell hb _ _ _ bx1_15
  replace bx2_0 := ccell hb _ _ _ bx2_0
  replace bx2_1 := ccell hb _ _ _ bx2_1
  replace bx2_2 := ccell hb _ _ _ bx2_2
  replace bx2_3 := ccell hb _ _ _ bx2_3
  have bl0 := Nat.lt_of_lt_of_le bl0 hb.size
  have bl1 := Nat.lt_of_lt_of_le bl1 hb.size
  have bl2 := Nat.lt_of_lt_of_le bl2 hb.size
  replace r_r := r_r.below (hb.mono (by omega))
  replace r_s := r_s.below (hb.mono (by omega))
  replace r_t := r_t.below (hb.mono (by omega))
  replace r_x := r_x.below (hb.mono (by omega))
  replace r_y := r_y.below (hb.mono (by omega))
  replace r_z := r_z.below (hb.mono (by omega))
  clear hL hSt hb hz fx10
  go_wp2_with fail
  have hBB : w6.heap.size ≤ w6.heap.size := by omega
  refine wp_region_slotsS (w6.heap.size) [(37, fun _ v => v = .agg #[.slice A_x rs.length c_x, .slice A_y l.length c_y, .string key, .slice A_z tb.length c_z]), (38, fun _ v => v = .agg #[.slice Ar rs.length cr, .slice As l.length cs, .string key, .slice At tb.length ct]), (39, SteO w6.heap.size rs l key tb), (40, fun _ v => v = .bool true), (41, fun _ v => v = .bool false)] [] (fun _ => True) (by kernel_rfl) hBB (by kernel_rfl) (by kernel_rfl) (by kernel_rfl) (by kernel_rfl) ?_ ?_ ?_ ?_ ?_ ?_ ?_
  · intro p hp
    simp only [List.mem_cons, List.not_mem_nil, or_false] at hp
    rcases hp with rfl | rfl | rfl | rfl | rfl
    all_goals (intro u u' v hb hv; first | exact hv | exact BoxP.keep hv hb | exact RowP.keep hv hb | exact SteO.keep hv hb)
  · intro s hs; cases hs
  · intro s hs; cases hs
  · exact trivial
  · intro u u' hb hj
    exact trivial
  · intro hGk hSk hJk
    refine allStep_cons (stepS_plain hGk hSk hBB hJk (by kernel_rfl) rfl ?_) ?_
    · intro a u hb hz hj hl hp K Q hK
      have e9 : a.tmps[9]?.getD undef = .pointer (some ⟨w4.heap.size, 0, none⟩) := gd (hl 9 (by kernel_rfl))
      have bx2_0 := ccell hb _ _ _ bx2_0
      have bx2_1 := ccell hb _ _ _ bx2_1
      have bx2_2 := ccell hb _ _ _ bx2_2
      have bx2_3 := ccell hb _ _ _ bx2_3
      go_simp
      exact hK _ _ (Below.refl _ _) (by intro d hd; cases hd; exact rfl)
    refine allStep_cons (stepS_plain hGk hSk hBB hJk (by kernel_rfl) rfl ?_) ?_
    · intro a u hb hz hj hl hp K Q hK
      have e3 : a.tmps[3]?.getD undef = .pointer (some ⟨w.heap.size, 0, none⟩) := gd (hl 3 (by kernel_rfl))
      have bx0_0 := ccell hb _ _ _ bx0_0
      have bx0_1 := ccell hb _ _ _ bx0_1
      have bx0_2 := ccell hb _ _ _ bx0_2
      have bx0_3 := ccell hb _ _ _ bx0_3
      go_simp
      exact hK _ _ (Below.refl _ _) (by intro d hd; cases hd; exact rfl)
    refine allStep_cons (stepS_plain hGk hSk hBB hJk (by kernel_rfl) rfl ?_) ?_
    · intro a u hb hz hj hl hp K Q hK
      have e38 : a.tmps[38]?.getD undef = .agg #[.slice Ar rs.length cr, .slice As l.length cs, .string key, .slice At tb.length ct] := gd (hl 38 (by kernel_rfl))
      go_simp
      refine (hto _ ((r_r.below (hb.mono (by omega))).more (by omega)) ((r_s.below (hb.mono (by omega))).more (by omega)) ((r_t.below (hb.mono (by omega))).more (by omega))).mono ?_
      rintro e u1 ⟨v, rfl, hS, hb1⟩
      exact hK _ _ hb1 (by intro d hd; cases hd; exact (hS.base (by omega)))
    refine allStep_cons (stepS_plain hGk hSk hBB hJk (by kernel_rfl) rfl ?_) ?_
    · intro a u hb hz hj hl hp K Q hK
      have e37 : a.tmps[37]?.getD undef = .agg #[.slice A_x rs.length c_x, .slice A_y l.length c_y, .string key, .slice A_z tb.length c_z] := gd (hl 37 (by kernel_rfl))
      obtain ⟨Ap2, cp2, Aq2, cq2, At2, ct2, ex39, o1_2, o2_2, o3_2⟩ : (SteO w6.heap.size rs l key tb) u (a.tmps.getD 39 undef) := hl 39 (by kernel_rfl)
      have e39 := gd ex39
      go_simp
      refine (heq _ _ _ _ _ _ _ _ _ _ _ _ _ ((r_x.below (hb.mono (by omega))).more (by omega)) ((r_y.below (hb.mono (by omega))).more (by omega)) ((r_z.below (hb.mono (by omega))).more (by omega)) (Reads.of_own o1_2) (Reads.of_own o2_2) (Reads.of_own o3_2)).mono ?_
      rintro e u1 ⟨rfl, hb1⟩
      exact hK _ _ hb1 (by intro d hd; cases hd; exact rfl)
    refine allStep_cons (stepS_plain hGk hSk hBB hJk (by kernel_rfl) rfl ?_) ?_
    · intro a u hb hz hj hl hp K Q hK
      have e40 : a.tmps[40]?.getD undef = .bool true := gd (hl 40 (by kernel_rfl))
      go_simp
      exact hK _ _ (Below.refl _ _) (by intro d hd; cases hd; exact rfl)
    exact allStep_nil
  intro xT w7 hb hz hj hL hSt
  have fx41 : xT 41 = .bool false := hL _ (List.mem_of_getElem? (i := 4) rfl)
  simp only [List.map, putAll, fx41]
  have k7 : Below w.heap.size w w7 := ext_step k6 (by omega) hb
  have p7 := hb.size
  replace bx0_0 := ccell hb _ _ _ bx0_0
  replace bx0_1 := ccell hb _ _ _ bx0_1
  replace bx0_2 := ccell hb _ _ _ bx0_2
  replace bx0_3 := ccell hb _ _ _ bx0_3
  replace bx1_0 := ccell hb _ _ _ bx1_0
  replace bx1_1 := ccell hb _ _ _ bx1_1
  replace bx1_2 := ccell hb _ _ _ bx1_2
  replace bx1_3 := ccell hb _ _ _ bx1_3
  replace bx1_4 := ccell hb _ _ _ bx1_4
  replace bx1_5 := ccell hb _ _ _ bx1_5
  replace bx1_6 := ccell hb _ _ _ bx1_6
  replace bx1_7 := ccell hb _ _ _ bx1_7
  replace bx1_8 := ccell hb _ _ _ bx1_8
  replace bx1_9 := ccell hb _ _ _ bx1_9
  replace bx1_10 := ccell hb _ _ _ bx1_10
  replace bx1_11 := ccell hb _ _ _ bx1_11
  replace bx1_12 := ccell hb _ _ _ bx1_12
  replace bx1_13 := ccell hb _ _ _ bx1_13
  replace bx1_14 := ccell hb _ _ _ bx1_14
  replace bx1_15 := ccell hb _ _ _ bx1_15
  replace bx2_0 := ccell hb _ _ _ bx2_0
  replace bx2_1 := ccell hb _ _ _ bx2_1
  replace bx2_2 := ccell hb _ _ _ bx2_2
  replace bx2_3 := ccell hb _ _ _ bx2_3
  have bl0 := Nat.lt_of_lt_of_le bl0 hb.size
  have bl1 := Nat.lt_of_lt_of_le bl1 hb.size
  have bl2 := Nat.lt_of_lt_of_le bl2 hb.size
  replace r_r := r_r.below (hb.mono (by omega))
  replace r_s := r_s.below (hb.mono (by omega))
  replace r_t := r_t.below (hb.mono (by omega))
  replace r_x := r_x.below (hb.mono (by omega))
  replace r_y := r_y.below (hb.mono (by omega))
  replace r_z := r_z.below (hb.mono (by omega))
  clear hL hSt hb hz fx41
  go_wp2
  go_ret
  exact ⟨rfl, k7⟩
theorem steer_law (Ar : Option Addr) (cr : Nat) (rs : List Rule) (As : Option Addr) (cs : Nat) (l : List Slot) (key : ByteArray) (At : Option Addr) (ct : Nat) (tb : List Int) (q : Int) (p : Packet) (w : World) (hk : key.size ≤ maxLen) (hm : p.seg_body.size ≤ maxLen) (r_r : Reads w w.heap.size 9 Ar rs.length (rs.flatMap Rule.cells)) (r_s : Reads w w.heap.size 7 As l.length (l.flatMap Slot.cells)) (r_t : Reads w w.heap.size 1 At tb.length (tb.flatMap fun x : Int => [Value.int .i64 x])) (hm1 : rs.length ≤ 9223372036854775807) (hm2 : l.length ≤ 9223372036854775807) (hm3 : tb.length ≤ 9223372036854775807) :
    Calls Try.prog 6 #[.agg #[.slice Ar rs.length cr, .slice As l.length cs, .string key, .slice At tb.length ct], .int .i64 q, .agg #[.int .i64 p.dmac, .int .i64 p.smac, .int .i64 p.vlan, .int .i64 p.tos, .int .i64 p.id, .int .i64 p.ttl, .int .i64 p.sip, .int .i64 p.dip, .int .i64 p.seg_kind, .int .i64 p.seg_sport, .int .i64 p.seg_dport, .int .i64 p.seg_seq, .int .i64 p.seg_ack, .int .i64 p.seg_flags, .int .i64 p.seg_win, .string p.seg_body]] w fun e w' => e = .returned (.bool true) ∧ Below w.heap.size w w' := by
  by_cases h1 : (1048576 : Int) < (rs.length : Int) + l.length + key.size + tb.length
  · exact steerL_n Ar cr rs As cs l key At ct tb q p w hk hm (fun u => szSteering_n Ar rs.length cr As l.length cs key At tb.length ct 1048576 u hk (by decide) h1 (by decide) hm1 hm2 hm3)
  · have hz1 := fun u => szSteering_p Ar rs.length cr As l.length cs key At tb.length ct 1048576 u hk (by omega) (by decide)
    have hz2 := fun u => szPacket_c p (1048576 - rs.length - l.length - key.size - tb.length) u hm (by omega) (by omega)
    by_cases h2 : (p.seg_body.size : Int) ≤ 1048576 - rs.length - l.length - key.size - tb.length
    · simp only [if_pos h2] at hz2
      exact steerL_ok Ar cr rs As cs l key At ct tb q p w hk hm _ _ (by omega) (by omega) hz1 hz2 (by omega) (by omega) (by omega) (by omega) r_r r_s r_t
    · simp only [if_neg h2] at hz2
      exact steerL_m Ar cr rs As cs l key At ct tb q p w hk hm _ (by omega) hz1 hz2
theorem fnExactSteerPacket_walk (A1 : Option Addr) (n1 c1 : Nat) (l1 : List Rule) (A2 : Option Addr) (n2 c2 : Nat) (l2 : List Slot) (key : ByteArray) (A3 : Option Addr) (n3 c3 : Nat) (l3 : List Int) (q : Int) (x_dmac : Int) (x_smac : Int) (x_vlan : Int) (x_tos : Int) (x_id : Int) (x_ttl : Int) (x_sip : Int) (x_dip : Int) (x_seg_kind : Int) (x_seg_sport : Int) (x_seg_dport : Int) (x_seg_seq : Int) (x_seg_ack : Int) (x_seg_flags : Int) (x_seg_win : Int) (x_seg_body : ByteArray) (w : World) (s1 : SlRule w A1 n1 c1 l1) (s2 : SlSlot w A2 n2 c2 l2) (hk : key.size ≤ maxLen) (s3 : SlInt w A3 n3 c3 l3) (hq : I64 q) (f0 : I64 x_dmac) (f1 : I64 x_smac) (f2 : I64 x_vlan) (f3 : I64 x_tos) (f4 : I64 x_id) (f5 : I64 x_ttl) (f6 : I64 x_sip) (f7 : I64 x_dip) (f8 : I64 x_seg_kind) (f9 : I64 x_seg_sport) (f10 : I64 x_seg_dport) (f11 : I64 x_seg_seq) (f12 : I64 x_seg_ack) (f13 : I64 x_seg_flags) (f14 : I64 x_seg_win) (f15 : x_seg_body.size ≤ maxLen) :
    Calls Try.prog 6 #[.agg #[.slice A1 n1 c1, .slice A2 n2 c2, .string key, .slice A3 n3 c3], .int .i64 q, .agg #[.int .i64 x_dmac, .int .i64 x_smac, .int .i64 x_vlan, .int .i64 x_tos, .int .i64 x_id, .int .i64 x_ttl, .int .i64 x_sip, .int .i64 x_dip, .int .i64 x_seg_kind, .int .i64 x_seg_sport, .int .i64 x_seg_dport, .int .i64 x_seg_seq, .int .i64 x_seg_ack, .int .i64 x_seg_flags, .int .i64 x_seg_win, .string x_seg_body]] w fun e w' => e = .returned (.bool true) ∧ Below w.heap.size w w' := by
  obtain ⟨⟨rfl, hnc1, hc1, r1⟩, _⟩ := s1
  obtain ⟨⟨rfl, hnc2, hc2, r2⟩, _⟩ := s2
  obtain ⟨⟨rfl, hnc3, hc3, r3⟩, _⟩ := s3
  exact steer_law A1 c1 l1 A2 c2 l2 key A3 c3 l3 q (⟨x_dmac, x_smac, x_vlan, x_tos, x_id, x_ttl, x_sip, x_dip, x_seg_kind, x_seg_sport, x_seg_dport, x_seg_seq, x_seg_ack, x_seg_flags, x_seg_win, x_seg_body⟩ : Packet) w hk f15 r1 r2 r3 (by omega) (by omega) (by omega)
end Go.Proofs.Ytifbfmafogmemaa
