/- Contract: SteerPacket: spec. -/
import Derived.Test.YtkfekgmdjemkbaaStJ0
namespace Go.Proofs.Ytkfekgmdjemkbaa
set_option linter.unusedSimpArgs false
set_option linter.unusedVariables false
open Go.RowKit Go.ChangeShapes Go.WideShapes
set_option maxRecDepth 100000 in
set_option maxHeartbeats 4000000 in
theorem specSP_ok (w : World) {Ar : Option Addr} {nr cr : Nat} {rs : List Rule} {As : Option Addr} {ns cs : Nat} {l : List Slot} {key : ByteArray} {At : Option Addr} {nt ct : Nat} {tb : List Int} {q : Int} {p : Packet} (hrr : Reads w w.heap.size 9 Ar nr (rs.flatMap Rule.cells)) (hrs : Reads w w.heap.size 7 As ns (l.flatMap Slot.cells)) (hrt : Reads w w.heap.size 1 At nt (tb.flatMap fun x : Int => [Value.int .i64 x]))  (hok : ∀ u : World, Reads u u.heap.size 9 Ar nr (rs.flatMap Rule.cells) → Reads u u.heap.size 7 As ns (l.flatMap Slot.cells) → Reads u u.heap.size 1 At nt (tb.flatMap fun x : Int => [Value.int .i64 x]) → Calls Try.prog 32 #[.agg #[.slice Ar nr cr, .slice As ns cs, .string key, .slice At nt ct], .int .i64 q] u fun e w' => e = .returned (.bool false) ∧ Below u.heap.size u w') :
    Calls Try.prog 15 #[.agg #[.slice Ar nr cr, .slice As ns cs, .string key, .slice At nt ct], .int .i64 q, .agg #[.int .i64 p.dmac, .int .i64 p.smac, .int .i64 p.vlan, .int .i64 p.tos, .int .i64 p.id, .int .i64 p.ttl, .int .i64 p.sip, .int .i64 p.dip, .int .i64 p.seg_kind, .int .i64 p.seg_sport, .int .i64 p.seg_dport, .int .i64 p.seg_seq, .int .i64 p.seg_ack, .int .i64 p.seg_flags, .int .i64 p.seg_win, .string p.seg_body]] w fun e w' => e = .returned (.int .i64 (-1)) ∧ Below w.heap.size w w' := by
  go_enter Try.func15, Try.ntmps15
  go_wp2_with fail
  have k0 : Below w.heap.size w ((w.alloc (.cells #[.slice Ar nr cr, .slice As ns cs, .string key, .slice At nt ct] 32)).alloc (.cells #[.int .i64 p.dmac, .int .i64 p.smac, .int .i64 p.vlan, .int .i64 p.tos, .int .i64 p.id, .int .i64 p.ttl, .int .i64 p.sip, .int .i64 p.dip, .int .i64 p.seg_kind, .int .i64 p.seg_sport, .int .i64 p.seg_dport, .int .i64 p.seg_seq, .int .i64 p.seg_ack, .int .i64 p.seg_flags, .int .i64 p.seg_win, .string p.seg_body] 41)) := by go_grown
  have bl0 : w.heap.size < ((w.alloc (.cells #[.slice Ar nr cr, .slice As ns cs, .string key, .slice At nt ct] 32)).alloc (.cells #[.int .i64 p.dmac, .int .i64 p.smac, .int .i64 p.vlan, .int .i64 p.tos, .int .i64 p.id, .int .i64 p.ttl, .int .i64 p.sip, .int .i64 p.dip, .int .i64 p.seg_kind, .int .i64 p.seg_sport, .int .i64 p.seg_dport, .int .i64 p.seg_seq, .int .i64 p.seg_ack, .int .i64 p.seg_flags, .int .i64 p.seg_win, .string p.seg_body] 41)).heap.size := by go_size
  have hk0 : Blk ((w.alloc (.cells #[.slice Ar nr cr, .slice As ns cs, .string key, .slice At nt ct] 32)).alloc (.cells #[.int .i64 p.dmac, .int .i64 p.smac, .int .i64 p.vlan, .int .i64 p.tos, .int .i64 p.id, .int .i64 p.ttl, .int .i64 p.sip, .int .i64 p.dip, .int .i64 p.seg_kind, .int .i64 p.seg_sport, .int .i64 p.seg_dport, .int .i64 p.seg_seq, .int .i64 p.seg_ack, .int .i64 p.seg_flags, .int .i64 p.seg_win, .string p.seg_body] 41)) (w.heap.size) 32 [.slice Ar nr cr, .slice As ns cs, .string key, .slice At nt ct] := by simpa using (Blk.new w 32 [.slice Ar nr cr, .slice As ns cs, .string key, .slice At nt ct]).alloc (.cells #[.int .i64 p.dmac, .int .i64 p.smac, .int .i64 p.vlan, .int .i64 p.tos, .int .i64 p.id, .int .i64 p.ttl, .int .i64 p.sip, .int .i64 p.dip, .int .i64 p.seg_kind, .int .i64 p.seg_sport, .int .i64 p.seg_dport, .int .i64 p.seg_seq, .int .i64 p.seg_ack, .int .i64 p.seg_flags, .int .i64 p.seg_win, .string p.seg_body] 41)
  have bl1 : w.heap.size + 1 < ((w.alloc (.cells #[.slice Ar nr cr, .slice As ns cs, .string key, .slice At nt ct] 32)).alloc (.cells #[.int .i64 p.dmac, .int .i64 p.smac, .int .i64 p.vlan, .int .i64 p.tos, .int .i64 p.id, .int .i64 p.ttl, .int .i64 p.sip, .int .i64 p.dip, .int .i64 p.seg_kind, .int .i64 p.seg_sport, .int .i64 p.seg_dport, .int .i64 p.seg_seq, .int .i64 p.seg_ack, .int .i64 p.seg_flags, .int .i64 p.seg_win, .string p.seg_body] 41)).heap.size := by go_size
  have hk1 : Blk ((w.alloc (.cells #[.slice Ar nr cr, .slice As ns cs, .string key, .slice At nt ct] 32)).alloc (.cells #[.int .i64 p.dmac, .int .i64 p.smac, .int .i64 p.vlan, .int .i64 p.tos, .int .i64 p.id, .int .i64 p.ttl, .int .i64 p.sip, .int .i64 p.dip, .int .i64 p.seg_kind, .int .i64 p.seg_sport, .int .i64 p.seg_dport, .int .i64 p.seg_seq, .int .i64 p.seg_ack, .int .i64 p.seg_flags, .int .i64 p.seg_win, .string p.seg_body] 41)) (w.heap.size + 1) 41 [.int .i64 p.dmac, .int .i64 p.smac, .int .i64 p.vlan, .int .i64 p.tos, .int .i64 p.id, .int .i64 p.ttl, .int .i64 p.sip, .int .i64 p.dip, .int .i64 p.seg_kind, .int .i64 p.seg_sport, .int .i64 p.seg_dport, .int .i64 p.seg_seq, .int .i64 p.seg_ack, .int .i64 p.seg_flags, .int .i64 p.seg_win, .string p.seg_body] := by simpa using Blk.new (w.alloc (.cells #[.slice Ar nr cr, .slice As ns cs, .string key, .slice At nt ct] 32)) 41 [.int .i64 p.dmac, .int .i64 p.smac, .int .i64 p.vlan, .int .i64 p.tos, .int .i64 p.id, .int .i64 p.ttl, .int .i64 p.sip, .int .i64 p.dip, .int .i64 p.seg_kind, .int .i64 p.seg_sport, .int .i64 p.seg_dport, .int .i64 p.seg_seq, .int .i64 p.seg_ack, .int .i64 p.seg_flags, .int .i64 p.seg_win, .string p.seg_body]
  have p0 := k0.size
  generalize hW0 : ((w.alloc (.cells #[.slice Ar nr cr, .slice As ns cs, .string key, .slice At nt ct] 32)).alloc (.cells #[.int .i64 p.dmac, .int .i64 p.smac, .int .i64 p.vlan, .int .i64 p.tos, .int .i64 p.id, .int .i64 p.ttl, .int .i64 p.sip, .int .i64 p.dip, .int .i64 p.seg_kind, .int .i64 p.seg_sport, .int .i64 p.seg_dport, .int .i64 p.seg_seq, .int .i64 p.seg_ack, .int .i64 p.seg_flags, .int .i64 p.seg_win, .string p.seg_body] 41)) = w0 at *
  clear hW0
  refine (hok _ ((hrr.below k0).more k0.size) ((hrs.below k0).more k0.size) ((hrt.below k0).more k0.size)).mono ?_
  rintro e w1 ⟨rfl, hb⟩
  have k1 : Below w.heap.size w w1 := ext_step k0 (by omega) hb
  have p1 := hb.size
  replace hk0 := hk0.ext hb
  replace hk1 := hk1.ext hb
  have bl0 := Nat.lt_of_lt_of_le bl0 hb.size
  have bl1 := Nat.lt_of_lt_of_le bl1 hb.size
  clear hb
  go_wp2
  go_ret
  exact ⟨rfl, k1⟩
set_option maxRecDepth 100000 in
set_option maxHeartbeats 4000000 in
theorem specSP_su (w : World) {Ar : Option Addr} {nr cr : Nat} {rs : List Rule} {As : Option Addr} {ns cs : Nat} {l : List Slot} {key : ByteArray} {At : Option Addr} {nt ct : Nat} {tb : List Int} {q : Int} {p : Packet} (hrr : Reads w w.heap.size 9 Ar nr (rs.flatMap Rule.cells)) (hrs : Reads w w.heap.size 7 As ns (l.flatMap Slot.cells)) (hrt : Reads w w.heap.size 1 At nt (tb.flatMap fun x : Int => [Value.int .i64 x]))  (hok : ∀ u : World, Reads u u.heap.size 9 Ar nr (rs.flatMap Rule.cells) → Reads u u.heap.size 7 As ns (l.flatMap Slot.cells) → Reads u u.heap.size 1 At nt (tb.flatMap fun x : Int => [Value.int .i64 x]) → Calls Try.prog 32 #[.agg #[.slice Ar nr cr, .slice As ns cs, .string key, .slice At nt ct], .int .i64 q] u fun e w' => e = .returned (.bool true) ∧ Below u.heap.size u w') (hsu : ∀ u : World, Calls Try.prog 33 #[.agg #[.int .i64 p.dmac, .int .i64 p.smac, .int .i64 p.vlan, .int .i64 p.tos, .int .i64 p.id, .int .i64 p.ttl, .int .i64 p.sip, .int .i64 p.dip, .int .i64 p.seg_kind, .int .i64 p.seg_sport, .int .i64 p.seg_dport, .int .i64 p.seg_seq, .int .i64 p.seg_ack, .int .i64 p.seg_flags, .int .i64 p.seg_win, .string p.seg_body]] u fun e w' => e = .returned (.bool false) ∧ Below u.heap.size u w') :
    Calls Try.prog 15 #[.agg #[.slice Ar nr cr, .slice As ns cs, .string key, .slice At nt ct], .int .i64 q, .agg #[.int .i64 p.dmac, .int .i64 p.smac, .int .i64 p.vlan, .int .i64 p.tos, .int .i64 p.id, .int .i64 p.ttl, .int .i64 p.sip, .int .i64 p.dip, .int .i64 p.seg_kind, .int .i64 p.seg_sport, .int .i64 p.seg_dport, .int .i64 p.seg_seq, .int .i64 p.seg_ack, .int .i64 p.seg_flags, .int .i64 p.seg_win, .string p.seg_body]] w fun e w' => e = .returned (.int .i64 (-1)) ∧ Below w.heap.size w w' := by
  go_enter Try.func15, Try.ntmps15
  go_wp2_with fail
  have k0 : Below w.heap.size w ((w.alloc (.cells #[.slice Ar nr cr, .slice As ns cs, .string key, .slice At nt ct] 32)).alloc (.cells #[.int .i64 p.dmac, .int .i64 p.smac, .int .i64 p.vlan, .int .i64 p.tos, .int .i64 p.id, .int .i64 p.ttl, .int .i64 p.sip, .int .i64 p.dip, .int .i64 p.seg_kind, .int .i64 p.seg_sport, .int .i64 p.seg_dport, .int .i64 p.seg_seq, .int .i64 p.seg_ack, .int .i64 p.seg_flags, .int .i64 p.seg_win, .string p.seg_body] 41)) := by go_grown
  have bl0 : w.heap.size < ((w.alloc (.cells #[.slice Ar nr cr, .slice As ns cs, .string key, .slice At nt ct] 32)).alloc (.cells #[.int .i64 p.dmac, .int .i64 p.smac, .int .i64 p.vlan, .int .i64 p.tos, .int .i64 p.id, .int .i64 p.ttl, .int .i64 p.sip, .int .i64 p.dip, .int .i64 p.seg_kind, .int .i64 p.seg_sport, .int .i64 p.seg_dport, .int .i64 p.seg_seq, .int .i64 p.seg_ack, .int .i64 p.seg_flags, .int .i64 p.seg_win, .string p.seg_body] 41)).heap.size := by go_size
  have hk0 : Blk ((w.alloc (.cells #[.slice Ar nr cr, .slice As ns cs, .string key, .slice At nt ct] 32)).alloc (.cells #[.int .i64 p.dmac, .int .i64 p.smac, .int .i64 p.vlan, .int .i64 p.tos, .int .i64 p.id, .int .i64 p.ttl, .int .i64 p.sip, .int .i64 p.dip, .int .i64 p.seg_kind, .int .i64 p.seg_sport, .int .i64 p.seg_dport, .int .i64 p.seg_seq, .int .i64 p.seg_ack, .int .i64 p.seg_flags, .int .i64 p.seg_win, .string p.seg_body] 41)) (w.heap.size) 32 [.slice Ar nr cr, .slice As ns cs, .string key, .slice At nt ct] := by simpa using (Blk.new w 32 [.slice Ar nr cr, .slice As ns cs, .string key, .slice At nt ct]).alloc (.cells #[.int .i64 p.dmac, .int .i64 p.smac, .int .i64 p.vlan, .int .i64 p.tos, .int .i64 p.id, .int .i64 p.ttl, .int .i64 p.sip, .int .i64 p.dip, .int .i64 p.seg_kind, .int .i64 p.seg_sport, .int .i64 p.seg_dport, .int .i64 p.seg_seq, .int .i64 p.seg_ack, .int .i64 p.seg_flags, .int .i64 p.seg_win, .string p.seg_body] 41)
  have bl1 : w.heap.size + 1 < ((w.alloc (.cells #[.slice Ar nr cr, .slice As ns cs, .string key, .slice At nt ct] 32)).alloc (.cells #[.int .i64 p.dmac, .int .i64 p.smac, .int .i64 p.vlan, .int .i64 p.tos, .int .i64 p.id, .int .i64 p.ttl, .int .i64 p.sip, .int .i64 p.dip, .int .i64 p.seg_kind, .int .i64 p.seg_sport, .int .i64 p.seg_dport, .int .i64 p.seg_seq, .int .i64 p.seg_ack, .int .i64 p.seg_flags, .int .i64 p.seg_win, .string p.seg_body] 41)).heap.size := by go_size
  have hk1 : Blk ((w.alloc (.cells #[.slice Ar nr cr, .slice As ns cs, .string key, .slice At nt ct] 32)).alloc (.cells #[.int .i64 p.dmac, .int .i64 p.smac, .int .i64 p.vlan, .int .i64 p.tos, .int .i64 p.id, .int .i64 p.ttl, .int .i64 p.sip, .int .i64 p.dip, .int .i64 p.seg_kind, .int .i64 p.seg_sport, .int .i64 p.seg_dport, .int .i64 p.seg_seq, .int .i64 p.seg_ack, .int .i64 p.seg_flags, .int .i64 p.seg_win, .string p.seg_body] 41)) (w.heap.size + 1) 41 [.int .i64 p.dmac, .int .i64 p.smac, .int .i64 p.vlan, .int .i64 p.tos, .int .i64 p.id, .int .i64 p.ttl, .int .i64 p.sip, .int .i64 p.dip, .int .i64 p.seg_kind, .int .i64 p.seg_sport, .int .i64 p.seg_dport, .int .i64 p.seg_seq, .int .i64 p.seg_ack, .int .i64 p.seg_flags, .int .i64 p.seg_win, .string p.seg_body] := by simpa using Blk.new (w.alloc (.cells #[.slice Ar nr cr, .slice As ns cs, .string key, .slice At nt ct] 32)) 41 [.int .i64 p.dmac, .int .i64 p.smac, .int .i64 p.vlan, .int .i64 p.tos, .int .i64 p.id, .int .i64 p.ttl, .int .i64 p.sip, .int .i64 p.dip, .int .i64 p.seg_kind, .int .i64 p.seg_sport, .int .i64 p.seg_dport, .int .i64 p.seg_seq, .int .i64 p.seg_ack, .int .i64 p.seg_flags, .int .i64 p.seg_win, .string p.seg_body]
  have p0 := k0.size
  generalize hW0 : ((w.alloc (.cells #[.slice Ar nr cr, .slice As ns cs, .string key, .slice At nt ct] 32)).alloc (.cells #[.int .i64 p.dmac, .int .i64 p.smac, .int .i64 p.vlan, .int .i64 p.tos, .int .i64 p.id, .int .i64 p.ttl, .int .i64 p.sip, .int .i64 p.dip, .int .i64 p.seg_kind, .int .i64 p.seg_sport, .int .i64 p.seg_dport, .int .i64 p.seg_seq, .int .i64 p.seg_ack, .int .i64 p.seg_flags, .int .i64 p.seg_win, .string p.seg_body] 41)) = w0 at *
  clear hW0
  refine (hok _ ((hrr.below k0).more k0.size) ((hrs.below k0).more k0.size) ((hrt.below k0).more k0.size)).mono ?_
  rintro e w1 ⟨rfl, hb⟩
  have k1 : Below w.heap.size w w1 := ext_step k0 (by omega) hb
  have p1 := hb.size
  replace hk0 := hk0.ext hb
  replace hk1 := hk1.ext hb
  have bl0 := Nat.lt_of_lt_of_le bl0 hb.size
  have bl1 := Nat.lt_of_lt_of_le bl1 hb.size
  clear hb
  have bx1_0 := hk1.at_ 0 _ rfl
  have bx1_1 := hk1.at_ 1 _ rfl
  have bx1_2 := hk1.at_ 2 _ rfl
  have bx1_3 := hk1.at_ 3 _ rfl
  have bx1_4 := hk1.at_ 4 _ rfl
  have bx1_5 := hk1.at_ 5 _ rfl
  have bx1_6 := hk1.at_ 6 _ rfl
  have bx1_7 := hk1.at_ 7 _ rfl
  have bx1_8 := hk1.at_ 8 _ rfl
  have bx1_9 := hk1.at_ 9 _ rfl
  have bx1_10 := hk1.at_ 10 _ rfl
  have bx1_11 := hk1.at_ 11 _ rfl
  have bx1_12 := hk1.at_ 12 _ rfl
  have bx1_13 := hk1.at_ 13 _ rfl
  have bx1_14 := hk1.at_ 14 _ rfl
  have bx1_15 := hk1.at_ 15 _ rfl
  go_wp2_with fail
  refine (hsu _).mono ?_
  rintro e w2 ⟨rfl, hb⟩
  have k2 : Below w.heap.size w w2 := ext_step k1 (by omega) hb
  have p2 := hb.size
  replace hk0 := hk0.ext hb
  replace hk1 := hk1.ext hb
  clear bx1_0 bx1_1 bx1_2 bx1_3 bx1_4 bx1_5 bx1_6 bx1_7 bx1_8 bx1_9 bx1_10 bx1_11 bx1_12 bx1_13 bx1_14 bx1_15
  have bl0 := Nat.lt_of_lt_of_le bl0 hb.size
  have bl1 := Nat.lt_of_lt_of_le bl1 hb.size
  clear hb
  go_wp2
  go_ret
  exact ⟨rfl, k2⟩
set_option maxRecDepth 100000 in
set_option maxHeartbeats 4000000 in
theorem specSP_rd (w : World) {Ar : Option Addr} {nr cr : Nat} {rs : List Rule} {As : Option Addr} {ns cs : Nat} {l : List Slot} {key : ByteArray} {At : Option Addr} {nt ct : Nat} {tb : List Int} {q : Int} {p : Packet} (hrr : Reads w w.heap.size 9 Ar nr (rs.flatMap Rule.cells)) (hrs : Reads w w.heap.size 7 As ns (l.flatMap Slot.cells)) (hrt : Reads w w.heap.size 1 At nt (tb.flatMap fun x : Int => [Value.int .i64 x])) {j : Nat} {r : Rule} (hnr : rs.length = nr) (hjn : j < nr) (hxr : rs[j]? = some r) (hok : ∀ u : World, Reads u u.heap.size 9 Ar nr (rs.flatMap Rule.cells) → Reads u u.heap.size 7 As ns (l.flatMap Slot.cells) → Reads u u.heap.size 1 At nt (tb.flatMap fun x : Int => [Value.int .i64 x]) → Calls Try.prog 32 #[.agg #[.slice Ar nr cr, .slice As ns cs, .string key, .slice At nt ct], .int .i64 q] u fun e w' => e = .returned (.bool true) ∧ Below u.heap.size u w') (hsu : ∀ u : World, Calls Try.prog 33 #[.agg #[.int .i64 p.dmac, .int .i64 p.smac, .int .i64 p.vlan, .int .i64 p.tos, .int .i64 p.id, .int .i64 p.ttl, .int .i64 p.sip, .int .i64 p.dip, .int .i64 p.seg_kind, .int .i64 p.seg_sport, .int .i64 p.seg_dport, .int .i64 p.seg_seq, .int .i64 p.seg_ack, .int .i64 p.seg_flags, .int .i64 p.seg_win, .string p.seg_body]] u fun e w' => e = .returned (.bool true) ∧ Below u.heap.size u w') (hfr : ∀ u : World, Reads u u.heap.size 9 Ar nr (rs.flatMap Rule.cells) → Calls Try.prog 14 #[.slice Ar nr cr, .agg #[.int .i64 p.dmac, .int .i64 p.smac, .int .i64 p.vlan, .int .i64 p.tos, .int .i64 p.id, .int .i64 p.ttl, .int .i64 p.sip, .int .i64 p.dip, .int .i64 p.seg_kind, .int .i64 p.seg_sport, .int .i64 p.seg_dport, .int .i64 p.seg_seq, .int .i64 p.seg_ack, .int .i64 p.seg_flags, .int .i64 p.seg_win, .string p.seg_body]] u fun e w' => e = .returned (.int .i64 (j : Nat)) ∧ Below u.heap.size u w') (ha : (r.action == 1) = true) :
    Calls Try.prog 15 #[.agg #[.slice Ar nr cr, .slice As ns cs, .string key, .slice At nt ct], .int .i64 q, .agg #[.int .i64 p.dmac, .int .i64 p.smac, .int .i64 p.vlan, .int .i64 p.tos, .int .i64 p.id, .int .i64 p.ttl, .int .i64 p.sip, .int .i64 p.dip, .int .i64 p.seg_kind, .int .i64 p.seg_sport, .int .i64 p.seg_dport, .int .i64 p.seg_seq, .int .i64 p.seg_ack, .int .i64 p.seg_flags, .int .i64 p.seg_win, .string p.seg_body]] w fun e w' => e = .returned (.int .i64 (-1)) ∧ Below w.heap.size w w' := by
  go_enter Try.func15, Try.ntmps15
  go_wp2_with fail
  have k0 : Below w.heap.size w ((w.alloc (.cells #[.slice Ar nr cr, .slice As ns cs, .string key, .slice At nt ct] 32)).alloc (.cells #[.int .i64 p.dmac, .int .i64 p.smac, .int .i64 p.vlan, .int .i64 p.tos, .int .i64 p.id, .int .i64 p.ttl, .int .i64 p.sip, .int .i64 p.dip, .int .i64 p.seg_kind, .int .i64 p.seg_sport, .int .i64 p.seg_dport, .int .i64 p.seg_seq, .int .i64 p.seg_ack, .int .i64 p.seg_flags, .int .i64 p.seg_win, .string p.seg_body] 41)) := by go_grown
  have bl0 : w.heap.size < ((w.alloc (.cells #[.slice Ar nr cr, .slice As ns cs, .string key, .slice At nt ct] 32)).alloc (.cells #[.int .i64 p.dmac, .int .i64 p.smac, .int .i64 p.vlan, .int .i64 p.tos, .int .i64 p.id, .int .i64 p.ttl, .int .i64 p.sip, .int .i64 p.dip, .int .i64 p.seg_kind, .int .i64 p.seg_sport, .int .i64 p.seg_dport, .int .i64 p.seg_seq, .int .i64 p.seg_ack, .int .i64 p.seg_flags, .int .i64 p.seg_win, .string p.seg_body] 41)).heap.size := by go_size
  have hk0 : Blk ((w.alloc (.cells #[.slice Ar nr cr, .slice As ns cs, .string key, .slice At nt ct] 32)).alloc (.cells #[.int .i64 p.dmac, .int .i64 p.smac, .int .i64 p.vlan, .int .i64 p.tos, .int .i64 p.id, .int .i64 p.ttl, .int .i64 p.sip, .int .i64 p.dip, .int .i64 p.seg_kind, .int .i64 p.seg_sport, .int .i64 p.seg_dport, .int .i64 p.seg_seq, .int .i64 p.seg_ack, .int .i64 p.seg_flags, .int .i64 p.seg_win, .string p.seg_body] 41)) (w.heap.size) 32 [.slice Ar nr cr, .slice As ns cs, .string key, .slice At nt ct] := by simpa using (Blk.new w 32 [.slice Ar nr cr, .slice As ns cs, .string key, .slice At nt ct]).alloc (.cells #[.int .i64 p.dmac, .int .i64 p.smac, .int .i64 p.vlan, .int .i64 p.tos, .int .i64 p.id, .int .i64 p.ttl, .int .i64 p.sip, .int .i64 p.dip, .int .i64 p.seg_kind, .int .i64 p.seg_sport, .int .i64 p.seg_dport, .int .i64 p.seg_seq, .int .i64 p.seg_ack, .int .i64 p.seg_flags, .int .i64 p.seg_win, .string p.seg_body] 41)
  have bl1 : w.heap.size + 1 < ((w.alloc (.cells #[.slice Ar nr cr, .slice As ns cs, .string key, .slice At nt ct] 32)).alloc (.cells #[.int .i64 p.dmac, .int .i64 p.smac, .int .i64 p.vlan, .int .i64 p.tos, .int .i64 p.id, .int .i64 p.ttl, .int .i64 p.sip, .int .i64 p.dip, .int .i64 p.seg_kind, .int .i64 p.seg_sport, .int .i64 p.seg_dport, .int .i64 p.seg_seq, .int .i64 p.seg_ack, .int .i64 p.seg_flags, .int .i64 p.seg_win, .string p.seg_body] 41)).heap.size := by go_size
  have hk1 : Blk ((w.alloc (.cells #[.slice Ar nr cr, .slice As ns cs, .string key, .slice At nt ct] 32)).alloc (.cells #[.int .i64 p.dmac, .int .i64 p.smac, .int .i64 p.vlan, .int .i64 p.tos, .int .i64 p.id, .int .i64 p.ttl, .int .i64 p.sip, .int .i64 p.dip, .int .i64 p.seg_kind, .int .i64 p.seg_sport, .int .i64 p.seg_dport, .int .i64 p.seg_seq, .int .i64 p.seg_ack, .int .i64 p.seg_flags, .int .i64 p.seg_win, .string p.seg_body] 41)) (w.heap.size + 1) 41 [.int .i64 p.dmac, .int .i64 p.smac, .int .i64 p.vlan, .int .i64 p.tos, .int .i64 p.id, .int .i64 p.ttl, .int .i64 p.sip, .int .i64 p.dip, .int .i64 p.seg_kind, .int .i64 p.seg_sport, .int .i64 p.seg_dport, .int .i64 p.seg_seq, .int .i64 p.seg_ack, .int .i64 p.seg_flags, .int .i64 p.seg_win, .string p.seg_body] := by simpa using Blk.new (w.alloc (.cells #[.slice Ar nr cr, .slice As ns cs, .string key, .slice At nt ct] 32)) 41 [.int .i64 p.dmac, .int .i64 p.smac, .int .i64 p.vlan, .int .i64 p.tos, .int .i64 p.id, .int .i64 p.ttl, .int .i64 p.sip, .int .i64 p.dip, .int .i64 p.seg_kind, .int .i64 p.seg_sport, .int .i64 p.seg_dport, .int .i64 p.seg_seq, .int .i64 p.seg_ack, .int .i64 p.seg_flags, .int .i64 p.seg_win, .string p.seg_body]
  have p0 := k0.size
  generalize hW0 : ((w.alloc (.cells #[.slice Ar nr cr, .slice As ns cs, .string key, .slice At nt ct] 32)).alloc (.cells #[.int .i64 p.dmac, .int .i64 p.smac, .int .i64 p.vlan, .int .i64 p.tos, .int .i64 p.id, .int .i64 p.ttl, .int .i64 p.sip, .int .i64 p.dip, .int .i64 p.seg_kind, .int .i64 p.seg_sport, .int .i64 p.seg_dport, .int .i64 p.seg_seq, .int .i64 p.seg_ack, .int .i64 p.seg_flags, .int .i64 p.seg_win, .string p.seg_body] 41)) = w0 at *
  clear hW0
  refine (hok _ ((hrr.below k0).more k0.size) ((hrs.below k0).more k0.size) ((hrt.below k0).more k0.size)).mono ?_
  rintro e w1 ⟨rfl, hb⟩
  have k1 : Below w.heap.size w w1 := ext_step k0 (by omega) hb
  have p1 := hb.size
  replace hk0 := hk0.ext hb
  replace hk1 := hk1.ext hb
  have bl0 := Nat.lt_of_lt_of_le bl0 hb.size
  have bl1 := Nat.lt_of_lt_of_le bl1 hb.size
  clear hb
  have bx1_0 := hk1.at_ 0 _ rfl
  have bx1_1 := hk1.at_ 1 _ rfl
  have bx1_2 := hk1.at_ 2 _ rfl
  have bx1_3 := hk1.at_ 3 _ rfl
  have bx1_4 := hk1.at_ 4 _ rfl
  have bx1_5 := hk1.at_ 5 _ rfl
  have bx1_6 := hk1.at_ 6 _ rfl
  have bx1_7 := hk1.at_ 7 _ rfl
  have bx1_8 := hk1.at_ 8 _ rfl
  have bx1_9 := hk1.at_ 9 _ rfl
  have bx1_10 := hk1.at_ 10 _ rfl
  have bx1_11 := hk1.at_ 11 _ rfl
  have bx1_12 := hk1.at_ 12 _ rfl
  have bx1_13 := hk1.at_ 13 _ rfl
  have bx1_14 := hk1.at_ 14 _ rfl
  have bx1_15 := hk1.at_ 15 _ rfl
  go_wp2_with fail
  refine (hsu _).mono ?_
  rintro e w2 ⟨rfl, hb⟩
  have k2 : Below w.heap.size w w2 := ext_step k1 (by omega) hb
  have p2 := hb.size
  replace hk0 := hk0.ext hb
  replace hk1 := hk1.ext hb
  clear bx1_0 bx1_1 bx1_2 bx1_3 bx1_4 bx1_5 bx1_6 bx1_7 bx1_8 bx1_9 bx1_10 bx1_11 bx1_12 bx1_13 bx1_14 bx1_15
  have bl0 := Nat.lt_of_lt_of_le bl0 hb.size
  have bl1 := Nat.lt_of_lt_of_le bl1 hb.size
  clear hb
  have bx0_0 := hk0.at_ 0 _ rfl
  have bx1_0 := hk1.at_ 0 _ rfl
  have bx1_1 := hk1.at_ 1 _ rfl
  have bx1_2 := hk1.at_ 2 _ rfl
  have bx1_3 := hk1.at_ 3 _ rfl
  have bx1_4 := hk1.at_ 4 _ rfl
  have bx1_5 := hk1.at_ 5 _ rfl
  have bx1_6 := hk1.at_ 6 _ rfl
  have bx1_7 := hk1.at_ 7 _ rfl
  have bx1_8 := hk1.at_ 8 _ rfl
  have bx1_9 := hk1.at_ 9 _ rfl
  have bx1_10 := hk1.at_ 10 _ rfl
  have bx1_11 := hk1.at_ 11 _ rfl
  have bx1_12 := hk1.at_ 12 _ rfl
  have bx1_13 := hk1.at_ 13 _ rfl
  have bx1_14 := hk1.at_ 14 _ rfl
  have bx1_15 := hk1.at_ 15 _ rfl
  go_wp2_with fail
  refine (hfr _ ((hrr.below k2).more k2.size)).mono ?_
  rintro e w3 ⟨rfl, hb⟩
  have k3 : Below w.heap.size w w3 := ext_step k2 (by omega) hb
  have p3 := hb.size
  replace hk0 := hk0.ext hb
  replace hk1 := hk1.ext hb
  clear bx0_0 bx1_0 bx1_1 bx1_2 bx1_3 bx1_4 bx1_5 bx1_6 bx1_7 bx1_8 bx1_9 bx1_10 bx1_11 bx1_12 bx1_13 bx1_14 bx1_15
  have bl0 := Nat.lt_of_lt_of_le bl0 hb.size
  have bl1 := Nat.lt_of_lt_of_le bl1 hb.size
  clear hb
  have bx0_0 := hk0.at_ 0 _ rfl
  obtain ⟨b, o, x, rfl, hbl, hxx, hcx⟩ := hrr.el (fun _ => rfl) (by decide) hnr hjn
  have c7 := (k3.cell (p := ⟨b, o + j * 9 + 7, none⟩) hbl).trans (by simpa using hcx 7 _ rfl)
  have c8 := (k3.cell (p := ⟨b, o + j * 9 + 8, none⟩) hbl).trans (by simpa using hcx 8 _ rfl)
  obtain rfl : x = r := by rw [hxr] at hxx; injection hxx with h; exact h.symm
  clear hcx hxx hxr
  go_wp2
  go_ret
  exact ⟨rfl, k3⟩
set_option maxRecDepth 100000 in
set_option maxHeartbeats 4000000 in
theorem specSP_rq (w : World) {Ar : Option Addr} {nr cr : Nat} {rs : List Rule} {As : Option Addr} {ns cs : Nat} {l : List Slot} {key : ByteArray} {At : Option Addr} {nt ct : Nat} {tb : List Int} {q : Int} {p : Packet} (hrr : Reads w w.heap.size 9 Ar nr (rs.flatMap Rule.cells)) (hrs : Reads w w.heap.size 7 As ns (l.flatMap Slot.cells)) (hrt : Reads w w.heap.size 1 At nt (tb.flatMap fun x : Int => [Value.int .i64 x])) {j : Nat} {r : Rule} (hnr : rs.length = nr) (hjn : j < nr) (hxr : rs[j]? = some r) (hok : ∀ u : World, Reads u u.heap.size 9 Ar nr (rs.flatMap Rule.cells) → Reads u u.heap.size 7 As ns (l.flatMap Slot.cells) → Reads u u.heap.size 1 At nt (tb.flatMap fun x : Int => [Value.int .i64 x]) → Calls Try.prog 32 #[.agg #[.slice Ar nr cr, .slice As ns cs, .string key, .slice At nt ct], .int .i64 q] u fun e w' => e = .returned (.bool true) ∧ Below u.heap.size u w') (hsu : ∀ u : World, Calls Try.prog 33 #[.agg #[.int .i64 p.dmac, .int .i64 p.smac, .int .i64 p.vlan, .int .i64 p.tos, .int .i64 p.id, .int .i64 p.ttl, .int .i64 p.sip, .int .i64 p.dip, .int .i64 p.seg_kind, .int .i64 p.seg_sport, .int .i64 p.seg_dport, .int .i64 p.seg_seq, .int .i64 p.seg_ack, .int .i64 p.seg_flags, .int .i64 p.seg_win, .string p.seg_body]] u fun e w' => e = .returned (.bool true) ∧ Below u.heap.size u w') (hfr : ∀ u : World, Reads u u.heap.size 9 Ar nr (rs.flatMap Rule.cells) → Calls Try.prog 14 #[.slice Ar nr cr, .agg #[.int .i64 p.dmac, .int .i64 p.smac, .int .i64 p.vlan, .int .i64 p.tos, .int .i64 p.id, .int .i64 p.ttl, .int .i64 p.sip, .int .i64 p.dip, .int .i64 p.seg_kind, .int .i64 p.seg_sport, .int .i64 p.seg_dport, .int .i64 p.seg_seq, .int .i64 p.seg_ack, .int .i64 p.seg_flags, .int .i64 p.seg_win, .string p.seg_body]] u fun e w' => e = .returned (.int .i64 (j : Nat)) ∧ Below u.heap.size u w') (ha : (r.action == 1) = false) :
    Calls Try.prog 15 #[.agg #[.slice Ar nr cr, .slice As ns cs, .string key, .slice At nt ct], .int .i64 q, .agg #[.int .i64 p.dmac, .int .i64 p.smac, .int .i64 p.vlan, .int .i64 p.tos, .int .i64 p.id, .int .i64 p.ttl, .int .i64 p.sip, .int .i64 p.dip, .int .i64 p.seg_kind, .int .i64 p.seg_sport, .int .i64 p.seg_dport, .int .i64 p.seg_seq, .int .i64 p.seg_ack, .int .i64 p.seg_flags, .int .i64 p.seg_win, .string p.seg_body]] w fun e w' => e = .returned (.int .i64 r.queue) ∧ Below w.heap.size w w' := by
  go_enter Try.func15, Try.ntmps15
  go_wp2_with fail
  have k0 : Below w.heap.size w ((w.alloc (.cells #[.slice Ar nr cr, .slice As ns cs, .string key, .slice At nt ct] 32)).alloc (.cells #[.int .i64 p.dmac, .int .i64 p.smac, .int .i64 p.vlan, .int .i64 p.tos, .int .i64 p.id, .int .i64 p.ttl, .int .i64 p.sip, .int .i64 p.dip, .int .i64 p.seg_kind, .int .i64 p.seg_sport, .int .i64 p.seg_dport, .int .i64 p.seg_seq, .int .i64 p.seg_ack, .int .i64 p.seg_flags, .int .i64 p.seg_win, .string p.seg_body] 41)) := by go_grown
  have bl0 : w.heap.size < ((w.alloc (.cells #[.slice Ar nr cr, .slice As ns cs, .string key, .slice At nt ct] 32)).alloc (.cells #[.int .i64 p.dmac, .int .i64 p.smac, .int .i64 p.vlan, .int .i64 p.tos, .int .i64 p.id, .int .i64 p.ttl, .int .i64 p.sip, .int .i64 p.dip, .int .i64 p.seg_kind, .int .i64 p.seg_sport, .int .i64 p.seg_dport, .int .i64 p.seg_seq, .int .i64 p.seg_ack, .int .i64 p.seg_flags, .int .i64 p.seg_win, .string p.seg_body] 41)).heap.size := by go_size
  have hk0 : Blk ((w.alloc (.cells #[.slice Ar nr cr, .slice As ns cs, .string key, .slice At nt ct] 32)).alloc (.cells #[.int .i64 p.dmac, .int .i64 p.smac, .int .i64 p.vlan, .int .i64 p.tos, .int .i64 p.id, .int .i64 p.ttl, .int .i64 p.sip, .int .i64 p.dip, .int .i64 p.seg_kind, .int .i64 p.seg_sport, .int .i64 p.seg_dport, .int .i64 p.seg_seq, .int .i64 p.seg_ack, .int .i64 p.seg_flags, .int .i64 p.seg_win, .string p.seg_body] 41)) (w.heap.size) 32 [.slice Ar nr cr, .slice As ns cs, .string key, .slice At nt ct] := by simpa using (Blk.new w 32 [.slice Ar nr cr, .slice As ns cs, .string key, .slice At nt ct]).alloc (.cells #[.int .i64 p.dmac, .int .i64 p.smac, .int .i64 p.vlan, .int .i64 p.tos, .int .i64 p.id, .int .i64 p.ttl, .int .i64 p.sip, .int .i64 p.dip, .int .i64 p.seg_kind, .int .i64 p.seg_sport, .int .i64 p.seg_dport, .int .i64 p.seg_seq, .int .i64 p.seg_ack, .int .i64 p.seg_flags, .int .i64 p.seg_win, .string p.seg_body] 41)
  have bl1 : w.heap.size + 1 < ((w.alloc (.cells #[.slice Ar nr cr, .slice As ns cs, .string key, .slice At nt ct] 32)).alloc (.cells #[.int .i64 p.dmac, .int .i64 p.smac, .int .i64 p.vlan, .int .i64 p.tos, .int .i64 p.id, .int .i64 p.ttl, .int .i64 p.sip, .int .i64 p.dip, .int .i64 p.seg_kind, .int .i64 p.seg_sport, .int .i64 p.seg_dport, .int .i64 p.seg_seq, .int .i64 p.seg_ack, .int .i64 p.seg_flags, .int .i64 p.seg_win, .string p.seg_body] 41)).heap.size := by go_size
  have hk1 : Blk ((w.alloc (.cells #[.slice Ar nr cr, .slice As ns cs, .string key, .slice At nt ct] 32)).alloc (.cells #[.int .i64 p.dmac, .int .i64 p.smac, .int .i64 p.vlan, .int .i64 p.tos, .int .i64 p.id, .int .i64 p.ttl, .int .i64 p.sip, .int .i64 p.dip, .int .i64 p.seg_kind, .int .i64 p.seg_sport, .int .i64 p.seg_dport, .int .i64 p.seg_seq, .int .i64 p.seg_ack, .int .i64 p.seg_flags, .int .i64 p.seg_win, .string p.seg_body] 41)) (w.heap.size + 1) 41 [.int .i64 p.dmac, .int .i64 p.smac, .int .i64 p.vlan, .int .i64 p.tos, .int .i64 p.id, .int .i64 p.ttl, .int .i64 p.sip, .int .i64 p.dip, .int .i64 p.seg_kind, .int .i64 p.seg_sport, .int .i64 p.seg_dport, .int .i64 p.seg_seq, .int .i64 p.seg_ack, .int .i64 p.seg_flags, .int .i64 p.seg_win, .string p.seg_body] := by simpa using Blk.new (w.alloc (.cells #[.slice Ar nr cr, .slice As ns cs, .string key, .slice At nt ct] 32)) 41 [.int .i64 p.dmac, .int .i64 p.smac, .int .i64 p.vlan, .int .i64 p.tos, .int .i64 p.id, .int .i64 p.ttl, .int .i64 p.sip, .int .i64 p.dip, .int .i64 p.seg_kind, .int .i64 p.seg_sport, .int .i64 p.seg_dport, .int .i64 p.seg_seq, .int .i64 p.seg_ack, .int .i64 p.seg_flags, .int .i64 p.seg_win, .string p.seg_body]
  have p0 := k0.size
  generalize hW0 : ((w.alloc (.cells #[.slice Ar nr cr, .slice As ns cs, .string key, .slice At nt ct] 32)).alloc (.cells #[.int .i64 p.dmac, .int .i64 p.smac, .int .i64 p.vlan, .int .i64 p.tos, .int .i64 p.id, .int .i64 p.ttl, .int .i64 p.sip, .int .i64 p.dip, .int .i64 p.seg_kind, .int .i64 p.seg_sport, .int .i64 p.seg_dport, .int .i64 p.seg_seq, .int .i64 p.seg_ack, .int .i64 p.seg_flags, .int .i64 p.seg_win, .string p.seg_body] 41)) = w0 at *
  clear hW0
  refine (hok _ ((hrr.below k0).more k0.size) ((hrs.below k0).more k0.size) ((hrt.below k0).more k0.size)).mono ?_
  rintro e w1 ⟨rfl, hb⟩
  have k1 : Below w.heap.size w w1 := ext_step k0 (by omega) hb
  have p1 := hb.size
  replace hk0 := hk0.ext hb
  replace hk1 := hk1.ext hb
  have bl0 := Nat.lt_of_lt_of_le bl0 hb.size
  have bl1 := Nat.lt_of_lt_of_le bl1 hb.size
  clear hb
  have bx1_0 := hk1.at_ 0 _ rfl
  have bx1_1 := hk1.at_ 1 _ rfl
  have bx1_2 := hk1.at_ 2 _ rfl
  have bx1_3 := hk1.at_ 3 _ rfl
  have bx1_4 := hk1.at_ 4 _ rfl
  have bx1_5 := hk1.at_ 5 _ rfl
  have bx1_6 := hk1.at_ 6 _ rfl
  have bx1_7 := hk1.at_ 7 _ rfl
  have bx1_8 := hk1.at_ 8 _ rfl
  have bx1_9 := hk1.at_ 9 _ rfl
  have bx1_10 := hk1.at_ 10 _ rfl
  have bx1_11 := hk1.at_ 11 _ rfl
  have bx1_12 := hk1.at_ 12 _ rfl
  have bx1_13 := hk1.at_ 13 _ rfl
  have bx1_14 := hk1.at_ 14 _ rfl
  have bx1_15 := hk1.at_ 15 _ rfl
  go_wp2_with fail
  refine (hsu _).mono ?_
  rintro e w2 ⟨rfl, hb⟩
  have k2 : Below w.heap.size w w2 := ext_step k1 (by omega) hb
  have p2 := hb.size
  replace hk0 := hk0.ext hb
  replace hk1 := hk1.ext hb
  clear bx1_0 bx1_1 bx1_2 bx1_3 bx1_4 bx1_5 bx1_6 bx1_7 bx1_8 bx1_9 bx1_10 bx1_11 bx1_12 bx1_13 bx1_14 bx1_15
  have bl0 := Nat.lt_of_lt_of_le bl0 hb.size
  have bl1 := Nat.lt_of_lt_of_le bl1 hb.size
  clear hb
  have bx0_0 := hk0.at_ 0 _ rfl
  have bx1_0 := hk1.at_ 0 _ rfl
  have bx1_1 := hk1.at_ 1 _ rfl
  have bx1_2 := hk1.at_ 2 _ rfl
  have bx1_3 := hk1.at_ 3 _ rfl
  have bx1_4 := hk1.at_ 4 _ rfl
  have bx1_5 := hk1.at_ 5 _ rfl
  have bx1_6 := hk1.at_ 6 _ rfl
  have bx1_7 := hk1.at_ 7 _ rfl
  have bx1_8 := hk1.at_ 8 _ rfl
  have bx1_9 := hk1.at_ 9 _ rfl
  have bx1_10 := hk1.at_ 10 _ rfl
  have bx1_11 := hk1.at_ 11 _ rfl
  have bx1_12 := hk1.at_ 12 _ rfl
  have bx1_13 := hk1.at_ 13 _ rfl
  have bx1_14 := hk1.at_ 14 _ rfl
  have bx1_15 := hk1.at_ 15 _ rfl
  go_wp2_with fail
  refine (hfr _ ((hrr.below k2).more k2.size)).mono ?_
  rintro e w3 ⟨rfl, hb⟩
  have k3 : Below w.heap.size w w3 := ext_step k2 (by omega) hb
  have p3 := hb.size
  replace hk0 := hk0.ext hb
  replace hk1 := hk1.ext hb
  clear bx0_0 bx1_0 bx1_1 bx1_2 bx1_3 bx1_4 bx1_5 bx1_6 bx1_7 bx1_8 bx1_9 bx1_10 bx1_11 bx1_12 bx1_13 bx1_14 bx1_15
  have bl0 := Nat.lt_of_lt_of_le bl0 hb.size
  have bl1 := Nat.lt_of_lt_of_le bl1 hb.size
  clear hb
  have bx0_0 := hk0.at_ 0 _ rfl
  obtain ⟨b, o, x, rfl, hbl, hxx, hcx⟩ := hrr.el (fun _ => rfl) (by decide) hnr hjn
  have c7 := (k3.cell (p := ⟨b, o + j * 9 + 7, none⟩) hbl).trans (by simpa using hcx 7 _ rfl)
  have c8 := (k3.cell (p := ⟨b, o + j * 9 + 8, none⟩) hbl).trans (by simpa using hcx 8 _ rfl)
  obtain rfl : x = r := by rw [hxr] at hxx; injection hxx with h; exact h.symm
  clear hcx hxx hxr
  go_wp2
  go_ret
  exact ⟨rfl, k3⟩
set_option maxRecDepth 100000 in
set_option maxHeartbeats 4000000 in
theorem specSP_ff (w : World) {Ar : Option Addr} {nr cr : Nat} {rs : List Rule} {As : Option Addr} {ns cs : Nat} {l : List Slot} {key : ByteArray} {At : Option Addr} {nt ct : Nat} {tb : List Int} {q : Int} {p : Packet} (hrr : Reads w w.heap.size 9 Ar nr (rs.flatMap Rule.cells)) (hrs : Reads w w.heap.size 7 As ns (l.flatMap Slot.cells)) (hrt : Reads w w.heap.size 1 At nt (tb.flatMap fun x : Int => [Value.int .i64 x])) {j : Nat} {r : Slot} (hns : l.length = ns) (hjn : j < ns) (hxr : l[j]? = some r) (hok : ∀ u : World, Reads u u.heap.size 9 Ar nr (rs.flatMap Rule.cells) → Reads u u.heap.size 7 As ns (l.flatMap Slot.cells) → Reads u u.heap.size 1 At nt (tb.flatMap fun x : Int => [Value.int .i64 x]) → Calls Try.prog 32 #[.agg #[.slice Ar nr cr, .slice As ns cs, .string key, .slice At nt ct], .int .i64 q] u fun e w' => e = .returned (.bool true) ∧ Below u.heap.size u w') (hsu : ∀ u : World, Calls Try.prog 33 #[.agg #[.int .i64 p.dmac, .int .i64 p.smac, .int .i64 p.vlan, .int .i64 p.tos, .int .i64 p.id, .int .i64 p.ttl, .int .i64 p.sip, .int .i64 p.dip, .int .i64 p.seg_kind, .int .i64 p.seg_sport, .int .i64 p.seg_dport, .int .i64 p.seg_seq, .int .i64 p.seg_ack, .int .i64 p.seg_flags, .int .i64 p.seg_win, .string p.seg_body]] u fun e w' => e = .returned (.bool true) ∧ Below u.heap.size u w') (hfr : ∀ u : World, Reads u u.heap.size 9 Ar nr (rs.flatMap Rule.cells) → Calls Try.prog 14 #[.slice Ar nr cr, .agg #[.int .i64 p.dmac, .int .i64 p.smac, .int .i64 p.vlan, .int .i64 p.tos, .int .i64 p.id, .int .i64 p.ttl, .int .i64 p.sip, .int .i64 p.dip, .int .i64 p.seg_kind, .int .i64 p.seg_sport, .int .i64 p.seg_dport, .int .i64 p.seg_seq, .int .i64 p.seg_ack, .int .i64 p.seg_flags, .int .i64 p.seg_win, .string p.seg_body]] u fun e w' => e = .returned (.int .i64 (-1)) ∧ Below u.heap.size u w') (hfo : ∀ u : World, Calls Try.prog 10 #[.agg #[.int .i64 p.dmac, .int .i64 p.smac, .int .i64 p.vlan, .int .i64 p.tos, .int .i64 p.id, .int .i64 p.ttl, .int .i64 p.sip, .int .i64 p.dip, .int .i64 p.seg_kind, .int .i64 p.seg_sport, .int .i64 p.seg_dport, .int .i64 p.seg_seq, .int .i64 p.seg_ack, .int .i64 p.seg_flags, .int .i64 p.seg_win, .string p.seg_body]] u fun e w' => e = .returned (.agg #[.int .i64 p.seg_kind, .int .i64 p.sip, .int .i64 p.dip, .int .i64 p.seg_sport, .int .i64 p.seg_dport]) ∧ Below u.heap.size u w') (hff : ∀ u : World, Reads u u.heap.size 7 As ns (l.flatMap Slot.cells) → Calls Try.prog 34 #[.agg #[.slice As ns cs], .agg #[.int .i64 p.seg_kind, .int .i64 p.sip, .int .i64 p.dip, .int .i64 p.seg_sport, .int .i64 p.seg_dport]] u fun e w' => e = .returned (.int .i64 (j : Nat)) ∧ Below u.heap.size u w') :
    Calls Try.prog 15 #[.agg #[.slice Ar nr cr, .slice As ns cs, .string key, .slice At nt ct], .int .i64 q, .agg #[.int .i64 p.dmac, .int .i64 p.smac, .int .i64 p.vlan, .int .i64 p.tos, .int .i64 p.id, .int .i64 p.ttl, .int .i64 p.sip, .int .i64 p.dip, .int .i64 p.seg_kind, .int .i64 p.seg_sport, .int .i64 p.seg_dport, .int .i64 p.seg_seq, .int .i64 p.seg_ack, .int .i64 p.seg_flags, .int .i64 p.seg_win, .string p.seg_body]] w fun e w' => e = .returned (.int .i64 r.queue) ∧ Below w.heap.size w w' := by
  go_enter Try.func15, Try.ntmps15
  go_wp2_with fail
  have k0 : Below w.heap.size w ((w.alloc (.cells #[.slice Ar nr cr, .slice As ns cs, .string key, .slice At nt ct] 32)).alloc (.cells #[.int .i64 p.dmac, .int .i64 p.smac, .int .i64 p.vlan, .int .i64 p.tos, .int .i64 p.id, .int .i64 p.ttl, .int .i64 p.sip, .int .i64 p.dip, .int .i64 p.seg_kind, .int .i64 p.seg_sport, .int .i64 p.seg_dport, .int .i64 p.seg_seq, .int .i64 p.seg_ack, .int .i64 p.seg_flags, .int .i64 p.seg_win, .string p.seg_body] 41)) := by go_grown
  have bl0 : w.heap.size < ((w.alloc (.cells #[.slice Ar nr cr, .slice As ns cs, .string key, .slice At nt ct] 32)).alloc (.cells #[.int .i64 p.dmac, .int .i64 p.smac, .int .i64 p.vlan, .int .i64 p.tos, .int .i64 p.id, .int .i64 p.ttl, .int .i64 p.sip, .int .i64 p.dip, .int .i64 p.seg_kind, .int .i64 p.seg_sport, .int .i64 p.seg_dport, .int .i64 p.seg_seq, .int .i64 p.seg_ack, .int .i64 p.seg_flags, .int .i64 p.seg_win, .string p.seg_body] 41)).heap.size := by go_size
  have hk0 : Blk ((w.alloc (.cells #[.slice Ar nr cr, .slice As ns cs, .string key, .slice At nt ct] 32)).alloc (.cells #[.int .i64 p.dmac, .int .i64 p.smac, .int .i64 p.vlan, .int .i64 p.tos, .int .i64 p.id, .int .i64 p.ttl, .int .i64 p.sip, .int .i64 p.dip, .int .i64 p.seg_kind, .int .i64 p.seg_sport, .int .i64 p.seg_dport, .int .i64 p.seg_seq, .int .i64 p.seg_ack, .int .i64 p.seg_flags, .int .i64 p.seg_win, .string p.seg_body] 41)) (w.heap.size) 32 [.slice Ar nr cr, .slice As ns cs, .string key, .slice At nt ct] := by simpa using (Blk.new w 32 [.slice Ar nr cr, .slice As ns cs, .string key, .slice At nt ct]).alloc (.cells #[.int .i64 p.dmac, .int .i64 p.smac, .int .i64 p.vlan, .int .i64 p.tos, .int .i64 p.id, .int .i64 p.ttl, .int .i64 p.sip, .int .i64 p.dip, .int .i64 p.seg_kind, .int .i64 p.seg_sport, .int .i64 p.seg_dport, .int .i64 p.seg_seq, .int .i64 p.seg_ack, .int .i64 p.seg_flags, .int .i64 p.seg_win, .string p.seg_body] 41)
  have bl1 : w.heap.size + 1 < ((w.alloc (.cells #[.slice Ar nr cr, .slice As ns cs, .string key, .slice At nt ct] 32)).alloc (.cells #[.int .i64 p.dmac, .int .i64 p.smac, .int .i64 p.vlan, .int .i64 p.tos, .int .i64 p.id, .int .i64 p.ttl, .int .i64 p.sip, .int .i64 p.dip, .int .i64 p.seg_kind, .int .i64 p.seg_sport, .int .i64 p.seg_dport, .int .i64 p.seg_seq, .int .i64 p.seg_ack, .int .i64 p.seg_flags, .int .i64 p.seg_win, .string p.seg_body] 41)).heap.size := by go_size
  have hk1 : Blk ((w.alloc (.cells #[.slice Ar nr cr, .slice As ns cs, .string key, .slice At nt ct] 32)).alloc (.cells #[.int .i64 p.dmac, .int .i64 p.smac, .int .i64 p.vlan, .int .i64 p.tos, .int .i64 p.id, .int .i64 p.ttl, .int .i64 p.sip, .int .i64 p.dip, .int .i64 p.seg_kind, .int .i64 p.seg_sport, .int .i64 p.seg_dport, .int .i64 p.seg_seq, .int .i64 p.seg_ack, .int .i64 p.seg_flags, .int .i64 p.seg_win, .string p.seg_body] 41)) (w.heap.size + 1) 41 [.int .i64 p.dmac, .int .i64 p.smac, .int .i64 p.vlan, .int .i64 p.tos, .int .i64 p.id, .int .i64 p.ttl, .int .i64 p.sip, .int .i64 p.dip, .int .i64 p.seg_kind, .int .i64 p.seg_sport, .int .i64 p.seg_dport, .int .i64 p.seg_seq, .int .i64 p.seg_ack, .int .i64 p.seg_flags, .int .i64 p.seg_win, .string p.seg_body] := by simpa using Blk.new (w.alloc (.cells #[.slice Ar nr cr, .slice As ns cs, .string key, .slice At nt ct] 32)) 41 [.int .i64 p.dmac, .int .i64 p.smac, .int .i64 p.vlan, .int .i64 p.tos, .int .i64 p.id, .int .i64 p.ttl, .int .i64 p.sip, .int .i64 p.dip, .int .i64 p.seg_kind, .int .i64 p.seg_sport, .int .i64 p.seg_dport, .int .i64 p.seg_seq, .int .i64 p.seg_ack, .int .i64 p.seg_flags, .int .i64 p.seg_win, .string p.seg_body]
  have p0 := k0.size
  generalize hW0 : ((w.alloc (.cells #[.slice Ar nr cr, .slice As ns cs, .string key, .slice At nt ct] 32)).alloc (.cells #[.int .i64 p.dmac, .int .i64 p.smac, .int .i64 p.vlan, .int .i64 p.tos, .int .i64 p.id, .int .i64 p.ttl, .int .i64 p.sip, .int .i64 p.dip, .int .i64 p.seg_kind, .int .i64 p.seg_sport, .int .i64 p.seg_dport, .int .i64 p.seg_seq, .int .i64 p.seg_ack, .int .i64 p.seg_flags, .int .i64 p.seg_win, .string p.seg_body] 41)) = w0 at *
  clear hW0
  refine (hok _ ((hrr.below k0).more k0.size) ((hrs.below k0).more k0.size) ((hrt.below k0).more k0.size)).mono ?_
  rintro e w1 ⟨rfl, hb⟩
  have k1 : Below w.heap.size w w1 := ext_step k0 (by omega) hb
  have p1 := hb.size
  replace hk0 := hk0.ext hb
  replace hk1 := hk1.ext hb
  have bl0 := Nat.lt_of_lt_of_le bl0 hb.size
  have bl1 := Nat.lt_of_lt_of_le bl1 hb.size
  clear hb
  have bx1_0 := hk1.at_ 0 _ rfl
  have bx1_1 := hk1.at_ 1 _ rfl
  have bx1_2 := hk1.at_ 2 _ rfl
  have bx1_3 := hk1.at_ 3 _ rfl
  have bx1_4 := hk1.at_ 4 _ rfl
  have bx1_5 := hk1.at_ 5 _ rfl
  have bx1_6 := hk1.at_ 6 _ rfl
  have bx1_7 := hk1.at_ 7 _ rfl
  have bx1_8 := hk1.at_ 8 _ rfl
  have bx1_9 := hk1.at_ 9 _ rfl
  have bx1_10 := hk1.at_ 10 _ rfl
  have bx1_11 := hk1.at_ 11 _ rfl
  have bx1_12 := hk1.at_ 12 _ rfl
  have bx1_13 := hk1.at_ 13 _ rfl
  have bx1_14 := hk1.at_ 14 _ rfl
  have bx1_15 := hk1.at_ 15 _ rfl
  go_wp2_with fail
  refine (hsu _).mono ?_
  rintro e w2 ⟨rfl, hb⟩
  have k2 : Below w.heap.size w w2 := ext_step k1 (by omega) hb
  have p2 := hb.size
  replace hk0 := hk0.ext hb
  replace hk1 := hk1.ext hb
  clear bx1_0 bx1_1 bx1_2 bx1_3 bx1_4 bx1_5 bx1_6 bx1_7 bx1_8 bx1_9 bx1_10 bx1_11 bx1_12 bx1_13 bx1_14 bx1_15
  have bl0 := Nat.lt_of_lt_of_le bl0 hb.size
  have bl1 := Nat.lt_of_lt_of_le bl1 hb.size
  clear hb
  have bx0_0 := hk0.at_ 0 _ rfl
  have bx1_0 := hk1.at_ 0 _ rfl
  have bx1_1 := hk1.at_ 1 _ rfl
  have bx1_2 := hk1.at_ 2 _ rfl
  have bx1_3 := hk1.at_ 3 _ rfl
  have bx1_4 := hk1.at_ 4 _ rfl
  have bx1_5 := hk1.at_ 5 _ rfl
  have bx1_6 := hk1.at_ 6 _ rfl
  have bx1_7 := hk1.at_ 7 _ rfl
  have bx1_8 := hk1.at_ 8 _ rfl
  have bx1_9 := hk1.at_ 9 _ rfl
  have bx1_10 := hk1.at_ 10 _ rfl
  have bx1_11 := hk1.at_ 11 _ rfl
  have bx1_12 := hk1.at_ 12 _ rfl
  have bx1_13 := hk1.at_ 13 _ rfl
  have bx1_14 := hk1.at_ 14 _ rfl
  have bx1_15 := hk1.at_ 15 _ rfl
  go_wp2_with fail
  refine (hfr _ ((hrr.below k2).more k2.size)).mono ?_
  rintro e w3 ⟨rfl, hb⟩
  have k3 : Below w.heap.size w w3 := ext_step k2 (by omega) hb
  have p3 := hb.size
  replace hk0 := hk0.ext hb
  replace hk1 := hk1.ext hb
  clear bx0_0 bx1_0 bx1_1 bx1_2 bx1_3 bx1_4 bx1_5 bx1_6 bx1_7 bx1_8 bx1_9 bx1_10 bx1_11 bx1_12 bx1_13 bx1_14 bx1_15
  have bl0 := Nat.lt_of_lt_of_le bl0 hb.size
  have bl1 := Nat.lt_of_lt_of_le bl1 hb.size
  clear hb
  go_upto_region 8 with fail
  have bx0_1 := hk0.at_ 1 _ rfl
  have bx1_0 := hk1.at_ 0 _ rfl
  have bx1_1 := hk1.at_ 1 _ rfl
  have bx1_2 := hk1.at_ 2 _ rfl
  have bx1_3 := hk1.at_ 3 _ rfl
  have bx1_4 := hk1.at_ 4 _ rfl
  have bx1_5 := hk1.at_ 5 _ rfl
  have bx1_6 := hk1.at_ 6 _ rfl
  have bx1_7 := hk1.at_ 7 _ rfl
  have bx1_8 := hk1.at_ 8 _ rfl
  have bx1_9 := hk1.at_ 9 _ rfl
  have bx1_10 := hk1.at_ 10 _ rfl
  have bx1_11 := hk1.at_ 11 _ rfl
  have bx1_12 := hk1.at_ 12 _ rfl
  have bx1_13 := hk1.at_ 13 _ rfl
  have bx1_14 := hk1.at_ 14 _ rfl
  have bx1_15 := hk1.at_ 15 _ rfl
  have hRd := fun t : Ext w3 => Reads.to ((hrs.below k3).more k3.size) t.below
  have hxt := fun t : Ext w3 => (And.intro (t.cell bx0_1) (And.intro (t.cell bx1_0) (And.intro (t.cell bx1_1) (And.intro (t.cell bx1_2) (And.intro (t.cell bx1_3) (And.intro (t.cell bx1_4) (And.intro (t.cell bx1_5) (And.intro (t.cell bx1_6) (And.intro (t.cell bx1_7) (And.intro (t.cell bx1_8) (And.intro (t.cell bx1_9) (And.intro (t.cell bx1_10) (And.intro (t.cell bx1_11) (And.intro (t.cell bx1_12) (And.intro (t.cell bx1_13) (And.intro (t.cell bx1_14) (t.cell bx1_15)))))))))))))))))
  refine wp_region_ext_lit (by kernel_rfl) (by kernel_rfl) ?_
  repeat (go_big_quiet_step (first | (go_at_call 10; exact ext_call (hfo _)) | (go_at_call 34; exact ext_call (hff _ (hRd _)))))
  refine wpQuiet_nil ?_
  intro _ hw'
  obtain ⟨tq, hw''⟩ := hw'
  subst hw''
  have hb := tq.below
  generalize hW0 : tq.wd = w4 at *
  clear hW0 hxt hRd
  have k4 : Below w.heap.size w w4 := ext_step k3 (by omega) hb
  have p4 := hb.size
  replace hk0 := hk0.ext hb
  replace hk1 := hk1.ext hb
  clear bx0_1 bx1_0 bx1_1 bx1_2 bx1_3 bx1_4 bx1_5 bx1_6 bx1_7 bx1_8 bx1_9 bx1_10 bx1_11 bx1_12 bx1_13 bx1_14 bx1_15
  have bl0 := Nat.lt_of_lt_of_le bl0 hb.size
  have bl1 := Nat.lt_of_lt_of_le bl1 hb.size
  clear hb
  have bx0_1 := hk0.at_ 1 _ rfl
  obtain ⟨b, o, x, rfl, hbl, hxx, hcx⟩ := hrs.el (fun _ => rfl) (by decide) hns hjn
  have c6 := (k4.cell (p := ⟨b, o + j * 7 + 6, none⟩) hbl).trans (by simpa using hcx 6 _ rfl)
  obtain rfl : x = r := by rw [hxr] at hxx; injection hxx with h; exact h.symm
  clear hcx hxx hxr
  go_wp2
  go_ret
  exact ⟨rfl, k4⟩
set_option maxRecDepth 100000 in
set_option maxHeartbeats 4000000 in
theorem specSP_sp (w : World) {Ar : Option Addr} {nr cr : Nat} {rs : List Rule} {As : Option Addr} {ns cs : Nat} {l : List Slot} {key : ByteArray} {At : Option Addr} {nt ct : Nat} {tb : List Int} {q : Int} {p : Packet} (hrr : Reads w w.heap.size 9 Ar nr (rs.flatMap Rule.cells)) (hrs : Reads w w.heap.size 7 As ns (l.flatMap Slot.cells)) (hrt : Reads w w.heap.size 1 At nt (tb.flatMap fun x : Int => [Value.int .i64 x])) {T : Int} (hok : ∀ u : World, Reads u u.heap.size 9 Ar nr (rs.flatMap Rule.cells) → Reads u u.heap.size 7 As ns (l.flatMap Slot.cells) → Reads u u.heap.size 1 At nt (tb.flatMap fun x : Int => [Value.int .i64 x]) → Calls Try.prog 32 #[.agg #[.slice Ar nr cr, .slice As ns cs, .string key, .slice At nt ct], .int .i64 q] u fun e w' => e = .returned (.bool true) ∧ Below u.heap.size u w') (hsu : ∀ u : World, Calls Try.prog 33 #[.agg #[.int .i64 p.dmac, .int .i64 p.smac, .int .i64 p.vlan, .int .i64 p.tos, .int .i64 p.id, .int .i64 p.ttl, .int .i64 p.sip, .int .i64 p.dip, .int .i64 p.seg_kind, .int .i64 p.seg_sport, .int .i64 p.seg_dport, .int .i64 p.seg_seq, .int .i64 p.seg_ack, .int .i64 p.seg_flags, .int .i64 p.seg_win, .string p.seg_body]] u fun e w' => e = .returned (.bool true) ∧ Below u.heap.size u w') (hfr : ∀ u : World, Reads u u.heap.size 9 Ar nr (rs.flatMap Rule.cells) → Calls Try.prog 14 #[.slice Ar nr cr, .agg #[.int .i64 p.dmac, .int .i64 p.smac, .int .i64 p.vlan, .int .i64 p.tos, .int .i64 p.id, .int .i64 p.ttl, .int .i64 p.sip, .int .i64 p.dip, .int .i64 p.seg_kind, .int .i64 p.seg_sport, .int .i64 p.seg_dport, .int .i64 p.seg_seq, .int .i64 p.seg_ack, .int .i64 p.seg_flags, .int .i64 p.seg_win, .string p.seg_body]] u fun e w' => e = .returned (.int .i64 (-1)) ∧ Below u.heap.size u w') (hfo : ∀ u : World, Calls Try.prog 10 #[.agg #[.int .i64 p.dmac, .int .i64 p.smac, .int .i64 p.vlan, .int .i64 p.tos, .int .i64 p.id, .int .i64 p.ttl, .int .i64 p.sip, .int .i64 p.dip, .int .i64 p.seg_kind, .int .i64 p.seg_sport, .int .i64 p.seg_dport, .int .i64 p.seg_seq, .int .i64 p.seg_ack, .int .i64 p.seg_flags, .int .i64 p.seg_win, .string p.seg_body]] u fun e w' => e = .returned (.agg #[.int .i64 p.seg_kind, .int .i64 p.sip, .int .i64 p.dip, .int .i64 p.seg_sport, .int .i64 p.seg_dport]) ∧ Below u.heap.size u w') (hff : ∀ u : World, Reads u u.heap.size 7 As ns (l.flatMap Slot.cells) → Calls Try.prog 34 #[.agg #[.slice As ns cs], .agg #[.int .i64 p.seg_kind, .int .i64 p.sip, .int .i64 p.dip, .int .i64 p.seg_sport, .int .i64 p.seg_dport]] u fun e w' => e = .returned (.int .i64 (-1)) ∧ Below u.heap.size u w') (hsq : ∀ u : World, Reads u u.heap.size 1 At nt (tb.flatMap fun x : Int => [Value.int .i64 x]) → Calls Try.prog 35 #[.agg #[.string key, .slice At nt ct], .int .i64 q, .agg #[.int .i64 p.seg_kind, .int .i64 p.sip, .int .i64 p.dip, .int .i64 p.seg_sport, .int .i64 p.seg_dport]] u fun e w' => e = .returned (.int .i64 T) ∧ Below u.heap.size u w') :
    Calls Try.prog 15 #[.agg #[.slice Ar nr cr, .slice As ns cs, .string key, .slice At nt ct], .int .i64 q, .agg #[.int .i64 p.dmac, .int .i64 p.smac, .int .i64 p.vlan, .int .i64 p.tos, .int .i64 p.id, .int .i64 p.ttl, .int .i64 p.sip, .int .i64 p.dip, .int .i64 p.seg_kind, .int .i64 p.seg_sport, .int .i64 p.seg_dport, .int .i64 p.seg_seq, .int .i64 p.seg_ack, .int .i64 p.seg_flags, .int .i64 p.seg_win, .string p.seg_body]] w fun e w' => e = .returned (.int .i64 T) ∧ Below w.heap.size w w' := by
  go_enter Try.func15, Try.ntmps15
  go_wp2_with fail
  have k0 : Below w.heap.size w ((w.alloc (.cells #[.slice Ar nr cr, .slice As ns cs, .string key, .slice At nt ct] 32)).alloc (.cells #[.int .i64 p.dmac, .int .i64 p.smac, .int .i64 p.vlan, .int .i64 p.tos, .int .i64 p.id, .int .i64 p.ttl, .int .i64 p.sip, .int .i64 p.dip, .int .i64 p.seg_kind, .int .i64 p.seg_sport, .int .i64 p.seg_dport, .int .i64 p.seg_seq, .int .i64 p.seg_ack, .int .i64 p.seg_flags, .int .i64 p.seg_win, .string p.seg_body] 41)) := by go_grown
  have bl0 : w.heap.size < ((w.alloc (.cells #[.slice Ar nr cr, .slice As ns cs, .string key, .slice At nt ct] 32)).alloc (.cells #[.int .i64 p.dmac, .int .i64 p.smac, .int .i64 p.vlan, .int .i64 p.tos, .int .i64 p.id, .int .i64 p.ttl, .int .i64 p.sip, .int .i64 p.dip, .int .i64 p.seg_kind, .int .i64 p.seg_sport, .int .i64 p.seg_dport, .int .i64 p.seg_seq, .int .i64 p.seg_ack, .int .i64 p.seg_flags, .int .i64 p.seg_win, .string p.seg_body] 41)).heap.size := by go_size
  have hk0 : Blk ((w.alloc (.cells #[.slice Ar nr cr, .slice As ns cs, .string key, .slice At nt ct] 32)).alloc (.cells #[.int .i64 p.dmac, .int .i64 p.smac, .int .i64 p.vlan, .int .i64 p.tos, .int .i64 p.id, .int .i64 p.ttl, .int .i64 p.sip, .int .i64 p.dip, .int .i64 p.seg_kind, .int .i64 p.seg_sport, .int .i64 p.seg_dport, .int .i64 p.seg_seq, .int .i64 p.seg_ack, .int .i64 p.seg_flags, .int .i64 p.seg_win, .string p.seg_body] 41)) (w.heap.size) 32 [.slice Ar nr cr, .slice As ns cs, .string key, .slice At nt ct] := by simpa using (Blk.new w 32 [.slice Ar nr cr, .slice As ns cs, .string key, .slice At nt ct]).alloc (.cells #[.int .i64 p.dmac, .int .i64 p.smac, .int .i64 p.vlan, .int .i64 p.tos, .int .i64 p.id, .int .i64 p.ttl, .int .i64 p.sip, .int .i64 p.dip, .int .i64 p.seg_kind, .int .i64 p.seg_sport, .int .i64 p.seg_dport, .int .i64 p.seg_seq, .int .i64 p.seg_ack, .int .i64 p.seg_flags, .int .i64 p.seg_win, .string p.seg_body] 41)
  have bl1 : w.heap.size + 1 < ((w.alloc (.cells #[.slice Ar nr cr, .slice As ns cs, .string key, .slice At nt ct] 32)).alloc (.cells #[.int .i64 p.dmac, .int .i64 p.smac, .int .i64 p.vlan, .int .i64 p.tos, .int .i64 p.id, .int .i64 p.ttl, .int .i64 p.sip, .int .i64 p.dip, .int .i64 p.seg_kind, .int .i64 p.seg_sport, .int .i64 p.seg_dport, .int .i64 p.seg_seq, .int .i64 p.seg_ack, .int .i64 p.seg_flags, .int .i64 p.seg_win, .string p.seg_body] 41)).heap.size := by go_size
  have hk1 : Blk ((w.alloc (.cells #[.slice Ar nr cr, .slice As ns cs, .string key, .slice At nt ct] 32)).alloc (.cells #[.int .i64 p.dmac, .int .i64 p.smac, .int .i64 p.vlan, .int .i64 p.tos, .int .i64 p.id, .int .i64 p.ttl, .int .i64 p.sip, .int .i64 p.dip, .int .i64 p.seg_kind, .int .i64 p.seg_sport, .int .i64 p.seg_dport, .int .i64 p.seg_seq, .int .i64 p.seg_ack, .int .i64 p.seg_flags, .int .i64 p.seg_win, .string p.seg_body] 41)) (w.heap.size + 1) 41 [.int .i64 p.dmac, .int .i64 p.smac, .int .i64 p.vlan, .int .i64 p.tos, .int .i64 p.id, .int .i64 p.ttl, .int .i64 p.sip, .int .i64 p.dip, .int .i64 p.seg_kind, .int .i64 p.seg_sport, .int .i64 p.seg_dport, .int .i64 p.seg_seq, .int .i64 p.seg_ack, .int .i64 p.seg_flags, .int .i64 p.seg_win, .string p.seg_body] := by simpa using Blk.new (w.alloc (.cells #[.slice Ar nr cr, .slice As ns cs, .string key, .slice At nt ct] 32)) 41 [.int .i64 p.dmac, .int .i64 p.smac, .int .i64 p.vlan, .int .i64 p.tos, .int .i64 p.id, .int .i64 p.ttl, .int .i64 p.sip, .int .i64 p.dip, .int .i64 p.seg_kind, .int .i64 p.seg_sport, .int .i64 p.seg_dport, .int .i64 p.seg_seq, .int .i64 p.seg_ack, .int .i64 p.seg_flags, .int .i64 p.seg_win, .string p.seg_body]
  have p0 := k0.size
  generalize hW0 : ((w.alloc (.cells #[.slice Ar nr cr, .slice As ns cs, .string key, .slice At nt ct] 32)).alloc (.cells #[.int .i64 p.dmac, .int .i64 p.smac, .int .i64 p.vlan, .int .i64 p.tos, .int .i64 p.id, .int .i64 p.ttl, .int .i64 p.sip, .int .i64 p.dip, .int .i64 p.seg_kind, .int .i64 p.seg_sport, .int .i64 p.seg_dport, .int .i64 p.seg_seq, .int .i64 p.seg_ack, .int .i64 p.seg_flags, .int .i64 p.seg_win, .string p.seg_body] 41)) = w0 at *
  clear hW0
  refine (hok _ ((hrr.below k0).more k0.size) ((hrs.below k0).more k0.size) ((hrt.below k0).more k0.size)).mono ?_
  rintro e w1 ⟨rfl, hb⟩
  have k1 : Below w.heap.size w w1 := ext_step k0 (by omega) hb
  have p1 := hb.size
  replace hk0 := hk0.ext hb
  replace hk1 := hk1.ext hb
  have bl0 := Nat.lt_of_lt_of_le bl0 hb.size
  have bl1 := Nat.lt_of_lt_of_le bl1 hb.size
  clear hb
  have bx1_0 := hk1.at_ 0 _ rfl
  have bx1_1 := hk1.at_ 1 _ rfl
  have bx1_2 := hk1.at_ 2 _ rfl
  have bx1_3 := hk1.at_ 3 _ rfl
  have bx1_4 := hk1.at_ 4 _ rfl
  have bx1_5 := hk1.at_ 5 _ rfl
  have bx1_6 := hk1.at_ 6 _ rfl
  have bx1_7 := hk1.at_ 7 _ rfl
  have bx1_8 := hk1.at_ 8 _ rfl
  have bx1_9 := hk1.at_ 9 _ rfl
  have bx1_10 := hk1.at_ 10 _ rfl
  have bx1_11 := hk1.at_ 11 _ rfl
  have bx1_12 := hk1.at_ 12 _ rfl
  have bx1_13 := hk1.at_ 13 _ rfl
  have bx1_14 := hk1.at_ 14 _ rfl
  have bx1_15 := hk1.at_ 15 _ rfl
  go_wp2_with fail
  refine (hsu _).mono ?_
  rintro e w2 ⟨rfl, hb⟩
  have k2 : Below w.heap.size w w2 := ext_step k1 (by omega) hb
  have p2 := hb.size
  replace hk0 := hk0.ext hb
  replace hk1 := hk1.ext hb
  clear bx1_0 bx1_1 bx1_2 bx1_3 bx1_4 bx1_5 bx1_6 bx1_7 bx1_8 bx1_9 bx1_10 bx1_11 bx1_12 bx1_13 bx1_14 bx1_15
  have bl0 := Nat.lt_of_lt_of_le bl0 hb.size
  have bl1 := Nat.lt_of_lt_of_le bl1 hb.size
  clear hb
  have bx0_0 := hk0.at_ 0 _ rfl
  have bx1_0 := hk1.at_ 0 _ rfl
  have bx1_1 := hk1.at_ 1 _ rfl
  have bx1_2 := hk1.at_ 2 _ rfl
  have bx1_3 := hk1.at_ 3 _ rfl
  have bx1_4 := hk1.at_ 4 _ rfl
  have bx1_5 := hk1.at_ 5 _ rfl
  have bx1_6 := hk1.at_ 6 _ rfl
  have bx1_7 := hk1.at_ 7 _ rfl
  have bx1_8 := hk1.at_ 8 _ rfl
  have bx1_9 := hk1.at_ 9 _ rfl
  have bx1_10 := hk1.at_ 10 _ rfl
  have bx1_11 := hk1.at_ 11 _ rfl
  have bx1_12 := hk1.at_ 12 _ rfl
  have bx1_13 := hk1.at_ 13 _ rfl
  have bx1_14 := hk1.at_ 14 _ rfl
  have bx1_15 := hk1.at_ 15 _ rfl
  go_wp2_with fail
  refine (hfr _ ((hrr.below k2).more k2.size)).mono ?_
  rintro e w3 ⟨rfl, hb⟩
  have k3 : Below w.heap.size w w3 := ext_step k2 (by omega) hb
  have p3 := hb.size
  replace hk0 := hk0.ext hb
  replace hk1 := hk1.ext hb
  clear bx0_0 bx1_0 bx1_1 bx1_2 bx1_3 bx1_4 bx1_5 bx1_6 bx1_7 bx1_8 bx1_9 bx1_10 bx1_11 bx1_12 bx1_13 bx1_14 bx1_15
  have bl0 := Nat.lt_of_lt_of_le bl0 hb.size
  have bl1 := Nat.lt_of_lt_of_le bl1 hb.size
  clear hb
  go_upto_region 8 with fail
  have bx0_1 := hk0.at_ 1 _ rfl
  have bx1_0 := hk1.at_ 0 _ rfl
  have bx1_1 := hk1.at_ 1 _ rfl
  have bx1_2 := hk1.at_ 2 _ rfl
  have bx1_3 := hk1.at_ 3 _ rfl
  have bx1_4 := hk1.at_ 4 _ rfl
  have bx1_5 := hk1.at_ 5 _ rfl
  have bx1_6 := hk1.at_ 6 _ rfl
  have bx1_7 := hk1.at_ 7 _ rfl
  have bx1_8 := hk1.at_ 8 _ rfl
  have bx1_9 := hk1.at_ 9 _ rfl
  have bx1_10 := hk1.at_ 10 _ rfl
  have bx1_11 := hk1.at_ 11 _ rfl
  have bx1_12 := hk1.at_ 12 _ rfl
  have bx1_13 := hk1.at_ 13 _ rfl
  have bx1_14 := hk1.at_ 14 _ rfl
  have bx1_15 := hk1.at_ 15 _ rfl
  have hRd := fun t : Ext w3 => Reads.to ((hrs.below k3).more k3.size) t.below
  have hxt := fun t : Ext w3 => (And.intro (t.cell bx0_1) (And.intro (t.cell bx1_0) (And.intro (t.cell bx1_1) (And.intro (t.cell bx1_2) (And.intro (t.cell bx1_3) (And.intro (t.cell bx1_4) (And.intro (t.cell bx1_5) (And.intro (t.cell bx1_6) (And.intro (t.cell bx1_7) (And.intro (t.cell bx1_8) (And.intro (t.cell bx1_9) (And.intro (t.cell bx1_10) (And.intro (t.cell bx1_11) (And.intro (t.cell bx1_12) (And.intro (t.cell bx1_13) (And.intro (t.cell bx1_14) (t.cell bx1_15)))))))))))))))))
  refine wp_region_ext_lit (by kernel_rfl) (by kernel_rfl) ?_
  repeat (go_big_quiet_step (first | (go_at_call 10; exact ext_call (hfo _)) | (go_at_call 34; exact ext_call (hff _ (hRd _)))))
  refine wpQuiet_nil ?_
  intro _ hw'
  obtain ⟨tq, hw''⟩ := hw'
  subst hw''
  have hb := tq.below
  generalize hW0 : tq.wd = w4 at *
  clear hW0 hxt hRd
  have k4 : Below w.heap.size w w4 := ext_step k3 (by omega) hb
  have p4 := hb.size
  replace hk0 := hk0.ext hb
  replace hk1 := hk1.ext hb
  clear bx0_1 bx1_0 bx1_1 bx1_2 bx1_3 bx1_4 bx1_5 bx1_6 bx1_7 bx1_8 bx1_9 bx1_10 bx1_11 bx1_12 bx1_13 bx1_14 bx1_15
  have bl0 := Nat.lt_of_lt_of_le bl0 hb.size
  have bl1 := Nat.lt_of_lt_of_le bl1 hb.size
  clear hb
  go_upto_region 11 with fail
  have bx0_2 := hk0.at_ 2 _ rfl
  have bx0_3 := hk0.at_ 3 _ rfl
  have bx1_0 := hk1.at_ 0 _ rfl
  have bx1_1 := hk1.at_ 1 _ rfl
  have bx1_2 := hk1.at_ 2 _ rfl
  have bx1_3 := hk1.at_ 3 _ rfl
  have bx1_4 := hk1.at_ 4 _ rfl
  have bx1_5 := hk1.at_ 5 _ rfl
  have bx1_6 := hk1.at_ 6 _ rfl
  have bx1_7 := hk1.at_ 7 _ rfl
  have bx1_8 := hk1.at_ 8 _ rfl
  have bx1_9 := hk1.at_ 9 _ rfl
  have bx1_10 := hk1.at_ 10 _ rfl
  have bx1_11 := hk1.at_ 11 _ rfl
  have bx1_12 := hk1.at_ 12 _ rfl
  have bx1_13 := hk1.at_ 13 _ rfl
  have bx1_14 := hk1.at_ 14 _ rfl
  have bx1_15 := hk1.at_ 15 _ rfl
  have hRd := fun t : Ext w4 => Reads.to ((hrt.below k4).more k4.size) t.below
  have hxt := fun t : Ext w4 => (And.intro (t.cell bx0_2) (And.intro (t.cell bx0_3) (And.intro (t.cell bx1_0) (And.intro (t.cell bx1_1) (And.intro (t.cell bx1_2) (And.intro (t.cell bx1_3) (And.intro (t.cell bx1_4) (And.intro (t.cell bx1_5) (And.intro (t.cell bx1_6) (And.intro (t.cell bx1_7) (And.intro (t.cell bx1_8) (And.intro (t.cell bx1_9) (And.intro (t.cell bx1_10) (And.intro (t.cell bx1_11) (And.intro (t.cell bx1_12) (And.intro (t.cell bx1_13) (And.intro (t.cell bx1_14) (t.cell bx1_15))))))))))))))))))
  refine wp_region_ext_lit (by kernel_rfl) (by kernel_rfl) ?_
  repeat (go_big_quiet_step (first | (go_at_call 10; exact ext_call (hfo _)) | (go_at_call 35; exact ext_call (hsq _ (hRd _)))))
  refine wpQuiet_nil ?_
  intro _ hw'
  obtain ⟨tq, hw''⟩ := hw'
  subst hw''
  have hb := tq.below
  generalize hW0 : tq.wd = w5 at *
  clear hW0 hxt hRd
  have k5 : Below w.heap.size w w5 := ext_step k4 (by omega) hb
  have p5 := hb.size
  replace hk0 := hk0.ext hb
  replace hk1 := hk1.ext hb
  clear bx0_2 bx0_3 bx1_0 bx1_1 bx1_2 bx1_3 bx1_4 bx1_5 bx1_6 bx1_7 bx1_8 bx1_9 bx1_10 bx1_11 bx1_12 bx1_13 bx1_14 bx1_15
  have bl0 := Nat.lt_of_lt_of_le bl0 hb.size
  have bl1 := Nat.lt_of_lt_of_le bl1 hb.size
  clear hb
  go_wp2
  go_ret
  exact ⟨rfl, k5⟩
theorem specSteerPacket_c (Ar : Option Addr) (nr cr : Nat) (rs : List Rule) (As : Option Addr) (ns cs : Nat) (l : List Slot) (key : ByteArray) (At : Option Addr) (nt ct : Nat) (tb : List Int) (q : Int) (w : World) (hnr : rs.length = nr) (hmr : nr ≤ 1048576) (hrr : Reads w w.heap.size 9 Ar nr (rs.flatMap Rule.cells)) (hns : l.length = ns) (hms : ns ≤ 1048576) (hrs : Reads w w.heap.size 7 As ns (l.flatMap Slot.cells)) (hnt : tb.length = nt) (hmt : nt ≤ 1048576) (hrt : Reads w w.heap.size 1 At nt (tb.flatMap fun x : Int => [Value.int .i64 x])) (p : Packet) (hz : p.seg_body.size ≤ 1048576) :
    Calls Try.prog 15 #[.agg #[.slice Ar nr cr, .slice As ns cs, .string key, .slice At nt ct], .int .i64 q, .agg #[.int .i64 p.dmac, .int .i64 p.smac, .int .i64 p.vlan, .int .i64 p.tos, .int .i64 p.id, .int .i64 p.ttl, .int .i64 p.sip, .int .i64 p.dip, .int .i64 p.seg_kind, .int .i64 p.seg_sport, .int .i64 p.seg_dport, .int .i64 p.seg_seq, .int .i64 p.seg_ack, .int .i64 p.seg_flags, .int .i64 p.seg_win, .string p.seg_body]] w fun e w' => e = .returned (.int .i64 (steerI rs l key tb q p)) ∧ Below w.heap.size w w' := by
  have hok := fun (u : World) (h1 : Reads u u.heap.size 9 Ar nr (rs.flatMap Rule.cells)) (h2 : Reads u u.heap.size 7 As ns (l.flatMap Slot.cells)) (h3 : Reads u u.heap.size 1 At nt (tb.flatMap fun x : Int => [Value.int .i64 x])) => specSteeringOk_c Ar nr cr rs As ns cs l key At nt ct tb q u hnr hmr h1 hns hms h2 hnt hmt h3
  have hsu := fun u : World => specSuperOk_c p u hz
  have hfr := fun (u : World) (h1 : Reads u u.heap.size 9 Ar nr (rs.flatMap Rule.cells)) => specFindRule_c Ar nr cr rs u hnr hmr h1 p hz
  have hfo := fun u : World => specFlowOf_c p u
  have hff := fun (u : World) (h1 : Reads u u.heap.size 7 As ns (l.flatMap Slot.cells)) => (show Calls Try.prog 34 #[.agg #[.slice As ns cs], .agg #[.int .i64 p.seg_kind, .int .i64 p.sip, .int .i64 p.dip, .int .i64 p.seg_sport, .int .i64 p.seg_dport]] u fun e w' => e = .returned (.int .i64 (flowI l (flowP p))) ∧ Below u.heap.size u w' from specFindFlow_c As ns cs l (flowP p) u hns hms h1)
  cases h1 : steerB rs l key tb q
  · simp only [h1] at hok
    rw [show steerI rs l key tb q p = -1 by rw [steerI, h1]; rfl]
    exact specSP_ok w hrr hrs hrt hok
  · simp only [h1] at hok
    cases h2 : superB p
    · simp only [h2] at hsu
      rw [show steerI rs l key tb q p = -1 by rw [steerI, h1, h2]; rfl]
      exact specSP_su w hrr hrs hrt hok hsu
    · simp only [h2] at hsu
      obtain ⟨g1, g2, g3⟩ := steerB_t h1
      have hfp := flowP_ok h2
      have hbd := bestR_bd rs p rs.length
      have hrI : ruleI rs p = bestR rs p rs.length := by rw [ruleI, if_pos g1]
      by_cases h3 : 0 ≤ ruleI rs p
      · obtain ⟨j, hj⟩ := Int.eq_ofNat_of_zero_le h3
        have hjn : j < rs.length := by omega
        have hxr : rs[j]? = some rs[j] := List.getElem?_eq_getElem hjn
        simp only [hj] at hfr
        have hv : steerI rs l key tb q p = if rs[j].action = 1 then -1 else rs[j].queue := by rw [steerI, h1, h2, hj, Int.toNat_natCast, hxr]; simp
        rw [hv]
        cases ha : (rs[j].action == 1)
        · rw [if_neg (by simpa using ha)]
          exact specSP_rq w hrr hrs hrt hnr (by omega) hxr hok hsu hfr ha
        · rw [if_pos (by simpa using ha)]
          exact specSP_rd w hrr hrs hrt hnr (by omega) hxr hok hsu hfr ha
      · have hr1 : ruleI rs p = -1 := by omega
        simp only [hr1] at hfr
        have hfI : flowI l (flowP p) = soI l (flowP p) := by rw [flowI, if_pos g2]
        have hbd2 := soI_bd l (flowP p)
        by_cases h4 : 0 ≤ soI l (flowP p)
        · obtain ⟨j, hj⟩ := Int.eq_ofNat_of_zero_le h4
          have hjn : j < l.length := by omega
          have hxr := slt_some hjn
          simp only [hfI, hj] at hff
          rw [show steerI rs l key tb q p = (slt l j).queue by rw [steerI, h1, h2, if_neg h3, if_pos h4, hj, Int.toNat_natCast]; rfl]
          exact specSP_ff w hrr hrs hrt hns (by omega) hxr hok hsu hfr hfo hff
        · have h5 : soI l (flowP p) = -1 := by omega
          simp only [hfI, h5] at hff
          have hsq := fun (u : World) (h1 : Reads u u.heap.size 1 At nt (tb.flatMap fun x : Int => [Value.int .i64 x])) => (show Calls Try.prog 35 #[.agg #[.string key, .slice At nt ct], .int .i64 q, .agg #[.int .i64 p.seg_kind, .int .i64 p.sip, .int .i64 p.dip, .int .i64 p.seg_sport, .int .i64 p.seg_dport]] u fun e w' => e = .returned (.int .i64 (tabI key tb (flowP p))) ∧ Below u.heap.size u w' from specSpreadQueue_c key At nt ct tb q u hnt hmt h1 (flowP p) hfp g3)
          rw [show steerI rs l key tb q p = tabI key tb (flowP p) by rw [steerI, h1, h2, if_neg h3, if_neg h4]; rfl]
          exact specSP_sp w hrr hrs hrt hok hsu hfr hfo hff hsq
end Go.Proofs.Ytkfekgmdjemkbaa
