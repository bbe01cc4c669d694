/- The walk of laws.FnExactTemplate. -/
import Derived.Test.YtifbfmafogmemaaPktH
import Derived.Test.YtifbfmafogmemaaConvPkt
namespace Go.Proofs.Ytifbfmafogmemaa
set_option linter.unusedSimpArgs false
set_option linter.unusedVariables false
open Go.RowKit Go.ChangeShapes Go.WideShapes
set_option maxRecDepth 100000 in
set_option maxHeartbeats 4000000 in
theorem template_law (p : Packet) (w : World) (hm : p.seg_body.size ≤ maxLen) :
    Calls Try.prog 3 #[.agg #[.int .i64 p.dmac, .int .i64 p.smac, .int .i64 p.vlan, .int .i64 p.tos, .int .i64 p.id, .int .i64 p.ttl, .int .i64 p.sip, .int .i64 p.dip, .int .i64 p.seg_kind, .int .i64 p.seg_sport, .int .i64 p.seg_dport, .int .i64 p.seg_seq, .int .i64 p.seg_ack, .int .i64 p.seg_flags, .int .i64 p.seg_win, .string p.seg_body]] w fun e w' => e = .returned (.bool true) ∧ Below w.heap.size w w' := by
  have hsz := fun u => szPacket_c p 1048576 u hm (by decide) (by decide)
  by_cases h : (p.seg_body.size : Int) ≤ 1048576
  · have hz : p.seg_body.size ≤ 1048576 := by omega
    have h3 : ¬ (1048576 : Int) - (p.seg_body.size : Int) < 0 := by omega
    simp only [if_pos h] at hsz
    have hs := fun u => specTemplate_c p u hz
    have hi := fun u => implTemplate_c p u hz
    obtain ⟨S, hS⟩ : ∃ S, (if superB p then tmplS p else ByteArray.empty) = S := ⟨_, rfl⟩
    obtain ⟨B, hB⟩ : ∃ B, superB p = B := ⟨_, rfl⟩
    simp only [hS] at hs hi
    simp only [hB] at hs hi
    clear hS hB
    go_enter Try.func3, Try.ntmps3
    go_upto_region 1 with fail
    have hk : Below w.heap.size w (w.alloc (.cells #[.int .i64 p.dmac, .int .i64 p.smac, .int .i64 p.vlan, .int .i64 p.tos, .int .i64 p.id, .int .i64 p.ttl, .int .i64 p.sip, .int .i64 p.dip, .int .i64 p.seg_kind, .int .i64 p.seg_sport, .int .i64 p.seg_dport, .int .i64 p.seg_seq, .int .i64 p.seg_ack, .int .i64 p.seg_flags, .int .i64 p.seg_win, .string p.seg_body] 25)) := by go_grown
    have hc0 : (w.alloc (.cells #[.int .i64 p.dmac, .int .i64 p.smac, .int .i64 p.vlan, .int .i64 p.tos, .int .i64 p.id, .int .i64 p.ttl, .int .i64 p.sip, .int .i64 p.dip, .int .i64 p.seg_kind, .int .i64 p.seg_sport, .int .i64 p.seg_dport, .int .i64 p.seg_seq, .int .i64 p.seg_ack, .int .i64 p.seg_flags, .int .i64 p.seg_win, .string p.seg_body] 25)).cell? ⟨w.heap.size, 0, none⟩ = some (.int .i64 p.dmac) := by simp [go_sem]
    have hc1 : (w.alloc (.cells #[.int .i64 p.dmac, .int .i64 p.smac, .int .i64 p.vlan, .int .i64 p.tos, .int .i64 p.id, .int .i64 p.ttl, .int .i64 p.sip, .int .i64 p.dip, .int .i64 p.seg_kind, .int .i64 p.seg_sport, .int .i64 p.seg_dport, .int .i64 p.seg_seq, .int .i64 p.seg_ack, .int .i64 p.seg_flags, .int .i64 p.seg_win, .string p.seg_body] 25)).cell? ⟨w.heap.size, 1, none⟩ = some (.int .i64 p.smac) := by simp [go_sem]
    have hc2 : (w.alloc (.cells #[.int .i64 p.dmac, .int .i64 p.smac, .int .i64 p.vlan, .int .i64 p.tos, .int .i64 p.id, .int .i64 p.ttl, .int .i64 p.sip, .int .i64 p.dip, .int .i64 p.seg_kind, .int .i64 p.seg_sport, .int .i64 p.seg_dport, .int .i64 p.seg_seq, .int .i64 p.seg_ack, .int .i64 p.seg_flags, .int .i64 p.seg_win, .string p.seg_body] 25)).cell? ⟨w.heap.size, 2, none⟩ = some (.int .i64 p.vlan) := by simp [go_sem]
    have hc3 : (w.alloc (.cells #[.int .i64 p.dmac, .int .i64 p.smac, .int .i64 p.vlan, .int .i64 p.tos, .int .i64 p.id, .int .i64 p.ttl, .int .i64 p.sip, .int .i64 p.dip, .int .i64 p.seg_kind, .int .i64 p.seg_sport, .int .i64 p.seg_dport, .int .i64 p.seg_seq, .int .i64 p.seg_ack, .int .i64 p.seg_flags, .int .i64 p.seg_win, .string p.seg_body] 25)).cell? ⟨w.heap.size, 3, none⟩ = some (.int .i64 p.tos) := by simp [go_sem]
    have hc4 : (w.alloc (.cells #[.int .i64 p.dmac, .int .i64 p.smac, .int .i64 p.vlan, .int .i64 p.tos, .int .i64 p.id, .int .i64 p.ttl, .int .i64 p.sip, .int .i64 p.dip, .int .i64 p.seg_kind, .int .i64 p.seg_sport, .int .i64 p.seg_dport, .int .i64 p.seg_seq, .int .i64 p.seg_ack, .int .i64 p.seg_flags, .int .i64 p.seg_win, .string p.seg_body] 25)).cell? ⟨w.heap.size, 4, none⟩ = some (.int .i64 p.id) := by simp [go_sem]
    have hc5 : (w.alloc (.cells #[.int .i64 p.dmac, .int .i64 p.smac, .int .i64 p.vlan, .int .i64 p.tos, .int .i64 p.id, .int .i64 p.ttl, .int .i64 p.sip, .int .i64 p.dip, .int .i64 p.seg_kind, .int .i64 p.seg_sport, .int .i64 p.seg_dport, .int .i64 p.seg_seq, .int .i64 p.seg_ack, .int .i64 p.seg_flags, .int .i64 p.seg_win, .string p.seg_body] 25)).cell? ⟨w.heap.size, 5, none⟩ = some (.int .i64 p.ttl) := by simp [go_sem]
    have hc6 : (w.alloc (.cells #[.int .i64 p.dmac, .int .i64 p.smac, .int .i64 p.vlan, .int .i64 p.tos, .int .i64 p.id, .int .i64 p.ttl, .int .i64 p.sip, .int .i64 p.dip, .int .i64 p.seg_kind, .int .i64 p.seg_sport, .int .i64 p.seg_dport, .int .i64 p.seg_seq, .int .i64 p.seg_ack, .int .i64 p.seg_flags, .int .i64 p.seg_win, .string p.seg_body] 25)).cell? ⟨w.heap.size, 6, none⟩ = some (.int .i64 p.sip) := by simp [go_sem]
    have hc7 : (w.alloc (.cells #[.int .i64 p.dmac, .int .i64 p.smac, .int .i64 p.vlan, .int .i64 p.tos, .int .i64 p.id, .int .i64 p.ttl, .int .i64 p.sip, .int .i64 p.dip, .int .i64 p.seg_kind, .int .i64 p.seg_sport, .int .i64 p.seg_dport, .int .i64 p.seg_seq, .int .i64 p.seg_ack, .int .i64 p.seg_flags, .int .i64 p.seg_win, .string p.seg_body] 25)).cell? ⟨w.heap.size, 7, none⟩ = some (.int .i64 p.dip) := by simp [go_sem]
    have hc8 : (w.alloc (.cells #[.int .i64 p.dmac, .int .i64 p.smac, .int .i64 p.vlan, .int .i64 p.tos, .int .i64 p.id, .int .i64 p.ttl, .int .i64 p.sip, .int .i64 p.dip, .int .i64 p.seg_kind, .int .i64 p.seg_sport, .int .i64 p.seg_dport, .int .i64 p.seg_seq, .int .i64 p.seg_ack, .int .i64 p.seg_flags, .int .i64 p.seg_win, .string p.seg_body] 25)).cell? ⟨w.heap.size, 8, none⟩ = some (.int .i64 p.seg_kind) := by simp [go_sem]
    have hc9 : (w.alloc (.cells #[.int .i64 p.dmac, .int .i64 p.smac, .int .i64 p.vlan, .int .i64 p.tos, .int .i64 p.id, .int .i64 p.ttl, .int .i64 p.sip, .int .i64 p.dip, .int .i64 p.seg_kind, .int .i64 p.seg_sport, .int .i64 p.seg_dport, .int .i64 p.seg_seq, .int .i64 p.seg_ack, .int .i64 p.seg_flags, .int .i64 p.seg_win, .string p.seg_body] 25)).cell? ⟨w.heap.size, 9, none⟩ = some (.int .i64 p.seg_sport) := by simp [go_sem]
    have hc10 : (w.alloc (.cells #[.int .i64 p.dmac, .int .i64 p.smac, .int .i64 p.vlan, .int .i64 p.tos, .int .i64 p.id, .int .i64 p.ttl, .int .i64 p.sip, .int .i64 p.dip, .int .i64 p.seg_kind, .int .i64 p.seg_sport, .int .i64 p.seg_dport, .int .i64 p.seg_seq, .int .i64 p.seg_ack, .int .i64 p.seg_flags, .int .i64 p.seg_win, .string p.seg_body] 25)).cell? ⟨w.heap.size, 10, none⟩ = some (.int .i64 p.seg_dport) := by simp [go_sem]
    have hc11 : (w.alloc (.cells #[.int .i64 p.dmac, .int .i64 p.smac, .int .i64 p.vlan, .int .i64 p.tos, .int .i64 p.id, .int .i64 p.ttl, .int .i64 p.sip, .int .i64 p.dip, .int .i64 p.seg_kind, .int .i64 p.seg_sport, .int .i64 p.seg_dport, .int .i64 p.seg_seq, .int .i64 p.seg_ack, .int .i64 p.seg_flags, .int .i64 p.seg_win, .string p.seg_body] 25)).cell? ⟨w.heap.size, 11, none⟩ = some (.int .i64 p.seg_seq) := by simp [go_sem]
    have hc12 : (w.alloc (.cells #[.int .i64 p.dmac, .int .i64 p.smac, .int .i64 p.vlan, .int .i64 p.tos, .int .i64 p.id, .int .i64 p.ttl, .int .i64 p.sip, .int .i64 p.dip, .int .i64 p.seg_kind, .int .i64 p.seg_sport, .int .i64 p.seg_dport, .int .i64 p.seg_seq, .int .i64 p.seg_ack, .int .i64 p.seg_flags, .int .i64 p.seg_win, .string p.seg_body] 25)).cell? ⟨w.heap.size, 12, none⟩ = some (.int .i64 p.seg_ack) := by simp [go_sem]
    have hc13 : (w.alloc (.cells #[.int .i64 p.dmac, .int .i64 p.smac, .int .i64 p.vlan, .int .i64 p.tos, .int .i64 p.id, .int .i64 p.ttl, .int .i64 p.sip, .int .i64 p.dip, .int .i64 p.seg_kind, .int .i64 p.seg_sport, .int .i64 p.seg_dport, .int .i64 p.seg_seq, .int .i64 p.seg_ack, .int .i64 p.seg_flags, .int .i64 p.seg_win, .string p.seg_body] 25)).cell? ⟨w.heap.size, 13, none⟩ = some (.int .i64 p.seg_flags) := by simp [go_sem]
    have hc14 : (w.alloc (.cells #[.int .i64 p.dmac, .int .i64 p.smac, .int .i64 p.vlan, .int .i64 p.tos, .int .i64 p.id, .int .i64 p.ttl, .int .i64 p.sip, .int .i64 p.dip, .int .i64 p.seg_kind, .int .i64 p.seg_sport, .int .i64 p.seg_dport, .int .i64 p.seg_seq, .int .i64 p.seg_ack, .int .i64 p.seg_flags, .int .i64 p.seg_win, .string p.seg_body] 25)).cell? ⟨w.heap.size, 14, none⟩ = some (.int .i64 p.seg_win) := by simp [go_sem]
    have hc15 : (w.alloc (.cells #[.int .i64 p.dmac, .int .i64 p.smac, .int .i64 p.vlan, .int .i64 p.tos, .int .i64 p.id, .int .i64 p.ttl, .int .i64 p.sip, .int .i64 p.dip, .int .i64 p.seg_kind, .int .i64 p.seg_sport, .int .i64 p.seg_dport, .int .i64 p.seg_seq, .int .i64 p.seg_ack, .int .i64 p.seg_flags, .int .i64 p.seg_win, .string p.seg_body] 25)).cell? ⟨w.heap.size, 15, none⟩ = some (.string p.seg_body) := by simp [go_sem]
    generalize hW : w.alloc (.cells #[.int .i64 p.dmac, .int .i64 p.smac, .int .i64 p.vlan, .int .i64 p.tos, .int .i64 p.id, .int .i64 p.ttl, .int .i64 p.sip, .int .i64 p.dip, .int .i64 p.seg_kind, .int .i64 p.seg_sport, .int .i64 p.seg_dport, .int .i64 p.seg_seq, .int .i64 p.seg_ack, .int .i64 p.seg_flags, .int .i64 p.seg_win, .string p.seg_body] 25) = w1 at *
    clear hW
    go_wp2_with fail
    refine (hsz _).mono ?_
    rintro e w2 ⟨rfl, hb⟩
    replace hk := ext_step hk hk.size hb
    replace hc0 := ccell hb _ _ _ hc0
    replace hc1 := ccell hb _ _ _ hc1
    replace hc2 := ccell hb _ _ _ hc2
    replace hc3 := ccell hb _ _ _ hc3
    replace hc4 := ccell hb _ _ _ hc4
    replace hc5 := ccell hb _ _ _ hc5
    replace hc6 := ccell hb _ _ _ hc6
    replace hc7 := ccell hb _ _ _ hc7
    replace hc8 := ccell hb _ _ _ hc8
    replace hc9 := ccell hb _ _ _ hc9
    replace hc10 := ccell hb _ _ _ hc10
    replace hc11 := ccell hb _ _ _ hc11
    replace hc12 := ccell hb _ _ _ hc12
    replace hc13 := ccell hb _ _ _ hc13
    replace hc14 := ccell hb _ _ _ hc14
    replace hc15 := ccell hb _ _ _ hc15
    clear hb
    go_wp2_with fail
    refine (toPacket_c p _).mono ?_
    rintro e w3 ⟨rfl, hb⟩
    replace hk := ext_step hk hk.size hb
    replace hc0 := ccell hb _ _ _ hc0
    replace hc1 := ccell hb _ _ _ hc1
    replace hc2 := ccell hb _ _ _ hc2
    replace hc3 := ccell hb _ _ _ hc3
    replace hc4 := ccell hb _ _ _ hc4
    replace hc5 := ccell hb _ _ _ hc5
    replace hc6 := ccell hb _ _ _ hc6
    replace hc7 := ccell hb _ _ _ hc7
    replace hc8 := ccell hb _ _ _ hc8
    replace hc9 := ccell hb _ _ _ hc9
    replace hc10 := ccell hb _ _ _ hc10
    replace hc11 := ccell hb _ _ _ hc11
    replace hc12 := ccell hb _ _ _ hc12
    replace hc13 := ccell hb _ _ _ hc13
    replace hc14 := ccell hb _ _ _ hc14
    replace hc15 := ccell hb _ _ _ hc15
    clear hb
    go_wp2_with fail
    refine (hs _).mono ?_
    rintro e w4 ⟨rfl, hb⟩
    replace hk := ext_step hk hk.size hb
    replace hc0 := ccell hb _ _ _ hc0
    replace hc1 := ccell hb _ _ _ hc1
    replace hc2 := ccell hb _ _ _ hc2
    replace hc3 := ccell hb _ _ _ hc3
    replace hc4 := ccell hb _ _ _ hc4
    replace hc5 := ccell hb _ _ _ hc5
    replace hc6 := ccell hb _ _ _ hc6
    replace hc7 := ccell hb _ _ _ hc7
    replace hc8 := ccell hb _ _ _ hc8
    replace hc9 := ccell hb _ _ _ hc9
    replace hc10 := ccell hb _ _ _ hc10
    replace hc11 := ccell hb _ _ _ hc11
    replace hc12 := ccell hb _ _ _ hc12
    replace hc13 := ccell hb _ _ _ hc13
    replace hc14 := ccell hb _ _ _ hc14
    replace hc15 := ccell hb _ _ _ hc15
    clear hb
    go_wp2_with fail
    refine (toPacket_c p _).mono ?_
    rintro e w5 ⟨rfl, hb⟩
    replace hk := ext_step hk hk.size hb
    replace hc0 := ccell hb _ _ _ hc0
    replace hc1 := ccell hb _ _ _ hc1
    replace hc2 := ccell hb _ _ _ hc2
    replace hc3 := ccell hb _ _ _ hc3
    replace hc4 := ccell hb _ _ _ hc4
    replace hc5 := ccell hb _ _ _ hc5
    replace hc6 := ccell hb _ _ _ hc6
    replace hc7 := ccell hb _ _ _ hc7
    replace hc8 := ccell hb _ _ _ hc8
    replace hc9 := ccell hb _ _ _ hc9
    replace hc10 := ccell hb _ _ _ hc10
    replace hc11 := ccell hb _ _ _ hc11
    replace hc12 := ccell hb _ _ _ hc12
    replace hc13 := ccell hb _ _ _ hc13
    replace hc14 := ccell hb _ _ _ hc14
    replace hc15 := ccell hb _ _ _ hc15
    clear hb
    go_wp2_with fail
    refine (hi _).mono ?_
    rintro e w6 ⟨rfl, hb⟩
    replace hk := ext_step hk hk.size hb
    replace hc0 := ccell hb _ _ _ hc0
    replace hc1 := ccell hb _ _ _ hc1
    replace hc2 := ccell hb _ _ _ hc2
    replace hc3 := ccell hb _ _ _ hc3
    replace hc4 := ccell hb _ _ _ hc4
    replace hc5 := ccell hb _ _ _ hc5
    replace hc6 := ccell hb _ _ _ hc6
    replace hc7 := ccell hb _ _ _ hc7
    replace hc8 := ccell hb _ _ _ hc8
    replace hc9 := ccell hb _ _ _ hc9
    replace hc10 := ccell hb _ _ _ hc10
    replace hc11 := ccell hb _ _ _ hc11
    replace hc12 := ccell hb _ _ _ hc12
    replace hc13 := ccell hb _ _ _ hc13
    replace hc14 := ccell hb _ _ _ hc14
    replace hc15 := ccell hb _ _ _ hc15
    clear hb
    go_wp2
    go_ret
    exact ⟨by simp, hk⟩
  · simp only [if_neg h] at hsz
    go_enter Try.func3, Try.ntmps3
    go_wp2_with fail
    refine (hsz _).mono ?_
    rintro e w1 ⟨rfl, hb⟩
    have hk : Below w.heap.size w w1 := ext_step (by go_grown) (by go_size) hb
    go_wp2
    go_ret
    exact ⟨rfl, hk⟩
theorem fnExactTemplate_walk (x_dmac : Int) (x_smac : Int) (x_vlan : Int) (x_tos : Int) (x_id : Int) (x_ttl : Int) (x_sip : Int) (x_dip : Int) (x_seg_kind : Int) (x_seg_sport : Int) (x_seg_dport : Int) (x_seg_seq : Int) (x_seg_ack : Int) (x_seg_flags : Int) (x_seg_win : Int) (x_seg_body : ByteArray) (w : World) (f0 : I64 x_dmac) (f1 : I64 x_smac) (f2 : I64 x_vlan) (f3 : I64 x_tos) (f4 : I64 x_id) (f5 : I64 x_ttl) (f6 : I64 x_sip) (f7 : I64 x_dip) (f8 : I64 x_seg_kind) (f9 : I64 x_seg_sport) (f10 : I64 x_seg_dport) (f11 : I64 x_seg_seq) (f12 : I64 x_seg_ack) (f13 : I64 x_seg_flags) (f14 : I64 x_seg_win) (f15 : x_seg_body.size ≤ maxLen) :
    Calls Try.prog 3 #[.agg #[.int .i64 x_dmac, .int .i64 x_smac, .int .i64 x_vlan, .int .i64 x_tos, .int .i64 x_id, .int .i64 x_ttl, .int .i64 x_sip, .int .i64 x_dip, .int .i64 x_seg_kind, .int .i64 x_seg_sport, .int .i64 x_seg_dport, .int .i64 x_seg_seq, .int .i64 x_seg_ack, .int .i64 x_seg_flags, .int .i64 x_seg_win, .string x_seg_body]] w fun e w' => e = .returned (.bool true) ∧ Below w.heap.size w w' :=
  template_law (⟨x_dmac, x_smac, x_vlan, x_tos, x_id, x_ttl, x_sip, x_dip, x_seg_kind, x_seg_sport, x_seg_dport, x_seg_seq, x_seg_ack, x_seg_flags, x_seg_win, x_seg_body⟩ : Packet) w f15
end Go.Proofs.Ytifbfmafogmemaa
