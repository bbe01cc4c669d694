/- Contracts: BuildImage, sumPlaces, l22Sums, Template: impl and spec. -/
import Derived.Test.YtifbfmafogmemaaPktF
namespace Go.Proofs.Ytifbfmafogmemaa
set_option linter.unusedSimpArgs false
set_option linter.unusedVariables false
open Go.RowKit Go.ChangeShapes Go.WideShapes
theorem seg_bd {kd sp dp sq ak fl wn : Int} {bd : ByteArray} (h : segB kd sp dp sq ak fl wn bd = true) (si di : Int) : 8 ≤ (segS si di kd sp dp sq ak fl wn bd).size ∧ (segS si di kd sp dp sq ak fl wn bd).size ≤ 340 ∧ inB kd 0 255 = true := by
  rw [segS, segF, putB_size, segS0_size h]
  obtain ⟨⟨_, _, h3⟩, ⟨rfl, _⟩ | ⟨rfl, _⟩⟩ := segB_t h
  · exact ⟨by simp; omega, by simp; omega, by decide⟩
  · exact ⟨by simp, by simp; omega, by decide⟩
theorem pad_bd {s : ByteArray} (h : s.size ≤ 400) : 46 ≤ (padS s).size ∧ (padS s).size ≤ 400 := by
  unfold padS
  split
  · rw [ByteArray.size_append, repB_size]; omega
  · omega
/-- The offset of the datagram in a frame. -/
def atN (s : ByteArray) : Nat := if g16 s 12 = 33024 then 18 else 14
/-- The offset of the second checksum. -/
def sumN (s : ByteArray) : Int := (atN s : Int) + 20 + plcI (byt s (atN s + 9))
def tmplS (p : Packet) : ByteArray := putB (putB (imgS p) ((atN (imgS p) : Int) + 10) (w16 0)) (sumN (imgS p)) (w16 0)
set_option maxRecDepth 100000 in
set_option maxHeartbeats 4000000 in
theorem implBuildImage_c (p : Packet) (w : World) (hz : p.seg_body.size ≤ 1048576) :
    Calls Try.prog 19 #[.agg #[.int .i64 p.dmac, .int .i64 p.smac, .int .i64 p.vlan, .int .i64 p.tos, .int .i64 p.id, .int .i64 p.ttl, .int .i64 p.sip, .int .i64 p.dip, .int .i64 p.seg_kind, .int .i64 p.seg_sport, .int .i64 p.seg_dport, .int .i64 p.seg_seq, .int .i64 p.seg_ack, .int .i64 p.seg_flags, .int .i64 p.seg_win, .string p.seg_body]] w fun e w' => e = .returned (.tuple #[.string (if superB p then imgS p else ByteArray.empty), .bool (superB p)]) ∧ Below w.heap.size w w' := by
  cases hok : superB p
  · rw [if_neg (by decide)]
    go_enter Try.func19, Try.ntmps19
    go_wp2_with fail
    refine (calls_bool (implSuperOk_c p _ hz) hok).mono ?_
    rintro e w1 ⟨rfl, hb⟩
    have hk : Below w.heap.size w w1 := ext_step (by go_grown) (by go_size) hb
    go_wp2
    refine bodyPost_ret (v := .tuple #[.string ByteArray.empty, .bool false]) (by simp [results, Try.results19, go_sem]; rfl) rfl ?_
    exact ⟨rfl, hk⟩
  · rw [if_pos rfl]
    obtain ⟨⟨r1, r2, r3⟩, ⟨r4, r5, r6, r7, r8⟩, r9⟩ := superB_t hok
    obtain ⟨sb0, sb1, sb2⟩ := seg_bd r9 p.sip p.dip
    have hbs := fun u => implBuildSegment_c p.sip p.dip p.seg_kind p.seg_sport p.seg_dport p.seg_seq p.seg_ack p.seg_flags p.seg_win p.seg_body u hz r7 r8
    simp only [r9, if_true] at hbs
    obtain ⟨G, hG⟩ : ∃ G, segS p.sip p.dip p.seg_kind p.seg_sport p.seg_dport p.seg_seq p.seg_ack p.seg_flags p.seg_win p.seg_body = G := ⟨_, rfl⟩
    rw [hG] at sb0 sb1
    simp only [hG] at hbs
    have hip : ipB p.tos p.id p.ttl p.seg_kind p.sip p.dip G = true := by simp only [ipB, r4, r5, r6, r7, r8, sb2, Bool.and_self, Bool.true_and, decide_eq_true_eq]; omega
    have hbi := fun u => implBuildIp_c p.tos p.id p.ttl p.seg_kind p.sip p.dip G u (by omega)
    simp only [hip, if_true] at hbi
    have zD : (ipS p.tos p.id p.ttl p.seg_kind p.sip p.dip G).size = 20 + G.size := by rw [ipS, ipH, ByteArray.size_append, putB_size, ipH0_size r6 r7 r8 (by omega)]
    obtain ⟨D, hD⟩ : ∃ D, ipS p.tos p.id p.ttl p.seg_kind p.sip p.dip G = D := ⟨_, rfl⟩
    rw [hD] at zD
    simp only [hD] at hbi
    have hpd := fun u => implPadBody_c D u (by omega)
    have hpb := pad_bd (s := D) (by omega)
    obtain ⟨E, hE⟩ : ∃ E, padS D = E := ⟨_, rfl⟩
    rw [hE] at hpb
    simp only [hE] at hpd
    have hbe := fun u => implBuildEth_c p.dmac p.smac p.vlan 2048 E u (by omega) (by simp only [ethB, r1, r2, r3, Bool.true_and]; simp [inB]; omega)
    obtain ⟨I, hI⟩ : ∃ I, ethS p.dmac p.smac p.vlan 2048 E = I := ⟨_, rfl⟩
    simp only [hI] at hbe
    rw [imgS, hG, hD, hE, hI]
    clear hG hD hE hI zD hip sb0 sb1
    go_enter Try.func19, Try.ntmps19
    go_upto_region 1 with fail
    have hk : Below w.heap.size w (w.alloc (.cells #[.int .i64 p.dmac, .int .i64 p.smac, .int .i64 p.vlan, .int .i64 p.tos, .int .i64 p.id, .int .i64 p.ttl, .int .i64 p.sip, .int .i64 p.dip, .int .i64 p.seg_kind, .int .i64 p.seg_sport, .int .i64 p.seg_dport, .int .i64 p.seg_seq, .int .i64 p.seg_ack, .int .i64 p.seg_flags, .int .i64 p.seg_win, .string p.seg_body] 31)) := by go_grown
    have hz0 : w.heap.size < (w.alloc (.cells #[.int .i64 p.dmac, .int .i64 p.smac, .int .i64 p.vlan, .int .i64 p.tos, .int .i64 p.id, .int .i64 p.ttl, .int .i64 p.sip, .int .i64 p.dip, .int .i64 p.seg_kind, .int .i64 p.seg_sport, .int .i64 p.seg_dport, .int .i64 p.seg_seq, .int .i64 p.seg_ack, .int .i64 p.seg_flags, .int .i64 p.seg_win, .string p.seg_body] 31)).heap.size := by go_size
    have hc0 : (w.alloc (.cells #[.int .i64 p.dmac, .int .i64 p.smac, .int .i64 p.vlan, .int .i64 p.tos, .int .i64 p.id, .int .i64 p.ttl, .int .i64 p.sip, .int .i64 p.dip, .int .i64 p.seg_kind, .int .i64 p.seg_sport, .int .i64 p.seg_dport, .int .i64 p.seg_seq, .int .i64 p.seg_ack, .int .i64 p.seg_flags, .int .i64 p.seg_win, .string p.seg_body] 31)).cell? ⟨w.heap.size, 0, none⟩ = some (.int .i64 p.dmac) := by simp [go_sem]
    have hc1 : (w.alloc (.cells #[.int .i64 p.dmac, .int .i64 p.smac, .int .i64 p.vlan, .int .i64 p.tos, .int .i64 p.id, .int .i64 p.ttl, .int .i64 p.sip, .int .i64 p.dip, .int .i64 p.seg_kind, .int .i64 p.seg_sport, .int .i64 p.seg_dport, .int .i64 p.seg_seq, .int .i64 p.seg_ack, .int .i64 p.seg_flags, .int .i64 p.seg_win, .string p.seg_body] 31)).cell? ⟨w.heap.size, 1, none⟩ = some (.int .i64 p.smac) := by simp [go_sem]
    have hc2 : (w.alloc (.cells #[.int .i64 p.dmac, .int .i64 p.smac, .int .i64 p.vlan, .int .i64 p.tos, .int .i64 p.id, .int .i64 p.ttl, .int .i64 p.sip, .int .i64 p.dip, .int .i64 p.seg_kind, .int .i64 p.seg_sport, .int .i64 p.seg_dport, .int .i64 p.seg_seq, .int .i64 p.seg_ack, .int .i64 p.seg_flags, .int .i64 p.seg_win, .string p.seg_body] 31)).cell? ⟨w.heap.size, 2, none⟩ = some (.int .i64 p.vlan) := by simp [go_sem]
    have hc3 : (w.alloc (.cells #[.int .i64 p.dmac, .int .i64 p.smac, .int .i64 p.vlan, .int .i64 p.tos, .int .i64 p.id, .int .i64 p.ttl, .int .i64 p.sip, .int .i64 p.dip, .int .i64 p.seg_kind, .int .i64 p.seg_sport, .int .i64 p.seg_dport, .int .i64 p.seg_seq, .int .i64 p.seg_ack, .int .i64 p.seg_flags, .int .i64 p.seg_win, .string p.seg_body] 31)).cell? ⟨w.heap.size, 3, none⟩ = some (.int .i64 p.tos) := by simp [go_sem]
    have hc4 : (w.alloc (.cells #[.int .i64 p.dmac, .int .i64 p.smac, .int .i64 p.vlan, .int .i64 p.tos, .int .i64 p.id, .int .i64 p.ttl, .int .i64 p.sip, .int .i64 p.dip, .int .i64 p.seg_kind, .int .i64 p.seg_sport, .int .i64 p.seg_dport, .int .i64 p.seg_seq, .int .i64 p.seg_ack, .int .i64 p.seg_flags, .int .i64 p.seg_win, .string p.seg_body] 31)).cell? ⟨w.heap.size, 4, none⟩ = some (.int .i64 p.id) := by simp [go_sem]
    have hc5 : (w.alloc (.cells #[.int .i64 p.dmac, .int .i64 p.smac, .int .i64 p.vlan, .int .i64 p.tos, .int .i64 p.id, .int .i64 p.ttl, .int .i64 p.sip, .int .i64 p.dip, .int .i64 p.seg_kind, .int .i64 p.seg_sport, .int .i64 p.seg_dport, .int .i64 p.seg_seq, .int .i64 p.seg_ack, .int .i64 p.seg_flags, .int .i64 p.seg_win, .string p.seg_body] 31)).cell? ⟨w.heap.size, 5, none⟩ = some (.int .i64 p.ttl) := by simp [go_sem]
    have hc6 : (w.alloc (.cells #[.int .i64 p.dmac, .int .i64 p.smac, .int .i64 p.vlan, .int .i64 p.tos, .int .i64 p.id, .int .i64 p.ttl, .int .i64 p.sip, .int .i64 p.dip, .int .i64 p.seg_kind, .int .i64 p.seg_sport, .int .i64 p.seg_dport, .int .i64 p.seg_seq, .int .i64 p.seg_ack, .int .i64 p.seg_flags, .int .i64 p.seg_win, .string p.seg_body] 31)).cell? ⟨w.heap.size, 6, none⟩ = some (.int .i64 p.sip) := by simp [go_sem]
    have hc7 : (w.alloc (.cells #[.int .i64 p.dmac, .int .i64 p.smac, .int .i64 p.vlan, .int .i64 p.tos, .int .i64 p.id, .int .i64 p.ttl, .int .i64 p.sip, .int .i64 p.dip, .int .i64 p.seg_kind, .int .i64 p.seg_sport, .int .i64 p.seg_dport, .int .i64 p.seg_seq, .int .i64 p.seg_ack, .int .i64 p.seg_flags, .int .i64 p.seg_win, .string p.seg_body] 31)).cell? ⟨w.heap.size, 7, none⟩ = some (.int .i64 p.dip) := by simp [go_sem]
    have hc8 : (w.alloc (.cells #[.int .i64 p.dmac, .int .i64 p.smac, .int .i64 p.vlan, .int .i64 p.tos, .int .i64 p.id, .int .i64 p.ttl, .int .i64 p.sip, .int .i64 p.dip, .int .i64 p.seg_kind, .int .i64 p.seg_sport, .int .i64 p.seg_dport, .int .i64 p.seg_seq, .int .i64 p.seg_ack, .int .i64 p.seg_flags, .int .i64 p.seg_win, .string p.seg_body] 31)).cell? ⟨w.heap.size, 8, none⟩ = some (.int .i64 p.seg_kind) := by simp [go_sem]
    have hc9 : (w.alloc (.cells #[.int .i64 p.dmac, .int .i64 p.smac, .int .i64 p.vlan, .int .i64 p.tos, .int .i64 p.id, .int .i64 p.ttl, .int .i64 p.sip, .int .i64 p.dip, .int .i64 p.seg_kind, .int .i64 p.seg_sport, .int .i64 p.seg_dport, .int .i64 p.seg_seq, .int .i64 p.seg_ack, .int .i64 p.seg_flags, .int .i64 p.seg_win, .string p.seg_body] 31)).cell? ⟨w.heap.size, 9, none⟩ = some (.int .i64 p.seg_sport) := by simp [go_sem]
    have hc10 : (w.alloc (.cells #[.int .i64 p.dmac, .int .i64 p.smac, .int .i64 p.vlan, .int .i64 p.tos, .int .i64 p.id, .int .i64 p.ttl, .int .i64 p.sip, .int .i64 p.dip, .int .i64 p.seg_kind, .int .i64 p.seg_sport, .int .i64 p.seg_dport, .int .i64 p.seg_seq, .int .i64 p.seg_ack, .int .i64 p.seg_flags, .int .i64 p.seg_win, .string p.seg_body] 31)).cell? ⟨w.heap.size, 10, none⟩ = some (.int .i64 p.seg_dport) := by simp [go_sem]
    have hc11 : (w.alloc (.cells #[.int .i64 p.dmac, .int .i64 p.smac, .int .i64 p.vlan, .int .i64 p.tos, .int .i64 p.id, .int .i64 p.ttl, .int .i64 p.sip, .int .i64 p.dip, .int .i64 p.seg_kind, .int .i64 p.seg_sport, .int .i64 p.seg_dport, .int .i64 p.seg_seq, .int .i64 p.seg_ack, .int .i64 p.seg_flags, .int .i64 p.seg_win, .string p.seg_body] 31)).cell? ⟨w.heap.size, 11, none⟩ = some (.int .i64 p.seg_seq) := by simp [go_sem]
    have hc12 : (w.alloc (.cells #[.int .i64 p.dmac, .int .i64 p.smac, .int .i64 p.vlan, .int .i64 p.tos, .int .i64 p.id, .int .i64 p.ttl, .int .i64 p.sip, .int .i64 p.dip, .int .i64 p.seg_kind, .int .i64 p.seg_sport, .int .i64 p.seg_dport, .int .i64 p.seg_seq, .int .i64 p.seg_ack, .int .i64 p.seg_flags, .int .i64 p.seg_win, .string p.seg_body] 31)).cell? ⟨w.heap.size, 12, none⟩ = some (.int .i64 p.seg_ack) := by simp [go_sem]
    have hc13 : (w.alloc (.cells #[.int .i64 p.dmac, .int .i64 p.smac, .int .i64 p.vlan, .int .i64 p.tos, .int .i64 p.id, .int .i64 p.ttl, .int .i64 p.sip, .int .i64 p.dip, .int .i64 p.seg_kind, .int .i64 p.seg_sport, .int .i64 p.seg_dport, .int .i64 p.seg_seq, .int .i64 p.seg_ack, .int .i64 p.seg_flags, .int .i64 p.seg_win, .string p.seg_body] 31)).cell? ⟨w.heap.size, 13, none⟩ = some (.int .i64 p.seg_flags) := by simp [go_sem]
    have hc14 : (w.alloc (.cells #[.int .i64 p.dmac, .int .i64 p.smac, .int .i64 p.vlan, .int .i64 p.tos, .int .i64 p.id, .int .i64 p.ttl, .int .i64 p.sip, .int .i64 p.dip, .int .i64 p.seg_kind, .int .i64 p.seg_sport, .int .i64 p.seg_dport, .int .i64 p.seg_seq, .int .i64 p.seg_ack, .int .i64 p.seg_flags, .int .i64 p.seg_win, .string p.seg_body] 31)).cell? ⟨w.heap.size, 14, none⟩ = some (.int .i64 p.seg_win) := by simp [go_sem]
    have hc15 : (w.alloc (.cells #[.int .i64 p.dmac, .int .i64 p.smac, .int .i64 p.vlan, .int .i64 p.tos, .int .i64 p.id, .int .i64 p.ttl, .int .i64 p.sip, .int .i64 p.dip, .int .i64 p.seg_kind, .int .i64 p.seg_sport, .int .i64 p.seg_dport, .int .i64 p.seg_seq, .int .i64 p.seg_ack, .int .i64 p.seg_flags, .int .i64 p.seg_win, .string p.seg_body] 31)).cell? ⟨w.heap.size, 15, none⟩ = some (.string p.seg_body) := by simp [go_sem]
    generalize hW : w.alloc (.cells #[.int .i64 p.dmac, .int .i64 p.smac, .int .i64 p.vlan, .int .i64 p.tos, .int .i64 p.id, .int .i64 p.ttl, .int .i64 p.sip, .int .i64 p.dip, .int .i64 p.seg_kind, .int .i64 p.seg_sport, .int .i64 p.seg_dport, .int .i64 p.seg_seq, .int .i64 p.seg_ack, .int .i64 p.seg_flags, .int .i64 p.seg_win, .string p.seg_body] 31) = w1 at *
    clear hW
    go_wp2_with fail
    refine (calls_bool (implSuperOk_c p _ hz) hok).mono ?_
    rintro e w2 ⟨rfl, hb⟩
    replace hk := ext_step hk hk.size hb
    replace hz0 := Nat.lt_of_lt_of_le hz0 hb.size
    replace hc0 := ccell hb _ _ _ hc0
    replace hc1 := ccell hb _ _ _ hc1
    replace hc2 := ccell hb _ _ _ hc2
    replace hc3 := ccell hb _ _ _ hc3
    replace hc4 := ccell hb _ _ _ hc4
    replace hc5 := ccell hb _ _ _ hc5
    replace hc6 := ccell hb _ _ _ hc6
    replace hc7 := ccell hb _ _ _ hc7
    replace hc8 := ccell hb _ _ _ hc8
    replace hc9 := ccell hb _ _ _ hc9
    replace hc10 := ccell hb _ _ _ hc10
    replace hc11 := ccell hb _ _ _ hc11
    replace hc12 := ccell hb _ _ _ hc12
    replace hc13 := ccell hb _ _ _ hc13
    replace hc14 := ccell hb _ _ _ hc14
    replace hc15 := ccell hb _ _ _ hc15
    clear hb
    go_wp2_with fail
    refine (hbs _).mono ?_
    rintro e w3 ⟨rfl, hb⟩
    replace hk := ext_step hk hk.size hb
    replace hz0 := Nat.lt_of_lt_of_le hz0 hb.size
    replace hc0 := ccell hb _ _ _ hc0
    replace hc1 := ccell hb _ _ _ hc1
    replace hc2 := ccell hb _ _ _ hc2
    replace hc3 := ccell hb _ _ _ hc3
    replace hc4 := ccell hb _ _ _ hc4
    replace hc5 := ccell hb _ _ _ hc5
    replace hc6 := ccell hb _ _ _ hc6
    replace hc7 := ccell hb _ _ _ hc7
    replace hc8 := ccell hb _ _ _ hc8
    replace hc9 := ccell hb _ _ _ hc9
    replace hc10 := ccell hb _ _ _ hc10
    replace hc11 := ccell hb _ _ _ hc11
    replace hc12 := ccell hb _ _ _ hc12
    replace hc13 := ccell hb _ _ _ hc13
    replace hc14 := ccell hb _ _ _ hc14
    replace hc15 := ccell hb _ _ _ hc15
    clear hb
    go_wp2_with fail
    refine (hbi _).mono ?_
    rintro e w4 ⟨rfl, hb⟩
    replace hk := ext_step hk hk.size hb
    replace hz0 := Nat.lt_of_lt_of_le hz0 hb.size
    replace hc0 := ccell hb _ _ _ hc0
    replace hc1 := ccell hb _ _ _ hc1
    replace hc2 := ccell hb _ _ _ hc2
    replace hc3 := ccell hb _ _ _ hc3
    replace hc4 := ccell hb _ _ _ hc4
    replace hc5 := ccell hb _ _ _ hc5
    replace hc6 := ccell hb _ _ _ hc6
    replace hc7 := ccell hb _ _ _ hc7
    replace hc8 := ccell hb _ _ _ hc8
    replace hc9 := ccell hb _ _ _ hc9
    replace hc10 := ccell hb _ _ _ hc10
    replace hc11 := ccell hb _ _ _ hc11
    replace hc12 := ccell hb _ _ _ hc12
    replace hc13 := ccell hb _ _ _ hc13
    replace hc14 := ccell hb _ _ _ hc14
    replace hc15 := ccell hb _ _ _ hc15
    clear hb
    go_wp2_with fail
    refine wp_region_slotsP [] [(40, fun _ v => v = .pointer (some ⟨w.heap.size, 0, none⟩)), (41, fun _ v => v = .int .i64 p.dmac), (42, fun _ v => v = .pointer (some ⟨w.heap.size, 1, none⟩)), (43, fun _ v => v = .int .i64 p.smac), (44, fun _ v => v = .pointer (some ⟨w.heap.size, 2, none⟩)), (45, fun _ v => v = .int .i64 p.vlan), (46, fun _ v => v = .string D), (47, fun _ v => v = .string E), (48, fun _ v => v = .agg #[.int .i64 p.dmac, .int .i64 p.smac, .int .i64 p.vlan, .int .i64 2048, .string E]), (49, fun _ v => v = .tuple #[.string I, .bool true]), (50, fun _ v => v = .string I), (51, fun _ v => v = .bool true), (2, fun _ v => v = .string I), (3, fun _ v => v = .bool true)] (by kernel_rfl) (by kernel_rfl) (by kernel_rfl) (by kernel_rfl) (by kernel_rfl) ?_ ?_ ?_
    · intro p hp
      simp only [List.mem_cons, List.not_mem_nil, or_false] at hp
      rcases hp with rfl | rfl | rfl | rfl | rfl | rfl | rfl | rfl | rfl | rfl | rfl | rfl | rfl | rfl
      all_goals (intro w w' v hb hv)
      all_goals first | exact hv | (obtain ⟨b, rfl, h⟩ := hv; exact ⟨b, rfl, byt_mono hb _ h⟩)
    · intro o ho
      simp only [List.mem_cons, List.not_mem_nil, or_false] at ho
      rcases ho with rfl | rfl | rfl | rfl | rfl | rfl | rfl | rfl | rfl | rfl | rfl | rfl | rfl | rfl
      all_goals refine stepOk2_plain rfl ?_
      · intro a w2 hb hl K Q hK
        have e1 : a.tmps[1]?.getD undef = .pointer (some ⟨w.heap.size, 0, none⟩) := gd (hl 1 (by decide))
        go_simp
        exact hK _ _ (Below.refl _ _) (by intro d hd; cases hd; exact rfl)
      · intro a w2 hb hl K Q hK
        have e40 : a.tmps[40]?.getD undef = .pointer (some ⟨w.heap.size, 0, none⟩) := gd (hl 40 (by decide))
        have hd0 := ccell hb _ _ _ hc0
        go_simp
        exact hK _ _ (Below.refl _ _) (by intro d hd; cases hd; exact rfl)
      · intro a w2 hb hl K Q hK
        have e1 : a.tmps[1]?.getD undef = .pointer (some ⟨w.heap.size, 0, none⟩) := gd (hl 1 (by decide))
        go_simp
        exact hK _ _ (Below.refl _ _) (by intro d hd; cases hd; exact rfl)
      · intro a w2 hb hl K Q hK
        have e42 : a.tmps[42]?.getD undef = .pointer (some ⟨w.heap.size, 1, none⟩) := gd (hl 42 (by decide))
        have hd1 := ccell hb _ _ _ hc1
        go_simp
        exact hK _ _ (Below.refl _ _) (by intro d hd; cases hd; exact rfl)
      · intro a w2 hb hl K Q hK
        have e1 : a.tmps[1]?.getD undef = .pointer (some ⟨w.heap.size, 0, none⟩) := gd (hl 1 (by decide))
        go_simp
        exact hK _ _ (Below.refl _ _) (by intro d hd; cases hd; exact rfl)
      · intro a w2 hb hl K Q hK
        have e44 : a.tmps[44]?.getD undef = .pointer (some ⟨w.heap.size, 2, none⟩) := gd (hl 44 (by decide))
        have hd2 := ccell hb _ _ _ hc2
        go_simp
        exact hK _ _ (Below.refl _ _) (by intro d hd; cases hd; exact rfl)
      · intro a w2 hb hl K Q hK
        have e6 : a.tmps[6]?.getD undef = .string D := gd (hl 6 (by decide))
        go_simp
        exact hK _ _ (Below.refl _ _) (by intro d hd; cases hd; exact rfl)
      · intro a w2 hb hl K Q hK
        have e46 : a.tmps[46]?.getD undef = .string D := gd (hl 46 (by decide))
        go_simp
        refine (hpd _).mono ?_
        rintro e w' ⟨rfl, hb'⟩
        exact hK _ _ hb' (by intro d hd; cases hd; exact rfl)
      · intro a w2 hb hl K Q hK
        have e41 : a.tmps[41]?.getD undef = .int .i64 p.dmac := gd (hl 41 (by decide))
        have e43 : a.tmps[43]?.getD undef = .int .i64 p.smac := gd (hl 43 (by decide))
        have e45 : a.tmps[45]?.getD undef = .int .i64 p.vlan := gd (hl 45 (by decide))
        have e47 : a.tmps[47]?.getD undef = .string E := gd (hl 47 (by decide))
        go_simp
        exact hK _ _ (Below.refl _ _) (by intro d hd; cases hd; exact rfl)
      · intro a w2 hb hl K Q hK
        have e48 : a.tmps[48]?.getD undef = .agg #[.int .i64 p.dmac, .int .i64 p.smac, .int .i64 p.vlan, .int .i64 2048, .string E] := gd (hl 48 (by decide))
        go_simp
        refine (hbe _).mono ?_
        rintro e w' ⟨rfl, hb'⟩
        exact hK _ _ hb' (by intro d hd; cases hd; exact rfl)
      · intro a w2 hb hl K Q hK
        have e49 : a.tmps[49]?.getD undef = .tuple #[.string I, .bool true] := gd (hl 49 (by decide))
        go_simp
        exact hK _ _ (Below.refl _ _) (by intro d hd; cases hd; exact rfl)
      · intro a w2 hb hl K Q hK
        have e49 : a.tmps[49]?.getD undef = .tuple #[.string I, .bool true] := gd (hl 49 (by decide))
        go_simp
        exact hK _ _ (Below.refl _ _) (by intro d hd; cases hd; exact rfl)
      · intro a w2 hb hl K Q hK
        have e50 : a.tmps[50]?.getD undef = .string I := gd (hl 50 (by decide))
        go_simp
        exact hK _ _ (Below.refl _ _) (by intro d hd; cases hd; exact rfl)
      · intro a w2 hb hl K Q hK
        have e51 : a.tmps[51]?.getD undef = .bool true := gd (hl 51 (by decide))
        go_simp
        exact hK _ _ (Below.refl _ _) (by intro d hd; cases hd; exact rfl)
    intro xT w5 hb hL
    have fx2 : xT 2 = .string I := hL _ (List.mem_of_getElem? (i := 12) rfl)
    have fx3 : xT 3 = .bool true := hL _ (List.mem_of_getElem? (i := 13) rfl)
    simp only [List.map, putAll, fx2, fx3]
    clear hL fx2 fx3
    replace hk := ext_step hk (hk.size) hb
    replace hc0 := ccell hb _ _ _ hc0
    replace hc1 := ccell hb _ _ _ hc1
    replace hc2 := ccell hb _ _ _ hc2
    replace hc3 := ccell hb _ _ _ hc3
    replace hc4 := ccell hb _ _ _ hc4
    replace hc5 := ccell hb _ _ _ hc5
    replace hc6 := ccell hb _ _ _ hc6
    replace hc7 := ccell hb _ _ _ hc7
    replace hc8 := ccell hb _ _ _ hc8
    replace hc9 := ccell hb _ _ _ hc9
    replace hc10 := ccell hb _ _ _ hc10
    replace hc11 := ccell hb _ _ _ hc11
    replace hc12 := ccell hb _ _ _ hc12
    replace hc13 := ccell hb _ _ _ hc13
    replace hc14 := ccell hb _ _ _ hc14
    replace hc15 := ccell hb _ _ _ hc15
    try replace hz0 := Nat.lt_of_lt_of_le hz0 hb.size
    clear hb
    go_wp2
    refine bodyPost_ret (v := .tuple #[.string I, .bool true]) (by simp [results, Try.results19, go_sem]) rfl ?_
    exact ⟨rfl, hk⟩
set_option maxRecDepth 100000 in
set_option maxHeartbeats 4000000 in
theorem specBuildImage_c (p : Packet) (w : World) (hz : p.seg_body.size ≤ 1048576) :
    Calls Try.prog 48 #[.agg #[.int .i64 p.dmac, .int .i64 p.smac, .int .i64 p.vlan, .int .i64 p.tos, .int .i64 p.id, .int .i64 p.ttl, .int .i64 p.sip, .int .i64 p.dip, .int .i64 p.seg_kind, .int .i64 p.seg_sport, .int .i64 p.seg_dport, .int .i64 p.seg_seq, .int .i64 p.seg_ack, .int .i64 p.seg_flags, .int .i64 p.seg_win, .string p.seg_body]] w fun e w' => e = .returned (.tuple #[.string (if superB p then imgS p else ByteArray.empty), .bool (superB p)]) ∧ Below w.heap.size w w' := by
  cases hok : superB p
  · rw [if_neg (by decide)]
    go_enter Try.func48, Try.ntmps48
    go_wp2_with fail
    refine (calls_bool (specSuperOk_c p _ hz) hok).mono ?_
    rintro e w1 ⟨rfl, hb⟩
    have hk : Below w.heap.size w w1 := ext_step (by go_grown) (by go_size) hb
    go_wp2
    refine bodyPost_ret (v := .tuple #[.string ByteArray.empty, .bool false]) (by simp [results, Try.results48, go_sem]; rfl) rfl ?_
    exact ⟨rfl, hk⟩
  · rw [if_pos rfl]
    obtain ⟨⟨r1, r2, r3⟩, ⟨r4, r5, r6, r7, r8⟩, r9⟩ := superB_t hok
    obtain ⟨sb0, sb1, sb2⟩ := seg_bd r9 p.sip p.dip
    have hbs := fun u => specBuildSegment_c p.sip p.dip p.seg_kind p.seg_sport p.seg_dport p.seg_seq p.seg_ack p.seg_flags p.seg_win p.seg_body u hz r7 r8
    simp only [r9, if_true] at hbs
    obtain ⟨G, hG⟩ : ∃ G, segS p.sip p.dip p.seg_kind p.seg_sport p.seg_dport p.seg_seq p.seg_ack p.seg_flags p.seg_win p.seg_body = G := ⟨_, rfl⟩
    rw [hG] at sb0 sb1
    simp only [hG] at hbs
    have hip : ipB p.tos p.id p.ttl p.seg_kind p.sip p.dip G = true := by simp only [ipB, r4, r5, r6, r7, r8, sb2, Bool.and_self, Bool.true_and, decide_eq_true_eq]; omega
    have hbi := fun u => specBuildIp_c p.tos p.id p.ttl p.seg_kind p.sip p.dip G u (by omega)
    simp only [hip, if_true] at hbi
    have zD : (ipS p.tos p.id p.ttl p.seg_kind p.sip p.dip G).size = 20 + G.size := by rw [ipS, ipH, ByteArray.size_append, putB_size, ipH0_size r6 r7 r8 (by omega)]
    obtain ⟨D, hD⟩ : ∃ D, ipS p.tos p.id p.ttl p.seg_kind p.sip p.dip G = D := ⟨_, rfl⟩
    rw [hD] at zD
    simp only [hD] at hbi
    have hpd := fun u => specPadBody_c D u (by omega)
    have hpb := pad_bd (s := D) (by omega)
    obtain ⟨E, hE⟩ : ∃ E, padS D = E := ⟨_, rfl⟩
    rw [hE] at hpb
    simp only [hE] at hpd
    have hbe := fun u => specBuildEth_c p.dmac p.smac p.vlan 2048 E u (by omega) (by simp only [ethB, r1, r2, r3, Bool.true_and]; simp [inB]; omega)
    obtain ⟨I, hI⟩ : ∃ I, ethS p.dmac p.smac p.vlan 2048 E = I := ⟨_, rfl⟩
    simp only [hI] at hbe
    rw [imgS, hG, hD, hE, hI]
    clear hG hD hE hI zD hip sb0 sb1
    go_enter Try.func48, Try.ntmps48
    go_upto_region 1 with fail
    have hk : Below w.heap.size w (w.alloc (.cells #[.int .i64 p.dmac, .int .i64 p.smac, .int .i64 p.vlan, .int .i64 p.tos, .int .i64 p.id, .int .i64 p.ttl, .int .i64 p.sip, .int .i64 p.dip, .int .i64 p.seg_kind, .int .i64 p.seg_sport, .int .i64 p.seg_dport, .int .i64 p.seg_seq, .int .i64 p.seg_ack, .int .i64 p.seg_flags, .int .i64 p.seg_win, .string p.seg_body] 31)) := by go_grown
    have hz0 : w.heap.size < (w.alloc (.cells #[.int .i64 p.dmac, .int .i64 p.smac, .int .i64 p.vlan, .int .i64 p.tos, .int .i64 p.id, .int .i64 p.ttl, .int .i64 p.sip, .int .i64 p.dip, .int .i64 p.seg_kind, .int .i64 p.seg_sport, .int .i64 p.seg_dport, .int .i64 p.seg_seq, .int .i64 p.seg_ack, .int .i64 p.seg_flags, .int .i64 p.seg_win, .string p.seg_body] 31)).heap.size := by go_size
    have hc0 : (w.alloc (.cells #[.int .i64 p.dmac, .int .i64 p.smac, .int .i64 p.vlan, .int .i64 p.tos, .int .i64 p.id, .int .i64 p.ttl, .int .i64 p.sip, .int .i64 p.dip, .int .i64 p.seg_kind, .int .i64 p.seg_sport, .int .i64 p.seg_dport, .int .i64 p.seg_seq, .int .i64 p.seg_ack, .int .i64 p.seg_flags, .int .i64 p.seg_win, .string p.seg_body] 31)).cell? ⟨w.heap.size, 0, none⟩ = some (.int .i64 p.dmac) := by simp [go_sem]
    have hc1 : (w.alloc (.cells #[.int .i64 p.dmac, .int .i64 p.smac, .int .i64 p.vlan, .int .i64 p.tos, .int .i64 p.id, .int .i64 p.ttl, .int .i64 p.sip, .int .i64 p.dip, .int .i64 p.seg_kind, .int .i64 p.seg_sport, .int .i64 p.seg_dport, .int .i64 p.seg_seq, .int .i64 p.seg_ack, .int .i64 p.seg_flags, .int .i64 p.seg_win, .string p.seg_body] 31)).cell? ⟨w.heap.size, 1, none⟩ = some (.int .i64 p.smac) := by simp [go_sem]
    have hc2 : (w.alloc (.cells #[.int .i64 p.dmac, .int .i64 p.smac, .int .i64 p.vlan, .int .i64 p.tos, .int .i64 p.id, .int .i64 p.ttl, .int .i64 p.sip, .int .i64 p.dip, .int .i64 p.seg_kind, .int .i64 p.seg_sport, .int .i64 p.seg_dport, .int .i64 p.seg_seq, .int .i64 p.seg_ack, .int .i64 p.seg_flags, .int .i64 p.seg_win, .string p.seg_body] 31)).cell? ⟨w.heap.size, 2, none⟩ = some (.int .i64 p.vlan) := by simp [go_sem]
    have hc3 : (w.alloc (.cells #[.int .i64 p.dmac, .int .i64 p.smac, .int .i64 p.vlan, .int .i64 p.tos, .int .i64 p.id, .int .i64 p.ttl, .int .i64 p.sip, .int .i64 p.dip, .int .i64 p.seg_kind, .int .i64 p.seg_sport, .int .i64 p.seg_dport, .int .i64 p.seg_seq, .int .i64 p.seg_ack, .int .i64 p.seg_flags, .int .i64 p.seg_win, .string p.seg_body] 31)).cell? ⟨w.heap.size, 3, none⟩ = some (.int .i64 p.tos) := by simp [go_sem]
    have hc4 : (w.alloc (.cells #[.int .i64 p.dmac, .int .i64 p.smac, .int .i64 p.vlan, .int .i64 p.tos, .int .i64 p.id, .int .i64 p.ttl, .int .i64 p.sip, .int .i64 p.dip, .int .i64 p.seg_kind, .int .i64 p.seg_sport, .int .i64 p.seg_dport, .int .i64 p.seg_seq, .int .i64 p.seg_ack, .int .i64 p.seg_flags, .int .i64 p.seg_win, .string p.seg_body] 31)).cell? ⟨w.heap.size, 4, none⟩ = some (.int .i64 p.id) := by simp [go_sem]
    have hc5 : (w.alloc (.cells #[.int .i64 p.dmac, .int .i64 p.smac, .int .i64 p.vlan, .int .i64 p.tos, .int .i64 p.id, .int .i64 p.ttl, .int .i64 p.sip, .int .i64 p.dip, .int .i64 p.seg_kind, .int .i64 p.seg_sport, .int .i64 p.seg_dport, .int .i64 p.seg_seq, .int .i64 p.seg_ack, .int .i64 p.seg_flags, .int .i64 p.seg_win, .string p.seg_body] 31)).cell? ⟨w.heap.size, 5, none⟩ = some (.int .i64 p.ttl) := by simp [go_sem]
    have hc6 : (w.alloc (.cells #[.int .i64 p.dmac, .int .i64 p.smac, .int .i64 p.vlan, .int .i64 p.tos, .int .i64 p.id, .int .i64 p.ttl, .int .i64 p.sip, .int .i64 p.dip, .int .i64 p.seg_kind, .int .i64 p.seg_sport, .int .i64 p.seg_dport, .int .i64 p.seg_seq, .int .i64 p.seg_ack, .int .i64 p.seg_flags, .int .i64 p.seg_win, .string p.seg_body] 31)).cell? ⟨w.heap.size, 6, none⟩ = some (.int .i64 p.sip) := by simp [go_sem]
    have hc7 : (w.alloc (.cells #[.int .i64 p.dmac, .int .i64 p.smac, .int .i64 p.vlan, .int .i64 p.tos, .int .i64 p.id, .int .i64 p.ttl, .int .i64 p.sip, .int .i64 p.dip, .int .i64 p.seg_kind, .int .i64 p.seg_sport, .int .i64 p.seg_dport, .int .i64 p.seg_seq, .int .i64 p.seg_ack, .int .i64 p.seg_flags, .int .i64 p.seg_win, .string p.seg_body] 31)).cell? ⟨w.heap.size, 7, none⟩ = some (.int .i64 p.dip) := by simp [go_sem]
    have hc8 : (w.alloc (.cells #[.int .i64 p.dmac, .int .i64 p.smac, .int .i64 p.vlan, .int .i64 p.tos, .int .i64 p.id, .int .i64 p.ttl, .int .i64 p.sip, .int .i64 p.dip, .int .i64 p.seg_kind, .int .i64 p.seg_sport, .int .i64 p.seg_dport, .int .i64 p.seg_seq, .int .i64 p.seg_ack, .int .i64 p.seg_flags, .int .i64 p.seg_win, .string p.seg_body] 31)).cell? ⟨w.heap.size, 8, none⟩ = some (.int .i64 p.seg_kind) := by simp [go_sem]
    have hc9 : (w.alloc (.cells #[.int .i64 p.dmac, .int .i64 p.smac, .int .i64 p.vlan, .int .i64 p.tos, .int .i64 p.id, .int .i64 p.ttl, .int .i64 p.sip, .int .i64 p.dip, .int .i64 p.seg_kind, .int .i64 p.seg_sport, .int .i64 p.seg_dport, .int .i64 p.seg_seq, .int .i64 p.seg_ack, .int .i64 p.seg_flags, .int .i64 p.seg_win, .string p.seg_body] 31)).cell? ⟨w.heap.size, 9, none⟩ = some (.int .i64 p.seg_sport) := by simp [go_sem]
    have hc10 : (w.alloc (.cells #[.int .i64 p.dmac, .int .i64 p.smac, .int .i64 p.vlan, .int .i64 p.tos, .int .i64 p.id, .int .i64 p.ttl, .int .i64 p.sip, .int .i64 p.dip, .int .i64 p.seg_kind, .int .i64 p.seg_sport, .int .i64 p.seg_dport, .int .i64 p.seg_seq, .int .i64 p.seg_ack, .int .i64 p.seg_flags, .int .i64 p.seg_win, .string p.seg_body] 31)).cell? ⟨w.heap.size, 10, none⟩ = some (.int .i64 p.seg_dport) := by simp [go_sem]
    have hc11 : (w.alloc (.cells #[.int .i64 p.dmac, .int .i64 p.smac, .int .i64 p.vlan, .int .i64 p.tos, .int .i64 p.id, .int .i64 p.ttl, .int .i64 p.sip, .int .i64 p.dip, .int .i64 p.seg_kind, .int .i64 p.seg_sport, .int .i64 p.seg_dport, .int .i64 p.seg_seq, .int .i64 p.seg_ack, .int .i64 p.seg_flags, .int .i64 p.seg_win, .string p.seg_body] 31)).cell? ⟨w.heap.size, 11, none⟩ = some (.int .i64 p.seg_seq) := by simp [go_sem]
    have hc12 : (w.alloc (.cells #[.int .i64 p.dmac, .int .i64 p.smac, .int .i64 p.vlan, .int .i64 p.tos, .int .i64 p.id, .int .i64 p.ttl, .int .i64 p.sip, .int .i64 p.dip, .int .i64 p.seg_kind, .int .i64 p.seg_sport, .int .i64 p.seg_dport, .int .i64 p.seg_seq, .int .i64 p.seg_ack, .int .i64 p.seg_flags, .int .i64 p.seg_win, .string p.seg_body] 31)).cell? ⟨w.heap.size, 12, none⟩ = some (.int .i64 p.seg_ack) := by simp [go_sem]
    have hc13 : (w.alloc (.cells #[.int .i64 p.dmac, .int .i64 p.smac, .int .i64 p.vlan, .int .i64 p.tos, .int .i64 p.id, .int .i64 p.ttl, .int .i64 p.sip, .int .i64 p.dip, .int .i64 p.seg_kind, .int .i64 p.seg_sport, .int .i64 p.seg_dport, .int .i64 p.seg_seq, .int .i64 p.seg_ack, .int .i64 p.seg_flags, .int .i64 p.seg_win, .string p.seg_body] 31)).cell? ⟨w.heap.size, 13, none⟩ = some (.int .i64 p.seg_flags) := by simp [go_sem]
    have hc14 : (w.alloc (.cells #[.int .i64 p.dmac, .int .i64 p.smac, .int .i64 p.vlan, .int .i64 p.tos, .int .i64 p.id, .int .i64 p.ttl, .int .i64 p.sip, .int .i64 p.dip, .int .i64 p.seg_kind, .int .i64 p.seg_sport, .int .i64 p.seg_dport, .int .i64 p.seg_seq, .int .i64 p.seg_ack, .int .i64 p.seg_flags, .int .i64 p.seg_win, .string p.seg_body] 31)).cell? ⟨w.heap.size, 14, none⟩ = some (.int .i64 p.seg_win) := by simp [go_sem]
    have hc15 : (w.alloc (.cells #[.int .i64 p.dmac, .int .i64 p.smac, .int .i64 p.vlan, .int .i64 p.tos, .int .i64 p.id, .int .i64 p.ttl, .int .i64 p.sip, .int .i64 p.dip, .int .i64 p.seg_kind, .int .i64 p.seg_sport, .int .i64 p.seg_dport, .int .i64 p.seg_seq, .int .i64 p.seg_ack, .int .i64 p.seg_flags, .int .i64 p.seg_win, .string p.seg_body] 31)).cell? ⟨w.heap.size, 15, none⟩ = some (.string p.seg_body) := by simp [go_sem]
    generalize hW : w.alloc (.cells #[.int .i64 p.dmac, .int .i64 p.smac, .int .i64 p.vlan, .int .i64 p.tos, .int .i64 p.id, .int .i64 p.ttl, .int .i64 p.sip, .int .i64 p.dip, .int .i64 p.seg_kind, .int .i64 p.seg_sport, .int .i64 p.seg_dport, .int .i64 p.seg_seq, .int .i64 p.seg_ack, .int .i64 p.seg_flags, .int .i64 p.seg_win, .string p.seg_body] 31) = w1 at *
    clear hW
    go_wp2_with fail
    refine (calls_bool (specSuperOk_c p _ hz) hok).mono ?_
    rintro e w2 ⟨rfl, hb⟩
    replace hk := ext_step hk hk.size hb
    replace hz0 := Nat.lt_of_lt_of_le hz0 hb.size
    replace hc0 := ccell hb _ _ _ hc0
    replace hc1 := ccell hb _ _ _ hc1
    replace hc2 := ccell hb _ _ _ hc2
    replace hc3 := ccell hb _ _ _ hc3
    replace hc4 := ccell hb _ _ _ hc4
    replace hc5 := ccell hb _ _ _ hc5
    replace hc6 := ccell hb _ _ _ hc6
    replace hc7 := ccell hb _ _ _ hc7
    replace hc8 := ccell hb _ _ _ hc8
    replace hc9 := ccell hb _ _ _ hc9
    replace hc10 := ccell hb _ _ _ hc10
    replace hc11 := ccell hb _ _ _ hc11
    replace hc12 := ccell hb _ _ _ hc12
    replace hc13 := ccell hb _ _ _ hc13
    replace hc14 := ccell hb _ _ _ hc14
    replace hc15 := ccell hb _ _ _ hc15
    clear hb
    go_wp2_with fail
    refine (hbs _).mono ?_
    rintro e w3 ⟨rfl, hb⟩
    replace hk := ext_step hk hk.size hb
    replace hz0 := Nat.lt_of_lt_of_le hz0 hb.size
    replace hc0 := ccell hb _ _ _ hc0
    replace hc1 := ccell hb _ _ _ hc1
    replace hc2 := ccell hb _ _ _ hc2
    replace hc3 := ccell hb _ _ _ hc3
    replace hc4 := ccell hb _ _ _ hc4
    replace hc5 := ccell hb _ _ _ hc5
    replace hc6 := ccell hb _ _ _ hc6
    replace hc7 := ccell hb _ _ _ hc7
    replace hc8 := ccell hb _ _ _ hc8
    replace hc9 := ccell hb _ _ _ hc9
    replace hc10 := ccell hb _ _ _ hc10
    replace hc11 := ccell hb _ _ _ hc11
    replace hc12 := ccell hb _ _ _ hc12
    replace hc13 := ccell hb _ _ _ hc13
    replace hc14 := ccell hb _ _ _ hc14
    replace hc15 := ccell hb _ _ _ hc15
    clear hb
    go_wp2_with fail
    refine (hbi _).mono ?_
    rintro e w4 ⟨rfl, hb⟩
    replace hk := ext_step hk hk.size hb
    replace hz0 := Nat.lt_of_lt_of_le hz0 hb.size
    replace hc0 := ccell hb _ _ _ hc0
    replace hc1 := ccell hb _ _ _ hc1
    replace hc2 := ccell hb _ _ _ hc2
    replace hc3 := ccell hb _ _ _ hc3
    replace hc4 := ccell hb _ _ _ hc4
    replace hc5 := ccell hb _ _ _ hc5
    replace hc6 := ccell hb _ _ _ hc6
    replace hc7 := ccell hb _ _ _ hc7
    replace hc8 := ccell hb _ _ _ hc8
    replace hc9 := ccell hb _ _ _ hc9
    replace hc10 := ccell hb _ _ _ hc10
    replace hc11 := ccell hb _ _ _ hc11
    replace hc12 := ccell hb _ _ _ hc12
    replace hc13 := ccell hb _ _ _ hc13
    replace hc14 := ccell hb _ _ _ hc14
    replace hc15 := ccell hb _ _ _ hc15
    clear hb
    go_wp2_with fail
    refine wp_region_slotsP [] [(40, fun _ v => v = .pointer (some ⟨w.heap.size, 0, none⟩)), (41, fun _ v => v = .int .i64 p.dmac), (42, fun _ v => v = .pointer (some ⟨w.heap.size, 1, none⟩)), (43, fun _ v => v = .int .i64 p.smac), (44, fun _ v => v = .pointer (some ⟨w.heap.size, 2, none⟩)), (45, fun _ v => v = .int .i64 p.vlan), (46, fun _ v => v = .string D), (47, fun _ v => v = .string E), (48, fun _ v => v = .agg #[.int .i64 p.dmac, .int .i64 p.smac, .int .i64 p.vlan, .int .i64 2048, .string E]), (49, fun _ v => v = .tuple #[.string I, .bool true]), (50, fun _ v => v = .string I), (51, fun _ v => v = .bool true), (2, fun _ v => v = .string I), (3, fun _ v => v = .bool true)] (by kernel_rfl) (by kernel_rfl) (by kernel_rfl) (by kernel_rfl) (by kernel_rfl) ?_ ?_ ?_
    · intro p hp
      simp only [List.mem_cons, List.not_mem_nil, or_false] at hp
      rcases hp with rfl | rfl | rfl | rfl | rfl | rfl | rfl | rfl | rfl | rfl | rfl | rfl | rfl | rfl
      all_goals (intro w w' v hb hv)
      all_goals first | exact hv | (obtain ⟨b, rfl, h⟩ := hv; exact ⟨b, rfl, byt_mono hb _ h⟩)
    · intro o ho
      simp only [List.mem_cons, List.not_mem_nil, or_false] at ho
      rcases ho with rfl | rfl | rfl | rfl | rfl | rfl | rfl | rfl | rfl | rfl | rfl | rfl | rfl | rfl
      all_goals refine stepOk2_plain rfl ?_
      · intro a w2 hb hl K Q hK
        have e1 : a.tmps[1]?.getD undef = .pointer (some ⟨w.heap.size, 0, none⟩) := gd (hl 1 (by decide))
        go_simp
        exact hK _ _ (Below.refl _ _) (by intro d hd; cases hd; exact rfl)
      · intro a w2 hb hl K Q hK
        have e40 : a.tmps[40]?.getD undef = .pointer (some ⟨w.heap.size, 0, none⟩) := gd (hl 40 (by decide))
        have hd0 := ccell hb _ _ _ hc0
        go_simp
        exact hK _ _ (Below.refl _ _) (by intro d hd; cases hd; exact rfl)
      · intro a w2 hb hl K Q hK
        have e1 : a.tmps[1]?.getD undef = .pointer (some ⟨w.heap.size, 0, none⟩) := gd (hl 1 (by decide))
        go_simp
        exact hK _ _ (Below.refl _ _) (by intro d hd; cases hd; exact rfl)
      · intro a w2 hb hl K Q hK
        have e42 : a.tmps[42]?.getD undef = .pointer (some ⟨w.heap.size, 1, none⟩) := gd (hl 42 (by decide))
        have hd1 := ccell hb _ _ _ hc1
        go_simp
        exact hK _ _ (Below.refl _ _) (by intro d hd; cases hd; exact rfl)
      · intro a w2 hb hl K Q hK
        have e1 : a.tmps[1]?.getD undef = .pointer (some ⟨w.heap.size, 0, none⟩) := gd (hl 1 (by decide))
        go_simp
        exact hK _ _ (Below.refl _ _) (by intro d hd; cases hd; exact rfl)
      · intro a w2 hb hl K Q hK
        have e44 : a.tmps[44]?.getD undef = .pointer (some ⟨w.heap.size, 2, none⟩) := gd (hl 44 (by decide))
        have hd2 := ccell hb _ _ _ hc2
        go_simp
        exact hK _ _ (Below.refl _ _) (by intro d hd; cases hd; exact rfl)
      · intro a w2 hb hl K Q hK
        have e6 : a.tmps[6]?.getD undef = .string D := gd (hl 6 (by decide))
        go_simp
        exact hK _ _ (Below.refl _ _) (by intro d hd; cases hd; exact rfl)
      · intro a w2 hb hl K Q hK
        have e46 : a.tmps[46]?.getD undef = .string D := gd (hl 46 (by decide))
        go_simp
        refine (hpd _).mono ?_
        rintro e w' ⟨rfl, hb'⟩
        exact hK _ _ hb' (by intro d hd; cases hd; exact rfl)
      · intro a w2 hb hl K Q hK
        have e41 : a.tmps[41]?.getD undef = .int .i64 p.dmac := gd (hl 41 (by decide))
        have e43 : a.tmps[43]?.getD undef = .int .i64 p.smac := gd (hl 43 (by decide))
        have e45 : a.tmps[45]?.getD undef = .int .i64 p.vlan := gd (hl 45 (by decide))
        have e47 : a.tmps[47]?.getD undef = .string E := gd (hl 47 (by decide))
        go_simp
        exact hK _ _ (Below.refl _ _) (by intro d hd; cases hd; exact rfl)
      · intro a w2 hb hl K Q hK
        have e48 : a.tmps[48]?.getD undef = .agg #[.int .i64 p.dmac, .int .i64 p.smac, .int .i64 p.vlan, .int .i64 2048, .string E] := gd (hl 48 (by decide))
        go_simp
        refine (hbe _).mono ?_
        rintro e w' ⟨rfl, hb'⟩
        exact hK _ _ hb' (by intro d hd; cases hd; exact rfl)
      · intro a w2 hb hl K Q hK
        have e49 : a.tmps[49]?.getD undef = .tuple #[.string I, .bool true] := gd (hl 49 (by decide))
        go_simp
        exact hK _ _ (Below.refl _ _) (by intro d hd; cases hd; exact rfl)
      · intro a w2 hb hl K Q hK
        have e49 : a.tmps[49]?.getD undef = .tuple #[.string I, .bool true] := gd (hl 49 (by decide))
        go_simp
        exact hK _ _ (Below.refl _ _) (by intro d hd; cases hd; exact rfl)
      · intro a w2 hb hl K Q hK
        have e50 : a.tmps[50]?.getD undef = .string I := gd (hl 50 (by decide))
        go_simp
        exact hK _ _ (Below.refl _ _) (by intro d hd; cases hd; exact rfl)
      · intro a w2 hb hl K Q hK
        have e51 : a.tmps[51]?.getD undef = .bool true := gd (hl 51 (by decide))
        go_simp
        exact hK _ _ (Below.refl _ _) (by intro d hd; cases hd; exact rfl)
    intro xT w5 hb hL
    have fx2 : xT 2 = .string I := hL _ (List.mem_of_getElem? (i := 12) rfl)
    have fx3 : xT 3 = .bool true := hL _ (List.mem_of_getElem? (i := 13) rfl)
    simp only [List.map, putAll, fx2, fx3]
    clear hL fx2 fx3
    replace hk := ext_step hk (hk.size) hb
    replace hc0 := ccell hb _ _ _ hc0
    replace hc1 := ccell hb _ _ _ hc1
    replace hc2 := ccell hb _ _ _ hc2
    replace hc3 := ccell hb _ _ _ hc3
    replace hc4 := ccell hb _ _ _ hc4
    replace hc5 := ccell hb _ _ _ hc5
    replace hc6 := ccell hb _ _ _ hc6
    replace hc7 := ccell hb _ _ _ hc7
    replace hc8 := ccell hb _ _ _ hc8
    replace hc9 := ccell hb _ _ _ hc9
    replace hc10 := ccell hb _ _ _ hc10
    replace hc11 := ccell hb _ _ _ hc11
    replace hc12 := ccell hb _ _ _ hc12
    replace hc13 := ccell hb _ _ _ hc13
    replace hc14 := ccell hb _ _ _ hc14
    replace hc15 := ccell hb _ _ _ hc15
    try replace hz0 := Nat.lt_of_lt_of_le hz0 hb.size
    clear hb
    go_wp2
    refine bodyPost_ret (v := .tuple #[.string I, .bool true]) (by simp [results, Try.results48, go_sem]) rfl ?_
    exact ⟨rfl, hk⟩
set_option maxRecDepth 100000 in
set_option maxHeartbeats 4000000 in
theorem implPlaces_c (s : ByteArray) (w : World) (hs : s.size ≤ 1048576) :
    Calls Try.prog 53 #[.string s] w fun e w' => e = .returned (.tuple #[.int .i64 ((atN s : Int) + 10), .int .i64 (sumN s)]) ∧ Below w.heap.size w w' := by
  by_cases h12 : g16 s 12 = 33024
  · have ha : atN s = 18 := by rw [atN, if_pos h12]
    have hsu : sumN s = 38 + plcI (byt s 27) := by rw [sumN, ha]; rfl
    rw [hsu, ha]
    obtain ⟨y0, y1⟩ := byt_bd s 27
    by_cases h9 : 27 < s.size
    · have x0 := idxi (i := 27) (k := 27) rfl h9
      have l0 : (27 : Int) < (s.size : Int) := by omega
      have hpl : 6 ≤ plcI (byt s 27) ∧ plcI (byt s 27) ≤ 16 := by unfold plcI; split <;> omega
      generalize hzz : plcI (byt s 27) = z at *
      go_enter Try.func53, Try.ntmps53
      go_wp2_with fail
      refine (implGet16_c s 12 _ hs ⟨by decide, by decide⟩).mono ?_
      rintro e w1 ⟨rfl, hb⟩
      rw [h12]
      go_wp2_with fail
      refine (sumPlace_c (byt s 27) _).mono ?_
      rintro e w2 ⟨rfl, hb2⟩
      rw [hzz]
      go_wp2
      refine bodyPost_ret (v := .tuple #[.int .i64 28, .int .i64 (38 + z)]) (by simp [results, Try.results53, go_sem]) rfl ?_
      exact ⟨rfl, ext_step hb hb.size hb2⟩
    · have l0 : ¬ (27 : Int) < (s.size : Int) := by omega
      rw [byt_out (by omega)]
      go_enter Try.func53, Try.ntmps53
      go_wp2_with fail
      refine (implGet16_c s 12 _ hs ⟨by decide, by decide⟩).mono ?_
      rintro e w1 ⟨rfl, hb⟩
      rw [h12]
      go_wp2_with fail
      refine (sumPlace_c 0 _).mono ?_
      rintro e w2 ⟨rfl, hb2⟩
      rw [show plcI 0 = 6 from rfl]
      go_wp2
      refine bodyPost_ret (v := .tuple #[.int .i64 28, .int .i64 44]) (by simp [results, Try.results53, go_sem]) rfl ?_
      exact ⟨rfl, ext_step hb hb.size hb2⟩
  · have ha : atN s = 14 := by rw [atN, if_neg h12]
    have hsu : sumN s = 34 + plcI (byt s 23) := by rw [sumN, ha]; rfl
    rw [hsu, ha]
    obtain ⟨y0, y1⟩ := byt_bd s 23
    by_cases h9 : 23 < s.size
    · have x0 := idxi (i := 23) (k := 23) rfl h9
      have l0 : (23 : Int) < (s.size : Int) := by omega
      have hpl : 6 ≤ plcI (byt s 23) ∧ plcI (byt s 23) ≤ 16 := by unfold plcI; split <;> omega
      generalize hzz : plcI (byt s 23) = z at *
      go_enter Try.func53, Try.ntmps53
      go_wp2_with fail
      refine (implGet16_c s 12 _ hs ⟨by decide, by decide⟩).mono ?_
      rintro e w1 ⟨rfl, hb⟩
      go_wp2_with fail
      refine (sumPlace_c (byt s 23) _).mono ?_
      rintro e w2 ⟨rfl, hb2⟩
      rw [hzz]
      go_wp2
      refine bodyPost_ret (v := .tuple #[.int .i64 24, .int .i64 (34 + z)]) (by simp [results, Try.results53, go_sem]) rfl ?_
      exact ⟨rfl, ext_step hb hb.size hb2⟩
    · have l0 : ¬ (23 : Int) < (s.size : Int) := by omega
      rw [byt_out (by omega)]
      go_enter Try.func53, Try.ntmps53
      go_wp2_with fail
      refine (implGet16_c s 12 _ hs ⟨by decide, by decide⟩).mono ?_
      rintro e w1 ⟨rfl, hb⟩
      go_wp2_with fail
      refine (sumPlace_c 0 _).mono ?_
      rintro e w2 ⟨rfl, hb2⟩
      rw [show plcI 0 = 6 from rfl]
      go_wp2
      refine bodyPost_ret (v := .tuple #[.int .i64 24, .int .i64 40]) (by simp [results, Try.results53, go_sem]) rfl ?_
      exact ⟨rfl, ext_step hb hb.size hb2⟩
set_option maxRecDepth 100000 in
set_option maxHeartbeats 4000000 in
theorem specPlaces_c (s : ByteArray) (w : World) (hs : s.size ≤ 1048576) (hl : atN s + 46 ≤ s.size) :
    Calls Try.prog 49 #[.string s] w fun e w' => e = .returned (.tuple #[.int .i64 ((atN s : Int) + 10), .int .i64 (sumN s)]) ∧ Below w.heap.size w w' := by
  by_cases h12 : g16 s 12 = 33024
  · rw [atN, if_pos h12] at hl
    have ha : atN s = 18 := by rw [atN, if_pos h12]
    have hsu : sumN s = 38 + plcI (byt s 27) := by rw [sumN, ha]; rfl
    rw [hsu, ha]
    obtain ⟨y0, y1⟩ := byt_bd s 27
    have h9 : 27 < s.size := by omega
    have x0 := idxi (i := 27) (k := 27) rfl h9
    have l0 : ¬ (s.size : Int) < (64 : Int) := by omega
    by_cases h6 : byt s 27 = 6
    · rw [h6] at x0 ⊢
      rw [show plcI 6 = 16 from rfl]
      go_enter Try.func49, Try.ntmps49
      go_wp2_with fail
      refine (specGet16_c s 12 _ hs ⟨by decide, by decide⟩).mono ?_
      rintro e w1 ⟨rfl, hb⟩
      rw [h12]
      go_wp2
      refine bodyPost_ret (v := .tuple #[.int .i64 28, .int .i64 54]) (by simp [results, Try.results49, go_sem]) rfl ?_
      exact ⟨rfl, hb⟩
    · rw [plcI, if_neg h6]
      go_enter Try.func49, Try.ntmps49
      go_wp2_with fail
      refine (specGet16_c s 12 _ hs ⟨by decide, by decide⟩).mono ?_
      rintro e w1 ⟨rfl, hb⟩
      rw [h12]
      go_wp2
      refine bodyPost_ret (v := .tuple #[.int .i64 28, .int .i64 44]) (by simp [results, Try.results49, go_sem]) rfl ?_
      exact ⟨rfl, hb⟩
  · rw [atN, if_neg h12] at hl
    have ha : atN s = 14 := by rw [atN, if_neg h12]
    have hsu : sumN s = 34 + plcI (byt s 23) := by rw [sumN, ha]; rfl
    rw [hsu, ha]
    obtain ⟨y0, y1⟩ := byt_bd s 23
    have h9 : 23 < s.size := by omega
    have x0 := idxi (i := 23) (k := 23) rfl h9
    have l0 : ¬ (s.size : Int) < (60 : Int) := by omega
    by_cases h6 : byt s 23 = 6
    · rw [h6] at x0 ⊢
      rw [show plcI 6 = 16 from rfl]
      go_enter Try.func49, Try.ntmps49
      go_wp2_with fail
      refine (specGet16_c s 12 _ hs ⟨by decide, by decide⟩).mono ?_
      rintro e w1 ⟨rfl, hb⟩
      go_wp2
      refine bodyPost_ret (v := .tuple #[.int .i64 24, .int .i64 50]) (by simp [results, Try.results49, go_sem]) rfl ?_
      exact ⟨rfl, hb⟩
    · rw [plcI, if_neg h6]
      go_enter Try.func49, Try.ntmps49
      go_wp2_with fail
      refine (specGet16_c s 12 _ hs ⟨by decide, by decide⟩).mono ?_
      rintro e w1 ⟨rfl, hb⟩
      go_wp2
      refine bodyPost_ret (v := .tuple #[.int .i64 24, .int .i64 40]) (by simp [results, Try.results49, go_sem]) rfl ?_
      exact ⟨rfl, hb⟩
theorem img_size {p : Packet} (h : superB p = true) : atN (imgS p) + 46 ≤ (imgS p).size ∧ (imgS p).size ≤ 418 := by
  obtain ⟨⟨r1, r2, r3⟩, ⟨r4, r5, r6, r7, r8⟩, r9⟩ := superB_t h
  obtain ⟨sb0, sb1, sb2⟩ := seg_bd r9 p.sip p.dip
  rw [imgS]
  generalize segS p.sip p.dip p.seg_kind p.seg_sport p.seg_dport p.seg_seq p.seg_ack p.seg_flags p.seg_win p.seg_body = G at *
  have zD : (ipS p.tos p.id p.ttl p.seg_kind p.sip p.dip G).size = 20 + G.size := by rw [ipS, ipH, ByteArray.size_append, putB_size, ipH0_size r6 r7 r8 (by omega)]
  have hpb := pad_bd (s := ipS p.tos p.id p.ttl p.seg_kind p.sip p.dip G) (by omega)
  generalize padS (ipS p.tos p.id p.ttl p.seg_kind p.sip p.dip G) = E at *
  obtain ⟨v0, v1⟩ := inB_t r3
  have z1 := macS_size r1
  have z2 := macS_size r2
  have z3 : (w16 2048).size = 2 := w16_size (by decide)
  have z4 : (w16 33024).size = 2 := w16_size (by decide)
  by_cases hv : 0 ≤ p.vlan
  · have z5 := w16_size (v := p.vlan) (inBi hv (by omega))
    have hsz : (ethS p.dmac p.smac p.vlan 2048 E).size = 18 + E.size := by
      simp only [ethS, if_pos hv, ByteArray.size_append, z1, z2, z3, z4, z5]
    rw [hsz]
    have : atN (ethS p.dmac p.smac p.vlan 2048 E) ≤ 18 := by unfold atN; split <;> omega
    omega
  · have hsz : (ethS p.dmac p.smac p.vlan 2048 E).size = 14 + E.size := by
      simp only [ethS, if_neg hv, ByteArray.size_append, z1, z2, z3]
    have hg : g16 (ethS p.dmac p.smac p.vlan 2048 E) 12 = 2048 := by
      have := g16_at (s := ethS p.dmac p.smac p.vlan 2048 E) (k := 12) (by omega)
      rw [show ((12 : Nat) : Int) = 12 from rfl] at this
      rw [this]
      obtain ⟨b0, b1⟩ := byt_w16 (v := 2048) (by decide)
      simp only [ethS, if_neg hv, byt_app, ByteArray.size_append, z1, z2, z3]
      simp [b0, b1]
    rw [atN, hg, if_neg (by decide), hsz]
    omega
end Go.Proofs.Ytifbfmafogmemaa
