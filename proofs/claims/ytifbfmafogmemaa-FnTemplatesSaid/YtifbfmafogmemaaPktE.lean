/- Contracts: BuildIp, BuildSegment, BuildEth: impl and spec. -/
import Derived.Test.YtifbfmafogmemaaPktD
import Derived.Deep.RegionWith
namespace Go.Proofs.Ytifbfmafogmemaa
set_option linter.unusedSimpArgs false
set_option linter.unusedVariables false
open Go.RowKit Go.ChangeShapes Go.WideShapes
theorem ethB_t {dst src vl ty : Int} {bd : ByteArray} (h : ethB dst src vl ty bd = true) : inB dst 0 281474976710655 = true ∧ inB src 0 281474976710655 = true ∧ inB vl (-1) 4095 = true ∧ inB ty 1536 65535 = true ∧ ty ≠ 33024 ∧ inB (bd.size : Int) 46 400 = true := by
  simp only [ethB, Bool.and_eq_true, decide_eq_true_eq] at h
  obtain ⟨⟨⟨⟨⟨h1, h2⟩, h3⟩, h4⟩, h5⟩, h6⟩ := h
  exact ⟨h1, h2, h3, h4, h5, h6⟩
set_option maxRecDepth 100000 in
set_option maxHeartbeats 4000000 in
theorem implBuildIp_c (tos id ttl pr si di : Int) (bd : ByteArray) (w : World) (hz : bd.size ≤ 1048576) :
    Calls Try.prog 71 #[.agg #[.int .i64 tos, .int .i64 id, .int .i64 ttl, .int .i64 pr, .int .i64 si, .int .i64 di, .string bd]] w fun e w' => e = .returned (.tuple #[.string (if ipB tos id ttl pr si di bd then ipS tos id ttl pr si di bd else ByteArray.empty), .bool (ipB tos id ttl pr si di bd)]) ∧ Below w.heap.size w w' := by
  cases hok : ipB tos id ttl pr si di bd
  · rw [if_neg (by decide)]
    have hc := fun u => implIpHeader_c tos id ttl pr si di bd u hz
    simp only [hok, Bool.false_eq_true, if_false] at hc
    go_enter Try.func71, Try.ntmps71
    go_upto_region 1 with fail
    have hk : Below w.heap.size w (w.alloc (.cells #[.int .i64 tos, .int .i64 id, .int .i64 ttl, .int .i64 pr, .int .i64 si, .int .i64 di, .string bd] 110)) := by go_grown
    have hz0 : w.heap.size < (w.alloc (.cells #[.int .i64 tos, .int .i64 id, .int .i64 ttl, .int .i64 pr, .int .i64 si, .int .i64 di, .string bd] 110)).heap.size := by go_size
    have hc0 : (w.alloc (.cells #[.int .i64 tos, .int .i64 id, .int .i64 ttl, .int .i64 pr, .int .i64 si, .int .i64 di, .string bd] 110)).cell? ⟨w.heap.size, 0, none⟩ = some (.int .i64 tos) := by simp [go_sem]
    have hc1 : (w.alloc (.cells #[.int .i64 tos, .int .i64 id, .int .i64 ttl, .int .i64 pr, .int .i64 si, .int .i64 di, .string bd] 110)).cell? ⟨w.heap.size, 1, none⟩ = some (.int .i64 id) := by simp [go_sem]
    have hc2 : (w.alloc (.cells #[.int .i64 tos, .int .i64 id, .int .i64 ttl, .int .i64 pr, .int .i64 si, .int .i64 di, .string bd] 110)).cell? ⟨w.heap.size, 2, none⟩ = some (.int .i64 ttl) := by simp [go_sem]
    have hc3 : (w.alloc (.cells #[.int .i64 tos, .int .i64 id, .int .i64 ttl, .int .i64 pr, .int .i64 si, .int .i64 di, .string bd] 110)).cell? ⟨w.heap.size, 3, none⟩ = some (.int .i64 pr) := by simp [go_sem]
    have hc4 : (w.alloc (.cells #[.int .i64 tos, .int .i64 id, .int .i64 ttl, .int .i64 pr, .int .i64 si, .int .i64 di, .string bd] 110)).cell? ⟨w.heap.size, 4, none⟩ = some (.int .i64 si) := by simp [go_sem]
    have hc5 : (w.alloc (.cells #[.int .i64 tos, .int .i64 id, .int .i64 ttl, .int .i64 pr, .int .i64 si, .int .i64 di, .string bd] 110)).cell? ⟨w.heap.size, 5, none⟩ = some (.int .i64 di) := by simp [go_sem]
    have hc6 : (w.alloc (.cells #[.int .i64 tos, .int .i64 id, .int .i64 ttl, .int .i64 pr, .int .i64 si, .int .i64 di, .string bd] 110)).cell? ⟨w.heap.size, 6, none⟩ = some (.string bd) := by simp [go_sem]
    generalize hW : w.alloc (.cells #[.int .i64 tos, .int .i64 id, .int .i64 ttl, .int .i64 pr, .int .i64 si, .int .i64 di, .string bd] 110) = w1 at *
    clear hW
    go_wp2_with fail
    refine (hc _).mono ?_
    rintro e w2 ⟨rfl, hb⟩
    replace hk := ext_step hk hk.size hb
    replace hz0 := Nat.lt_of_lt_of_le hz0 hb.size
    replace hc0 := ccell hb _ _ _ hc0
    replace hc1 := ccell hb _ _ _ hc1
    replace hc2 := ccell hb _ _ _ hc2
    replace hc3 := ccell hb _ _ _ hc3
    replace hc4 := ccell hb _ _ _ hc4
    replace hc5 := ccell hb _ _ _ hc5
    replace hc6 := ccell hb _ _ _ hc6
    clear hb
    go_wp2
    refine bodyPost_ret (v := .tuple #[.string ByteArray.empty, .bool false]) (by simp [results, Try.results71, go_sem]; rfl) rfl ?_
    exact ⟨rfl, hk⟩
  · rw [if_pos rfl]
    obtain ⟨_, r4, r5, r6, r7⟩ := ipB_t hok
    have z1 : (ipH tos id ttl pr si di bd.size).size = 20 := by rw [ipH, putB_size]; exact ipH0_size r4 r5 r6 r7
    have hc := fun u => implIpHeader_c tos id ttl pr si di bd u hz
    simp only [hok, if_true] at hc
    go_enter Try.func71, Try.ntmps71
    go_upto_region 1 with fail
    have hk : Below w.heap.size w (w.alloc (.cells #[.int .i64 tos, .int .i64 id, .int .i64 ttl, .int .i64 pr, .int .i64 si, .int .i64 di, .string bd] 110)) := by go_grown
    have hz0 : w.heap.size < (w.alloc (.cells #[.int .i64 tos, .int .i64 id, .int .i64 ttl, .int .i64 pr, .int .i64 si, .int .i64 di, .string bd] 110)).heap.size := by go_size
    have hc0 : (w.alloc (.cells #[.int .i64 tos, .int .i64 id, .int .i64 ttl, .int .i64 pr, .int .i64 si, .int .i64 di, .string bd] 110)).cell? ⟨w.heap.size, 0, none⟩ = some (.int .i64 tos) := by simp [go_sem]
    have hc1 : (w.alloc (.cells #[.int .i64 tos, .int .i64 id, .int .i64 ttl, .int .i64 pr, .int .i64 si, .int .i64 di, .string bd] 110)).cell? ⟨w.heap.size, 1, none⟩ = some (.int .i64 id) := by simp [go_sem]
    have hc2 : (w.alloc (.cells #[.int .i64 tos, .int .i64 id, .int .i64 ttl, .int .i64 pr, .int .i64 si, .int .i64 di, .string bd] 110)).cell? ⟨w.heap.size, 2, none⟩ = some (.int .i64 ttl) := by simp [go_sem]
    have hc3 : (w.alloc (.cells #[.int .i64 tos, .int .i64 id, .int .i64 ttl, .int .i64 pr, .int .i64 si, .int .i64 di, .string bd] 110)).cell? ⟨w.heap.size, 3, none⟩ = some (.int .i64 pr) := by simp [go_sem]
    have hc4 : (w.alloc (.cells #[.int .i64 tos, .int .i64 id, .int .i64 ttl, .int .i64 pr, .int .i64 si, .int .i64 di, .string bd] 110)).cell? ⟨w.heap.size, 4, none⟩ = some (.int .i64 si) := by simp [go_sem]
    have hc5 : (w.alloc (.cells #[.int .i64 tos, .int .i64 id, .int .i64 ttl, .int .i64 pr, .int .i64 si, .int .i64 di, .string bd] 110)).cell? ⟨w.heap.size, 5, none⟩ = some (.int .i64 di) := by simp [go_sem]
    have hc6 : (w.alloc (.cells #[.int .i64 tos, .int .i64 id, .int .i64 ttl, .int .i64 pr, .int .i64 si, .int .i64 di, .string bd] 110)).cell? ⟨w.heap.size, 6, none⟩ = some (.string bd) := by simp [go_sem]
    generalize hW : w.alloc (.cells #[.int .i64 tos, .int .i64 id, .int .i64 ttl, .int .i64 pr, .int .i64 si, .int .i64 di, .string bd] 110) = w1 at *
    clear hW
    go_wp2_with fail
    refine (hc _).mono ?_
    rintro e w2 ⟨rfl, hb⟩
    replace hk := ext_step hk hk.size hb
    replace hz0 := Nat.lt_of_lt_of_le hz0 hb.size
    replace hc0 := ccell hb _ _ _ hc0
    replace hc1 := ccell hb _ _ _ hc1
    replace hc2 := ccell hb _ _ _ hc2
    replace hc3 := ccell hb _ _ _ hc3
    replace hc4 := ccell hb _ _ _ hc4
    replace hc5 := ccell hb _ _ _ hc5
    replace hc6 := ccell hb _ _ _ hc6
    clear hb
    go_wp2
    refine bodyPost_ret (v := .tuple #[.string (ipS tos id ttl pr si di bd), .bool true]) (by simp [results, Try.results71, go_sem, ipS]) rfl ?_
    exact ⟨rfl, hk⟩
set_option maxRecDepth 100000 in
set_option maxHeartbeats 4000000 in
theorem specBuildIp_c (tos id ttl pr si di : Int) (bd : ByteArray) (w : World) (hz : bd.size ≤ 1048576) :
    Calls Try.prog 117 #[.agg #[.int .i64 tos, .int .i64 id, .int .i64 ttl, .int .i64 pr, .int .i64 si, .int .i64 di, .string bd]] w fun e w' => e = .returned (.tuple #[.string (if ipB tos id ttl pr si di bd then ipS tos id ttl pr si di bd else ByteArray.empty), .bool (ipB tos id ttl pr si di bd)]) ∧ Below w.heap.size w w' := by
  cases hok : ipB tos id ttl pr si di bd
  · rw [if_neg (by decide)]
    have hc := fun u => specIpHeader_c tos id ttl pr si di bd u hz
    simp only [hok, Bool.false_eq_true, if_false] at hc
    go_enter Try.func117, Try.ntmps117
    go_upto_region 1 with fail
    have hk : Below w.heap.size w (w.alloc (.cells #[.int .i64 tos, .int .i64 id, .int .i64 ttl, .int .i64 pr, .int .i64 si, .int .i64 di, .string bd] 110)) := by go_grown
    have hz0 : w.heap.size < (w.alloc (.cells #[.int .i64 tos, .int .i64 id, .int .i64 ttl, .int .i64 pr, .int .i64 si, .int .i64 di, .string bd] 110)).heap.size := by go_size
    have hc0 : (w.alloc (.cells #[.int .i64 tos, .int .i64 id, .int .i64 ttl, .int .i64 pr, .int .i64 si, .int .i64 di, .string bd] 110)).cell? ⟨w.heap.size, 0, none⟩ = some (.int .i64 tos) := by simp [go_sem]
    have hc1 : (w.alloc (.cells #[.int .i64 tos, .int .i64 id, .int .i64 ttl, .int .i64 pr, .int .i64 si, .int .i64 di, .string bd] 110)).cell? ⟨w.heap.size, 1, none⟩ = some (.int .i64 id) := by simp [go_sem]
    have hc2 : (w.alloc (.cells #[.int .i64 tos, .int .i64 id, .int .i64 ttl, .int .i64 pr, .int .i64 si, .int .i64 di, .string bd] 110)).cell? ⟨w.heap.size, 2, none⟩ = some (.int .i64 ttl) := by simp [go_sem]
    have hc3 : (w.alloc (.cells #[.int .i64 tos, .int .i64 id, .int .i64 ttl, .int .i64 pr, .int .i64 si, .int .i64 di, .string bd] 110)).cell? ⟨w.heap.size, 3, none⟩ = some (.int .i64 pr) := by simp [go_sem]
    have hc4 : (w.alloc (.cells #[.int .i64 tos, .int .i64 id, .int .i64 ttl, .int .i64 pr, .int .i64 si, .int .i64 di, .string bd] 110)).cell? ⟨w.heap.size, 4, none⟩ = some (.int .i64 si) := by simp [go_sem]
    have hc5 : (w.alloc (.cells #[.int .i64 tos, .int .i64 id, .int .i64 ttl, .int .i64 pr, .int .i64 si, .int .i64 di, .string bd] 110)).cell? ⟨w.heap.size, 5, none⟩ = some (.int .i64 di) := by simp [go_sem]
    have hc6 : (w.alloc (.cells #[.int .i64 tos, .int .i64 id, .int .i64 ttl, .int .i64 pr, .int .i64 si, .int .i64 di, .string bd] 110)).cell? ⟨w.heap.size, 6, none⟩ = some (.string bd) := by simp [go_sem]
    generalize hW : w.alloc (.cells #[.int .i64 tos, .int .i64 id, .int .i64 ttl, .int .i64 pr, .int .i64 si, .int .i64 di, .string bd] 110) = w1 at *
    clear hW
    go_wp2_with fail
    refine (hc _).mono ?_
    rintro e w2 ⟨rfl, hb⟩
    replace hk := ext_step hk hk.size hb
    replace hz0 := Nat.lt_of_lt_of_le hz0 hb.size
    replace hc0 := ccell hb _ _ _ hc0
    replace hc1 := ccell hb _ _ _ hc1
    replace hc2 := ccell hb _ _ _ hc2
    replace hc3 := ccell hb _ _ _ hc3
    replace hc4 := ccell hb _ _ _ hc4
    replace hc5 := ccell hb _ _ _ hc5
    replace hc6 := ccell hb _ _ _ hc6
    clear hb
    go_wp2
    refine bodyPost_ret (v := .tuple #[.string ByteArray.empty, .bool false]) (by simp [results, Try.results117, go_sem]; rfl) rfl ?_
    exact ⟨rfl, hk⟩
  · rw [if_pos rfl]
    obtain ⟨_, r4, r5, r6, r7⟩ := ipB_t hok
    have z1 : (ipH tos id ttl pr si di bd.size).size = 20 := by rw [ipH, putB_size]; exact ipH0_size r4 r5 r6 r7
    have hc := fun u => specIpHeader_c tos id ttl pr si di bd u hz
    simp only [hok, if_true] at hc
    go_enter Try.func117, Try.ntmps117
    go_upto_region 1 with fail
    have hk : Below w.heap.size w (w.alloc (.cells #[.int .i64 tos, .int .i64 id, .int .i64 ttl, .int .i64 pr, .int .i64 si, .int .i64 di, .string bd] 110)) := by go_grown
    have hz0 : w.heap.size < (w.alloc (.cells #[.int .i64 tos, .int .i64 id, .int .i64 ttl, .int .i64 pr, .int .i64 si, .int .i64 di, .string bd] 110)).heap.size := by go_size
    have hc0 : (w.alloc (.cells #[.int .i64 tos, .int .i64 id, .int .i64 ttl, .int .i64 pr, .int .i64 si, .int .i64 di, .string bd] 110)).cell? ⟨w.heap.size, 0, none⟩ = some (.int .i64 tos) := by simp [go_sem]
    have hc1 : (w.alloc (.cells #[.int .i64 tos, .int .i64 id, .int .i64 ttl, .int .i64 pr, .int .i64 si, .int .i64 di, .string bd] 110)).cell? ⟨w.heap.size, 1, none⟩ = some (.int .i64 id) := by simp [go_sem]
    have hc2 : (w.alloc (.cells #[.int .i64 tos, .int .i64 id, .int .i64 ttl, .int .i64 pr, .int .i64 si, .int .i64 di, .string bd] 110)).cell? ⟨w.heap.size, 2, none⟩ = some (.int .i64 ttl) := by simp [go_sem]
    have hc3 : (w.alloc (.cells #[.int .i64 tos, .int .i64 id, .int .i64 ttl, .int .i64 pr, .int .i64 si, .int .i64 di, .string bd] 110)).cell? ⟨w.heap.size, 3, none⟩ = some (.int .i64 pr) := by simp [go_sem]
    have hc4 : (w.alloc (.cells #[.int .i64 tos, .int .i64 id, .int .i64 ttl, .int .i64 pr, .int .i64 si, .int .i64 di, .string bd] 110)).cell? ⟨w.heap.size, 4, none⟩ = some (.int .i64 si) := by simp [go_sem]
    have hc5 : (w.alloc (.cells #[.int .i64 tos, .int .i64 id, .int .i64 ttl, .int .i64 pr, .int .i64 si, .int .i64 di, .string bd] 110)).cell? ⟨w.heap.size, 5, none⟩ = some (.int .i64 di) := by simp [go_sem]
    have hc6 : (w.alloc (.cells #[.int .i64 tos, .int .i64 id, .int .i64 ttl, .int .i64 pr, .int .i64 si, .int .i64 di, .string bd] 110)).cell? ⟨w.heap.size, 6, none⟩ = some (.string bd) := by simp [go_sem]
    generalize hW : w.alloc (.cells #[.int .i64 tos, .int .i64 id, .int .i64 ttl, .int .i64 pr, .int .i64 si, .int .i64 di, .string bd] 110) = w1 at *
    clear hW
    go_wp2_with fail
    refine (hc _).mono ?_
    rintro e w2 ⟨rfl, hb⟩
    replace hk := ext_step hk hk.size hb
    replace hz0 := Nat.lt_of_lt_of_le hz0 hb.size
    replace hc0 := ccell hb _ _ _ hc0
    replace hc1 := ccell hb _ _ _ hc1
    replace hc2 := ccell hb _ _ _ hc2
    replace hc3 := ccell hb _ _ _ hc3
    replace hc4 := ccell hb _ _ _ hc4
    replace hc5 := ccell hb _ _ _ hc5
    replace hc6 := ccell hb _ _ _ hc6
    clear hb
    go_wp2
    refine bodyPost_ret (v := .tuple #[.string (ipS tos id ttl pr si di bd), .bool true]) (by simp [results, Try.results117, go_sem, ipS]) rfl ?_
    exact ⟨rfl, hk⟩
set_option maxRecDepth 100000 in
set_option maxHeartbeats 8000000 in
theorem bareSegment_c (kd sp dp sq ak fl wn : Int) (bd : ByteArray) (w : World) (h : segB kd sp dp sq ak fl wn bd = true) :
    Calls Try.prog 137 #[.agg #[.int .i64 kd, .int .i64 sp, .int .i64 dp, .int .i64 sq, .int .i64 ak, .int .i64 fl, .int .i64 wn, .string bd]] w fun e w' => e = .returned (.string (segS0 kd sp dp sq ak fl wn bd)) ∧ Below w.heap.size w w' := by
  obtain ⟨⟨h1, h2, h9⟩, h0⟩ := segB_t h
  obtain ⟨a1, b1⟩ := inB_t h1
  obtain ⟨a2, b2⟩ := inB_t h2
  rcases h0 with ⟨rfl, h3, h4, h5, h6⟩ | ⟨rfl, rfl, rfl, rfl, rfl⟩
  · obtain ⟨a3, b3⟩ := inB_t h3
    obtain ⟨a4, b4⟩ := inB_t h4
    obtain ⟨a5, b5⟩ := inB_t h5
    obtain ⟨a6, b6⟩ := inB_t h6
    have k1 := u8w (x := fl) (by omega) (by omega)
    have z1 := w16_size h1
    have z2 := w16_size h2
    have z3 := w32_size h3
    have z4 := w32_size h4
    have z5 : (strOfNums [80, fl]).size = 2 := rfl
    have z6 := w16_size h6
    have z7 : (w16 0).size = 2 := w16_size (by decide)
    have z8 : (w32 0).size = 4 := w32_size (by decide)
    have zb : ¬ 9223372036854775807 < 20 + bd.size := by omega
    go_enter Try.func137, Try.ntmps137
    go_upto_region 1 with fail
    have hk : Below w.heap.size w (w.alloc (.cells #[.int .i64 6, .int .i64 sp, .int .i64 dp, .int .i64 sq, .int .i64 ak, .int .i64 fl, .int .i64 wn, .string bd] 29)) := by go_grown
    have hz0 : w.heap.size < (w.alloc (.cells #[.int .i64 6, .int .i64 sp, .int .i64 dp, .int .i64 sq, .int .i64 ak, .int .i64 fl, .int .i64 wn, .string bd] 29)).heap.size := by go_size
    have hc0 : (w.alloc (.cells #[.int .i64 6, .int .i64 sp, .int .i64 dp, .int .i64 sq, .int .i64 ak, .int .i64 fl, .int .i64 wn, .string bd] 29)).cell? ⟨w.heap.size, 0, none⟩ = some (.int .i64 6) := by simp [go_sem]
    have hc1 : (w.alloc (.cells #[.int .i64 6, .int .i64 sp, .int .i64 dp, .int .i64 sq, .int .i64 ak, .int .i64 fl, .int .i64 wn, .string bd] 29)).cell? ⟨w.heap.size, 1, none⟩ = some (.int .i64 sp) := by simp [go_sem]
    have hc2 : (w.alloc (.cells #[.int .i64 6, .int .i64 sp, .int .i64 dp, .int .i64 sq, .int .i64 ak, .int .i64 fl, .int .i64 wn, .string bd] 29)).cell? ⟨w.heap.size, 2, none⟩ = some (.int .i64 dp) := by simp [go_sem]
    have hc3 : (w.alloc (.cells #[.int .i64 6, .int .i64 sp, .int .i64 dp, .int .i64 sq, .int .i64 ak, .int .i64 fl, .int .i64 wn, .string bd] 29)).cell? ⟨w.heap.size, 3, none⟩ = some (.int .i64 sq) := by simp [go_sem]
    have hc4 : (w.alloc (.cells #[.int .i64 6, .int .i64 sp, .int .i64 dp, .int .i64 sq, .int .i64 ak, .int .i64 fl, .int .i64 wn, .string bd] 29)).cell? ⟨w.heap.size, 4, none⟩ = some (.int .i64 ak) := by simp [go_sem]
    have hc5 : (w.alloc (.cells #[.int .i64 6, .int .i64 sp, .int .i64 dp, .int .i64 sq, .int .i64 ak, .int .i64 fl, .int .i64 wn, .string bd] 29)).cell? ⟨w.heap.size, 5, none⟩ = some (.int .i64 fl) := by simp [go_sem]
    have hc6 : (w.alloc (.cells #[.int .i64 6, .int .i64 sp, .int .i64 dp, .int .i64 sq, .int .i64 ak, .int .i64 fl, .int .i64 wn, .string bd] 29)).cell? ⟨w.heap.size, 6, none⟩ = some (.int .i64 wn) := by simp [go_sem]
    have hc7 : (w.alloc (.cells #[.int .i64 6, .int .i64 sp, .int .i64 dp, .int .i64 sq, .int .i64 ak, .int .i64 fl, .int .i64 wn, .string bd] 29)).cell? ⟨w.heap.size, 7, none⟩ = some (.string bd) := by simp [go_sem]
    generalize hW : w.alloc (.cells #[.int .i64 6, .int .i64 sp, .int .i64 dp, .int .i64 sq, .int .i64 ak, .int .i64 fl, .int .i64 wn, .string bd] 29) = w1 at *
    clear hW
    refine wp_region_slotsP [] [(4, fun _ v => v = .pointer (some ⟨w.heap.size, 1, none⟩)), (5, fun _ v => v = .int .i64 sp), (6, fun _ v => v = .string (w16 sp)), (7, fun _ v => v = .pointer (some ⟨w.heap.size, 2, none⟩)), (8, fun _ v => v = .int .i64 dp), (9, fun _ v => v = .string (w16 dp)), (10, fun _ v => v = .string (w16 sp ++ (w16 dp))), (3, fun _ v => v = .string (w16 sp ++ (w16 dp)))] (by kernel_rfl) (by kernel_rfl) (by kernel_rfl) (by kernel_rfl) (by kernel_rfl) ?_ ?_ ?_
    · intro p hp
      simp only [List.mem_cons, List.not_mem_nil, or_false] at hp
      rcases hp with rfl | rfl | rfl | rfl | rfl | rfl | rfl | rfl
      all_goals (intro w w' v hb hv)
      all_goals first | exact hv | (obtain ⟨b, rfl, h⟩ := hv; exact ⟨b, rfl, byt_mono hb _ h⟩)
    · intro o ho
      simp only [List.mem_cons, List.not_mem_nil, or_false] at ho
      rcases ho with rfl | rfl | rfl | rfl | rfl | rfl | rfl | rfl
      all_goals refine stepOk2_plain rfl ?_
      · intro a w2 hb hl K Q hK
        have e1 : a.tmps[1]?.getD undef = .pointer (some ⟨w.heap.size, 0, none⟩) := gd (hl 1 (by decide))
        go_simp
        exact hK _ _ (Below.refl _ _) (by intro d hd; cases hd; exact rfl)
      · intro a w2 hb hl K Q hK
        have e4 : a.tmps[4]?.getD undef = .pointer (some ⟨w.heap.size, 1, none⟩) := gd (hl 4 (by decide))
        have hd1 := ccell hb _ _ _ hc1
        go_simp
        exact hK _ _ (Below.refl _ _) (by intro d hd; cases hd; exact rfl)
      · intro a w2 hb hl K Q hK
        have e5 : a.tmps[5]?.getD undef = .int .i64 sp := gd (hl 5 (by decide))
        go_simp
        refine (implWord16_c sp _ ⟨by omega, by omega⟩).mono ?_
        rintro e w' ⟨rfl, hb'⟩
        exact hK _ _ hb' (by intro d hd; cases hd; exact rfl)
      · intro a w2 hb hl K Q hK
        have e1 : a.tmps[1]?.getD undef = .pointer (some ⟨w.heap.size, 0, none⟩) := gd (hl 1 (by decide))
        go_simp
        exact hK _ _ (Below.refl _ _) (by intro d hd; cases hd; exact rfl)
      · intro a w2 hb hl K Q hK
        have e7 : a.tmps[7]?.getD undef = .pointer (some ⟨w.heap.size, 2, none⟩) := gd (hl 7 (by decide))
        have hd2 := ccell hb _ _ _ hc2
        go_simp
        exact hK _ _ (Below.refl _ _) (by intro d hd; cases hd; exact rfl)
      · intro a w2 hb hl K Q hK
        have e8 : a.tmps[8]?.getD undef = .int .i64 dp := gd (hl 8 (by decide))
        go_simp
        refine (implWord16_c dp _ ⟨by omega, by omega⟩).mono ?_
        rintro e w' ⟨rfl, hb'⟩
        exact hK _ _ hb' (by intro d hd; cases hd; exact rfl)
      · intro a w2 hb hl K Q hK
        have e6 : a.tmps[6]?.getD undef = .string (w16 sp) := gd (hl 6 (by decide))
        have e9 : a.tmps[9]?.getD undef = .string (w16 dp) := gd (hl 9 (by decide))
        go_simp
        exact hK _ _ (Below.refl _ _) (by intro d hd; cases hd; exact rfl)
      · intro a w2 hb hl K Q hK
        have e10 : a.tmps[10]?.getD undef = .string (w16 sp ++ (w16 dp)) := gd (hl 10 (by decide))
        go_simp
        exact hK _ _ (Below.refl _ _) (by intro d hd; cases hd; exact rfl)
    intro xT w2 hb hL
    have fx3 : xT 3 = .string (w16 sp ++ (w16 dp)) := hL _ (List.mem_of_getElem? (i := 7) rfl)
    simp only [List.map, putAll, fx3]
    clear hL fx3
    replace hk := ext_step hk (hk.size) hb
    replace hc0 := ccell hb _ _ _ hc0
    replace hc1 := ccell hb _ _ _ hc1
    replace hc2 := ccell hb _ _ _ hc2
    replace hc3 := ccell hb _ _ _ hc3
    replace hc4 := ccell hb _ _ _ hc4
    replace hc5 := ccell hb _ _ _ hc5
    replace hc6 := ccell hb _ _ _ hc6
    replace hc7 := ccell hb _ _ _ hc7
    try replace hz0 := Nat.lt_of_lt_of_le hz0 hb.size
    clear hb
    go_wp2_with fail
    refine wp_region_slotsP [] [(14, fun _ v => v = .string (w16 sp ++ (w16 dp))), (15, fun _ v => v = .pointer (some ⟨w.heap.size, 3, none⟩)), (16, fun _ v => v = .int .i64 sq), (17, fun _ v => v = .string (w32 sq)), (18, fun _ v => v = .string (w16 sp ++ (w16 dp) ++ (w32 sq))), (19, fun _ v => v = .pointer (some ⟨w.heap.size, 4, none⟩)), (20, fun _ v => v = .int .i64 ak), (21, fun _ v => v = .string (w32 ak)), (22, fun _ v => v = .string (w16 sp ++ (w16 dp) ++ (w32 sq) ++ (w32 ak))), (23, fun _ v => v = .pointer (some ⟨w.heap.size, 5, none⟩)), (24, fun _ v => v = .int .i64 fl), (25, fun _ v => v = .int .u8 fl), (26, fun w v => ∃ b, v = .slice (some ⟨b, 0, none⟩) 2 2 ∧ Byt w b (80) (fl)), (27, fun _ v => v = .string (strOfNums [80, fl])), (28, fun _ v => v = .string (w16 sp ++ (w16 dp) ++ (w32 sq) ++ (w32 ak) ++ (strOfNums [80, fl]))), (29, fun _ v => v = .pointer (some ⟨w.heap.size, 6, none⟩)), (30, fun _ v => v = .int .i64 wn), (31, fun _ v => v = .string (w16 wn)), (32, fun _ v => v = .string (w16 sp ++ (w16 dp) ++ (w32 sq) ++ (w32 ak) ++ (strOfNums [80, fl]) ++ (w16 wn))), (33, fun _ v => v = .string (w16 0)), (34, fun _ v => v = .string (w16 sp ++ (w16 dp) ++ (w32 sq) ++ (w32 ak) ++ (strOfNums [80, fl]) ++ (w16 wn) ++ (w16 0))), (35, fun _ v => v = .string (w16 0)), (36, fun _ v => v = .string (w16 sp ++ (w16 dp) ++ (w32 sq) ++ (w32 ak) ++ (strOfNums [80, fl]) ++ (w16 wn) ++ (w16 0) ++ (w16 0))), (37, fun _ v => v = .pointer (some ⟨w.heap.size, 7, none⟩)), (38, fun _ v => v = .string bd), (39, fun _ v => v = .string (w16 sp ++ (w16 dp) ++ (w32 sq) ++ (w32 ak) ++ (strOfNums [80, fl]) ++ (w16 wn) ++ (w16 0) ++ (w16 0) ++ bd)), (2, fun _ v => v = .string (w16 sp ++ (w16 dp) ++ (w32 sq) ++ (w32 ak) ++ (strOfNums [80, fl]) ++ (w16 wn) ++ (w16 0) ++ (w16 0) ++ bd))] (by kernel_rfl) (by kernel_rfl) (by kernel_rfl) (by kernel_rfl) (by kernel_rfl) ?_ ?_ ?_
    · intro p hp
      simp only [List.mem_cons, List.not_mem_nil, or_false] at hp
      rcases hp with rfl | rfl | rfl | rfl | rfl | rfl | rfl | rfl | rfl | rfl | rfl | rfl | rfl | rfl | rfl | rfl | rfl | rfl | rfl | rfl | rfl | rfl | rfl | rfl | rfl | rfl | rfl
      all_goals (intro w w' v hb hv)
      all_goals first | exact hv | (obtain ⟨b, rfl, h⟩ := hv; exact ⟨b, rfl, byt_mono hb _ h⟩)
    · intro o ho
      simp only [List.mem_cons, List.not_mem_nil, or_false] at ho
      rcases ho with rfl | rfl | rfl | rfl | rfl | rfl | rfl | rfl | rfl | rfl | rfl | rfl | rfl | rfl | rfl | rfl | rfl | rfl | rfl | rfl | rfl | rfl | rfl | rfl | rfl | rfl | rfl
      all_goals refine stepOk2_plain rfl ?_
      · intro a w2 hb hl K Q hK
        have e3 : a.tmps[3]?.getD undef = .string (w16 sp ++ (w16 dp)) := gd (hl 3 (by decide))
        go_simp
        exact hK _ _ (Below.refl _ _) (by intro d hd; cases hd; exact rfl)
      · intro a w2 hb hl K Q hK
        have e1 : a.tmps[1]?.getD undef = .pointer (some ⟨w.heap.size, 0, none⟩) := gd (hl 1 (by decide))
        go_simp
        exact hK _ _ (Below.refl _ _) (by intro d hd; cases hd; exact rfl)
      · intro a w2 hb hl K Q hK
        have e15 : a.tmps[15]?.getD undef = .pointer (some ⟨w.heap.size, 3, none⟩) := gd (hl 15 (by decide))
        have hd3 := ccell hb _ _ _ hc3
        go_simp
        exact hK _ _ (Below.refl _ _) (by intro d hd; cases hd; exact rfl)
      · intro a w2 hb hl K Q hK
        have e16 : a.tmps[16]?.getD undef = .int .i64 sq := gd (hl 16 (by decide))
        go_simp
        refine (implWord32_c sq _ ⟨by omega, by omega⟩).mono ?_
        rintro e w' ⟨rfl, hb'⟩
        exact hK _ _ hb' (by intro d hd; cases hd; exact rfl)
      · intro a w2 hb hl K Q hK
        have e14 : a.tmps[14]?.getD undef = .string (w16 sp ++ (w16 dp)) := gd (hl 14 (by decide))
        have e17 : a.tmps[17]?.getD undef = .string (w32 sq) := gd (hl 17 (by decide))
        go_simp
        exact hK _ _ (Below.refl _ _) (by intro d hd; cases hd; exact rfl)
      · intro a w2 hb hl K Q hK
        have e1 : a.tmps[1]?.getD undef = .pointer (some ⟨w.heap.size, 0, none⟩) := gd (hl 1 (by decide))
        go_simp
        exact hK _ _ (Below.refl _ _) (by intro d hd; cases hd; exact rfl)
      · intro a w2 hb hl K Q hK
        have e19 : a.tmps[19]?.getD undef = .pointer (some ⟨w.heap.size, 4, none⟩) := gd (hl 19 (by decide))
        have hd4 := ccell hb _ _ _ hc4
        go_simp
        exact hK _ _ (Below.refl _ _) (by intro d hd; cases hd; exact rfl)
      · intro a w2 hb hl K Q hK
        have e20 : a.tmps[20]?.getD undef = .int .i64 ak := gd (hl 20 (by decide))
        go_simp
        refine (implWord32_c ak _ ⟨by omega, by omega⟩).mono ?_
        rintro e w' ⟨rfl, hb'⟩
        exact hK _ _ hb' (by intro d hd; cases hd; exact rfl)
      · intro a w2 hb hl K Q hK
        have e18 : a.tmps[18]?.getD undef = .string (w16 sp ++ (w16 dp) ++ (w32 sq)) := gd (hl 18 (by decide))
        have e21 : a.tmps[21]?.getD undef = .string (w32 ak) := gd (hl 21 (by decide))
        go_simp
        exact hK _ _ (Below.refl _ _) (by intro d hd; cases hd; exact rfl)
      · intro a w2 hb hl K Q hK
        have e1 : a.tmps[1]?.getD undef = .pointer (some ⟨w.heap.size, 0, none⟩) := gd (hl 1 (by decide))
        go_simp
        exact hK _ _ (Below.refl _ _) (by intro d hd; cases hd; exact rfl)
      · intro a w2 hb hl K Q hK
        have e23 : a.tmps[23]?.getD undef = .pointer (some ⟨w.heap.size, 5, none⟩) := gd (hl 23 (by decide))
        have hd5 := ccell hb _ _ _ hc5
        go_simp
        exact hK _ _ (Below.refl _ _) (by intro d hd; cases hd; exact rfl)
      · intro a w2 hb hl K Q hK
        have e24 : a.tmps[24]?.getD undef = .int .i64 fl := gd (hl 24 (by decide))
        go_simp
        exact hK _ _ (Below.refl _ _) (by intro d hd; cases hd; exact rfl)
      · intro a w2 hb hl K Q hK
        have e25 : a.tmps[25]?.getD undef = .int .u8 fl := gd (hl 25 (by decide))
        go_simp
        exact hK _ _ (by go_grown) (by intro d hd; cases hd; exact ⟨_, rfl, byt_new _ _ _ _⟩)
      · intro a w2 hb hl K Q hK
        obtain ⟨b26, hb26, hbyt26⟩ : ∃ b, a.tmps.getD 26 undef = .slice (some ⟨b, 0, none⟩) 2 2 ∧ Byt w2 b (80) (fl) := hl 26 (by decide)
        have e26 := gd hb26
        have hcv := byt_conv (80) (fl) w2 b26 hbyt26
        go_simp
        exact hK _ _ (Below.refl _ _) (by intro d hd; cases hd; exact rfl)
      · intro a w2 hb hl K Q hK
        have e22 : a.tmps[22]?.getD undef = .string (w16 sp ++ (w16 dp) ++ (w32 sq) ++ (w32 ak)) := gd (hl 22 (by decide))
        have e27 : a.tmps[27]?.getD undef = .string (strOfNums [80, fl]) := gd (hl 27 (by decide))
        go_simp
        exact hK _ _ (Below.refl _ _) (by intro d hd; cases hd; exact rfl)
      · intro a w2 hb hl K Q hK
        have e1 : a.tmps[1]?.getD undef = .pointer (some ⟨w.heap.size, 0, none⟩) := gd (hl 1 (by decide))
        go_simp
        exact hK _ _ (Below.refl _ _) (by intro d hd; cases hd; exact rfl)
      · intro a w2 hb hl K Q hK
        have e29 : a.tmps[29]?.getD undef = .pointer (some ⟨w.heap.size, 6, none⟩) := gd (hl 29 (by decide))
        have hd6 := ccell hb _ _ _ hc6
        go_simp
        exact hK _ _ (Below.refl _ _) (by intro d hd; cases hd; exact rfl)
      · intro a w2 hb hl K Q hK
        have e30 : a.tmps[30]?.getD undef = .int .i64 wn := gd (hl 30 (by decide))
        go_simp
        refine (implWord16_c wn _ ⟨by omega, by omega⟩).mono ?_
        rintro e w' ⟨rfl, hb'⟩
        exact hK _ _ hb' (by intro d hd; cases hd; exact rfl)
      · intro a w2 hb hl K Q hK
        have e28 : a.tmps[28]?.getD undef = .string (w16 sp ++ (w16 dp) ++ (w32 sq) ++ (w32 ak) ++ (strOfNums [80, fl])) := gd (hl 28 (by decide))
        have e31 : a.tmps[31]?.getD undef = .string (w16 wn) := gd (hl 31 (by decide))
        go_simp
        exact hK _ _ (Below.refl _ _) (by intro d hd; cases hd; exact rfl)
      · intro a w2 hb hl K Q hK
        go_simp
        refine (implWord16_c 0 _ ⟨by omega, by omega⟩).mono ?_
        rintro e w' ⟨rfl, hb'⟩
        exact hK _ _ hb' (by intro d hd; cases hd; exact rfl)
      · intro a w2 hb hl K Q hK
        have e32 : a.tmps[32]?.getD undef = .string (w16 sp ++ (w16 dp) ++ (w32 sq) ++ (w32 ak) ++ (strOfNums [80, fl]) ++ (w16 wn)) := gd (hl 32 (by decide))
        have e33 : a.tmps[33]?.getD undef = .string (w16 0) := gd (hl 33 (by decide))
        go_simp
        exact hK _ _ (Below.refl _ _) (by intro d hd; cases hd; exact rfl)
      · intro a w2 hb hl K Q hK
        go_simp
        refine (implWord16_c 0 _ ⟨by omega, by omega⟩).mono ?_
        rintro e w' ⟨rfl, hb'⟩
        exact hK _ _ hb' (by intro d hd; cases hd; exact rfl)
      · intro a w2 hb hl K Q hK
        have e34 : a.tmps[34]?.getD undef = .string (w16 sp ++ (w16 dp) ++ (w32 sq) ++ (w32 ak) ++ (strOfNums [80, fl]) ++ (w16 wn) ++ (w16 0)) := gd (hl 34 (by decide))
        have e35 : a.tmps[35]?.getD undef = .string (w16 0) := gd (hl 35 (by decide))
        go_simp
        exact hK _ _ (Below.refl _ _) (by intro d hd; cases hd; exact rfl)
      · intro a w2 hb hl K Q hK
        have e1 : a.tmps[1]?.getD undef = .pointer (some ⟨w.heap.size, 0, none⟩) := gd (hl 1 (by decide))
        go_simp
        exact hK _ _ (Below.refl _ _) (by intro d hd; cases hd; exact rfl)
      · intro a w2 hb hl K Q hK
        have e37 : a.tmps[37]?.getD undef = .pointer (some ⟨w.heap.size, 7, none⟩) := gd (hl 37 (by decide))
        have hd7 := ccell hb _ _ _ hc7
        go_simp
        exact hK _ _ (Below.refl _ _) (by intro d hd; cases hd; exact rfl)
      · intro a w2 hb hl K Q hK
        have e36 : a.tmps[36]?.getD undef = .string (w16 sp ++ (w16 dp) ++ (w32 sq) ++ (w32 ak) ++ (strOfNums [80, fl]) ++ (w16 wn) ++ (w16 0) ++ (w16 0)) := gd (hl 36 (by decide))
        have e38 : a.tmps[38]?.getD undef = .string bd := gd (hl 38 (by decide))
        go_simp
        exact hK _ _ (Below.refl _ _) (by intro d hd; cases hd; exact rfl)
      · intro a w2 hb hl K Q hK
        have e39 : a.tmps[39]?.getD undef = .string (w16 sp ++ (w16 dp) ++ (w32 sq) ++ (w32 ak) ++ (strOfNums [80, fl]) ++ (w16 wn) ++ (w16 0) ++ (w16 0) ++ bd) := gd (hl 39 (by decide))
        go_simp
        exact hK _ _ (Below.refl _ _) (by intro d hd; cases hd; exact rfl)
    intro xT w3 hb hL
    have fx2 : xT 2 = .string (w16 sp ++ (w16 dp) ++ (w32 sq) ++ (w32 ak) ++ (strOfNums [80, fl]) ++ (w16 wn) ++ (w16 0) ++ (w16 0) ++ bd) := hL _ (List.mem_of_getElem? (i := 26) rfl)
    simp only [List.map, putAll, fx2]
    clear hL fx2
    replace hk := ext_step hk (hk.size) hb
    replace hc0 := ccell hb _ _ _ hc0
    replace hc1 := ccell hb _ _ _ hc1
    replace hc2 := ccell hb _ _ _ hc2
    replace hc3 := ccell hb _ _ _ hc3
    replace hc4 := ccell hb _ _ _ hc4
    replace hc5 := ccell hb _ _ _ hc5
    replace hc6 := ccell hb _ _ _ hc6
    replace hc7 := ccell hb _ _ _ hc7
    try replace hz0 := Nat.lt_of_lt_of_le hz0 hb.size
    clear hb
    go_wp2
    refine bodyPost_ret (v := .string (segS0 6 sp dp sq ak fl wn bd)) (by simp [results, Try.results137, go_sem, segS0]) rfl ?_
    exact ⟨rfl, hk⟩
  · have z1 := w16_size h1
    have z2 := w16_size h2
    have z3 := w16_size (inBi (show (0 : Int) ≤ 8 + (bd.size : Int) by omega) (show 8 + (bd.size : Int) ≤ 65535 by omega))
    have z7 : (w16 0).size = 2 := w16_size (by decide)
    have k9 : IntKind.i64.wrap (8 + (bd.size : Int)) = 8 + (bd.size : Int) := IntWalk.i64_in _ ⟨by omega, by omega⟩
    have zb : ¬ 9223372036854775807 < 8 + bd.size := by omega
    go_enter Try.func137, Try.ntmps137
    go_upto_region 1 with fail
    have hk : Below w.heap.size w (w.alloc (.cells #[.int .i64 17, .int .i64 sp, .int .i64 dp, .int .i64 0, .int .i64 0, .int .i64 0, .int .i64 0, .string bd] 29)) := by go_grown
    have hz0 : w.heap.size < (w.alloc (.cells #[.int .i64 17, .int .i64 sp, .int .i64 dp, .int .i64 0, .int .i64 0, .int .i64 0, .int .i64 0, .string bd] 29)).heap.size := by go_size
    have hc0 : (w.alloc (.cells #[.int .i64 17, .int .i64 sp, .int .i64 dp, .int .i64 0, .int .i64 0, .int .i64 0, .int .i64 0, .string bd] 29)).cell? ⟨w.heap.size, 0, none⟩ = some (.int .i64 17) := by simp [go_sem]
    have hc1 : (w.alloc (.cells #[.int .i64 17, .int .i64 sp, .int .i64 dp, .int .i64 0, .int .i64 0, .int .i64 0, .int .i64 0, .string bd] 29)).cell? ⟨w.heap.size, 1, none⟩ = some (.int .i64 sp) := by simp [go_sem]
    have hc2 : (w.alloc (.cells #[.int .i64 17, .int .i64 sp, .int .i64 dp, .int .i64 0, .int .i64 0, .int .i64 0, .int .i64 0, .string bd] 29)).cell? ⟨w.heap.size, 2, none⟩ = some (.int .i64 dp) := by simp [go_sem]
    have hc3 : (w.alloc (.cells #[.int .i64 17, .int .i64 sp, .int .i64 dp, .int .i64 0, .int .i64 0, .int .i64 0, .int .i64 0, .string bd] 29)).cell? ⟨w.heap.size, 3, none⟩ = some (.int .i64 0) := by simp [go_sem]
    have hc4 : (w.alloc (.cells #[.int .i64 17, .int .i64 sp, .int .i64 dp, .int .i64 0, .int .i64 0, .int .i64 0, .int .i64 0, .string bd] 29)).cell? ⟨w.heap.size, 4, none⟩ = some (.int .i64 0) := by simp [go_sem]
    have hc5 : (w.alloc (.cells #[.int .i64 17, .int .i64 sp, .int .i64 dp, .int .i64 0, .int .i64 0, .int .i64 0, .int .i64 0, .string bd] 29)).cell? ⟨w.heap.size, 5, none⟩ = some (.int .i64 0) := by simp [go_sem]
    have hc6 : (w.alloc (.cells #[.int .i64 17, .int .i64 sp, .int .i64 dp, .int .i64 0, .int .i64 0, .int .i64 0, .int .i64 0, .string bd] 29)).cell? ⟨w.heap.size, 6, none⟩ = some (.int .i64 0) := by simp [go_sem]
    have hc7 : (w.alloc (.cells #[.int .i64 17, .int .i64 sp, .int .i64 dp, .int .i64 0, .int .i64 0, .int .i64 0, .int .i64 0, .string bd] 29)).cell? ⟨w.heap.size, 7, none⟩ = some (.string bd) := by simp [go_sem]
    generalize hW : w.alloc (.cells #[.int .i64 17, .int .i64 sp, .int .i64 dp, .int .i64 0, .int .i64 0, .int .i64 0, .int .i64 0, .string bd] 29) = w1 at *
    clear hW
    refine wp_region_slotsP [] [(4, fun _ v => v = .pointer (some ⟨w.heap.size, 1, none⟩)), (5, fun _ v => v = .int .i64 sp), (6, fun _ v => v = .string (w16 sp)), (7, fun _ v => v = .pointer (some ⟨w.heap.size, 2, none⟩)), (8, fun _ v => v = .int .i64 dp), (9, fun _ v => v = .string (w16 dp)), (10, fun _ v => v = .string (w16 sp ++ (w16 dp))), (3, fun _ v => v = .string (w16 sp ++ (w16 dp)))] (by kernel_rfl) (by kernel_rfl) (by kernel_rfl) (by kernel_rfl) (by kernel_rfl) ?_ ?_ ?_
    · intro p hp
      simp only [List.mem_cons, List.not_mem_nil, or_false] at hp
      rcases hp with rfl | rfl | rfl | rfl | rfl | rfl | rfl | rfl
      all_goals (intro w w' v hb hv)
      all_goals first | exact hv | (obtain ⟨b, rfl, h⟩ := hv; exact ⟨b, rfl, byt_mono hb _ h⟩)
    · intro o ho
      simp only [List.mem_cons, List.not_mem_nil, or_false] at ho
      rcases ho with rfl | rfl | rfl | rfl | rfl | rfl | rfl | rfl
      all_goals refine stepOk2_plain rfl ?_
      · intro a w2 hb hl K Q hK
        have e1 : a.tmps[1]?.getD undef = .pointer (some ⟨w.heap.size, 0, none⟩) := gd (hl 1 (by decide))
        go_simp
        exact hK _ _ (Below.refl _ _) (by intro d hd; cases hd; exact rfl)
      · intro a w2 hb hl K Q hK
        have e4 : a.tmps[4]?.getD undef = .pointer (some ⟨w.heap.size, 1, none⟩) := gd (hl 4 (by decide))
        have hd1 := ccell hb _ _ _ hc1
        go_simp
        exact hK _ _ (Below.refl _ _) (by intro d hd; cases hd; exact rfl)
      · intro a w2 hb hl K Q hK
        have e5 : a.tmps[5]?.getD undef = .int .i64 sp := gd (hl 5 (by decide))
        go_simp
        refine (implWord16_c sp _ ⟨by omega, by omega⟩).mono ?_
        rintro e w' ⟨rfl, hb'⟩
        exact hK _ _ hb' (by intro d hd; cases hd; exact rfl)
      · intro a w2 hb hl K Q hK
        have e1 : a.tmps[1]?.getD undef = .pointer (some ⟨w.heap.size, 0, none⟩) := gd (hl 1 (by decide))
        go_simp
        exact hK _ _ (Below.refl _ _) (by intro d hd; cases hd; exact rfl)
      · intro a w2 hb hl K Q hK
        have e7 : a.tmps[7]?.getD undef = .pointer (some ⟨w.heap.size, 2, none⟩) := gd (hl 7 (by decide))
        have hd2 := ccell hb _ _ _ hc2
        go_simp
        exact hK _ _ (Below.refl _ _) (by intro d hd; cases hd; exact rfl)
      · intro a w2 hb hl K Q hK
        have e8 : a.tmps[8]?.getD undef = .int .i64 dp := gd (hl 8 (by decide))
        go_simp
        refine (implWord16_c dp _ ⟨by omega, by omega⟩).mono ?_
        rintro e w' ⟨rfl, hb'⟩
        exact hK _ _ hb' (by intro d hd; cases hd; exact rfl)
      · intro a w2 hb hl K Q hK
        have e6 : a.tmps[6]?.getD undef = .string (w16 sp) := gd (hl 6 (by decide))
        have e9 : a.tmps[9]?.getD undef = .string (w16 dp) := gd (hl 9 (by decide))
        go_simp
        exact hK _ _ (Below.refl _ _) (by intro d hd; cases hd; exact rfl)
      · intro a w2 hb hl K Q hK
        have e10 : a.tmps[10]?.getD undef = .string (w16 sp ++ (w16 dp)) := gd (hl 10 (by decide))
        go_simp
        exact hK _ _ (Below.refl _ _) (by intro d hd; cases hd; exact rfl)
    intro xT w2 hb hL
    have fx3 : xT 3 = .string (w16 sp ++ (w16 dp)) := hL _ (List.mem_of_getElem? (i := 7) rfl)
    simp only [List.map, putAll, fx3]
    clear hL fx3
    replace hk := ext_step hk (hk.size) hb
    replace hc0 := ccell hb _ _ _ hc0
    replace hc1 := ccell hb _ _ _ hc1
    replace hc2 := ccell hb _ _ _ hc2
    replace hc3 := ccell hb _ _ _ hc3
    replace hc4 := ccell hb _ _ _ hc4
    replace hc5 := ccell hb _ _ _ hc5
    replace hc6 := ccell hb _ _ _ hc6
    replace hc7 := ccell hb _ _ _ hc7
    try replace hz0 := Nat.lt_of_lt_of_le hz0 hb.size
    clear hb
    go_wp2_with fail
    refine wp_region_slotsP [] [(40, fun _ v => v = .string (w16 sp ++ (w16 dp))), (41, fun _ v => v = .pointer (some ⟨w.heap.size, 7, none⟩)), (42, fun _ v => v = .string bd), (43, fun _ v => v = .int .i64 ((bd).size : Int)), (44, fun _ v => v = .int .i64 (8 + ((bd).size : Int))), (45, fun _ v => v = .string (w16 ((8 + ((bd).size : Int))))), (46, fun _ v => v = .string (w16 sp ++ (w16 dp) ++ (w16 ((8 + ((bd).size : Int)))))), (47, fun _ v => v = .string (w16 0)), (48, fun _ v => v = .string (w16 sp ++ (w16 dp) ++ (w16 ((8 + ((bd).size : Int)))) ++ (w16 0))), (49, fun _ v => v = .pointer (some ⟨w.heap.size, 7, none⟩)), (50, fun _ v => v = .string bd), (51, fun _ v => v = .string (w16 sp ++ (w16 dp) ++ (w16 ((8 + ((bd).size : Int)))) ++ (w16 0) ++ bd)), (2, fun _ v => v = .string (w16 sp ++ (w16 dp) ++ (w16 ((8 + ((bd).size : Int)))) ++ (w16 0) ++ bd))] (by kernel_rfl) (by kernel_rfl) (by kernel_rfl) (by kernel_rfl) (by kernel_rfl) ?_ ?_ ?_
    · intro p hp
      simp only [List.mem_cons, List.not_mem_nil, or_false] at hp
      rcases hp with rfl | rfl | rfl | rfl | rfl | rfl | rfl | rfl | rfl | rfl | rfl | rfl | rfl
      all_goals (intro w w' v hb hv)
      all_goals first | exact hv | (obtain ⟨b, rfl, h⟩ := hv; exact ⟨b, rfl, byt_mono hb _ h⟩)
    · intro o ho
      simp only [List.mem_cons, List.not_mem_nil, or_false] at ho
      rcases ho with rfl | rfl | rfl | rfl | rfl | rfl | rfl | rfl | rfl | rfl | rfl | rfl | rfl
      all_goals refine stepOk2_plain rfl ?_
      · intro a w2 hb hl K Q hK
        have e3 : a.tmps[3]?.getD undef = .string (w16 sp ++ (w16 dp)) := gd (hl 3 (by decide))
        go_simp
        exact hK _ _ (Below.refl _ _) (by intro d hd; cases hd; exact rfl)
      · intro a w2 hb hl K Q hK
        have e1 : a.tmps[1]?.getD undef = .pointer (some ⟨w.heap.size, 0, none⟩) := gd (hl 1 (by decide))
        go_simp
        exact hK _ _ (Below.refl _ _) (by intro d hd; cases hd; exact rfl)
      · intro a w2 hb hl K Q hK
        have e41 : a.tmps[41]?.getD undef = .pointer (some ⟨w.heap.size, 7, none⟩) := gd (hl 41 (by decide))
        have hd7 := ccell hb _ _ _ hc7
        go_simp
        exact hK _ _ (Below.refl _ _) (by intro d hd; cases hd; exact rfl)
      · intro a w2 hb hl K Q hK
        have e42 : a.tmps[42]?.getD undef = .string bd := gd (hl 42 (by decide))
        go_simp
        exact hK _ _ (Below.refl _ _) (by intro d hd; cases hd; exact rfl)
      · intro a w2 hb hl K Q hK
        have e43 : a.tmps[43]?.getD undef = .int .i64 ((bd).size : Int) := gd (hl 43 (by decide))
        go_simp
        exact hK _ _ (Below.refl _ _) (by intro d hd; cases hd; exact rfl)
      · intro a w2 hb hl K Q hK
        have e44 : a.tmps[44]?.getD undef = .int .i64 (8 + ((bd).size : Int)) := gd (hl 44 (by decide))
        go_simp
        refine (implWord16_c ((8 + ((bd).size : Int))) _ ⟨by omega, by omega⟩).mono ?_
        rintro e w' ⟨rfl, hb'⟩
        exact hK _ _ hb' (by intro d hd; cases hd; exact rfl)
      · intro a w2 hb hl K Q hK
        have e40 : a.tmps[40]?.getD undef = .string (w16 sp ++ (w16 dp)) := gd (hl 40 (by decide))
        have e45 : a.tmps[45]?.getD undef = .string (w16 ((8 + ((bd).size : Int)))) := gd (hl 45 (by decide))
        go_simp
        exact hK _ _ (Below.refl _ _) (by intro d hd; cases hd; exact rfl)
      · intro a w2 hb hl K Q hK
        go_simp
        refine (implWord16_c 0 _ ⟨by omega, by omega⟩).mono ?_
        rintro e w' ⟨rfl, hb'⟩
        exact hK _ _ hb' (by intro d hd; cases hd; exact rfl)
      · intro a w2 hb hl K Q hK
        have e46 : a.tmps[46]?.getD undef = .string (w16 sp ++ (w16 dp) ++ (w16 ((8 + ((bd).size : Int))))) := gd (hl 46 (by decide))
        have e47 : a.tmps[47]?.getD undef = .string (w16 0) := gd (hl 47 (by decide))
        go_simp
        exact hK _ _ (Below.refl _ _) (by intro d hd; cases hd; exact rfl)
      · intro a w2 hb hl K Q hK
        have e1 : a.tmps[1]?.getD undef = .pointer (some ⟨w.heap.size, 0, none⟩) := gd (hl 1 (by decide))
        go_simp
        exact hK _ _ (Below.refl _ _) (by intro d hd; cases hd; exact rfl)
      · intro a w2 hb hl K Q hK
        have e49 : a.tmps[49]?.getD undef = .pointer (some ⟨w.heap.size, 7, none⟩) := gd (hl 49 (by decide))
        have hd7 := ccell hb _ _ _ hc7
        go_simp
        exact hK _ _ (Below.refl _ _) (by intro d hd; cases hd; exact rfl)
      · intro a w2 hb hl K Q hK
        have e48 : a.tmps[48]?.getD undef = .string (w16 sp ++ (w16 dp) ++ (w16 ((8 + ((bd).size : Int)))) ++ (w16 0)) := gd (hl 48 (by decide))
        have e50 : a.tmps[50]?.getD undef = .string bd := gd (hl 50 (by decide))
        go_simp
        exact hK _ _ (Below.refl _ _) (by intro d hd; cases hd; exact rfl)
      · intro a w2 hb hl K Q hK
        have e51 : a.tmps[51]?.getD undef = .string (w16 sp ++ (w16 dp) ++ (w16 ((8 + ((bd).size : Int)))) ++ (w16 0) ++ bd) := gd (hl 51 (by decide))
        go_simp
        exact hK _ _ (Below.refl _ _) (by intro d hd; cases hd; exact rfl)
    intro xT w3 hb hL
    have fx2 : xT 2 = .string (w16 sp ++ (w16 dp) ++ (w16 ((8 + ((bd).size : Int)))) ++ (w16 0) ++ bd) := hL _ (List.mem_of_getElem? (i := 12) rfl)
    simp only [List.map, putAll, fx2]
    clear hL fx2
    replace hk := ext_step hk (hk.size) hb
    replace hc0 := ccell hb _ _ _ hc0
    replace hc1 := ccell hb _ _ _ hc1
    replace hc2 := ccell hb _ _ _ hc2
    replace hc3 := ccell hb _ _ _ hc3
    replace hc4 := ccell hb _ _ _ hc4
    replace hc5 := ccell hb _ _ _ hc5
    replace hc6 := ccell hb _ _ _ hc6
    replace hc7 := ccell hb _ _ _ hc7
    try replace hz0 := Nat.lt_of_lt_of_le hz0 hb.size
    clear hb
    go_wp2
    refine bodyPost_ret (v := .string (segS0 17 sp dp 0 0 0 0 bd)) (by simp [results, Try.results137, go_sem, segS0]) rfl ?_
    exact ⟨rfl, hk⟩
set_option maxRecDepth 100000 in
set_option maxHeartbeats 8000000 in
theorem implBuildEth_c (dst src vl ty : Int) (bd : ByteArray) (w : World) (hz : bd.size ≤ 1048576) (h : ethB dst src vl ty bd = true) :
    Calls Try.prog 72 #[.agg #[.int .i64 dst, .int .i64 src, .int .i64 vl, .int .i64 ty, .string bd]] w fun e w' => e = .returned (.tuple #[.string (ethS dst src vl ty bd), .bool true]) ∧ Below w.heap.size w w' := by
  obtain ⟨h1, h2, h3, h4, h5, h6⟩ := ethB_t h
  obtain ⟨a1, b1⟩ := inB_t h1
  obtain ⟨a2, b2⟩ := inB_t h2
  obtain ⟨a3, b3⟩ := inB_t h3
  obtain ⟨a4, b4⟩ := inB_t h4
  obtain ⟨a6, b6⟩ := inB_t h6
  have z1 := macS_size h1
  have z2 := macS_size h2
  have z3 := w16_size (v := ty) (inBi (by omega) (by omega))
  have z4 : (w16 33024).size = 2 := w16_size (by decide)
  have zb : ¬ 9223372036854775807 < 14 + bd.size := by omega
  have zb2 : ¬ 9223372036854775807 < 18 + bd.size := by omega
  go_enter Try.func72, Try.ntmps72
  go_upto_region 1 with fail
  have hk : Below w.heap.size w (w.alloc (.cells #[.int .i64 dst, .int .i64 src, .int .i64 vl, .int .i64 ty, .string bd] 99)) := by go_grown
  have hz0 : w.heap.size < (w.alloc (.cells #[.int .i64 dst, .int .i64 src, .int .i64 vl, .int .i64 ty, .string bd] 99)).heap.size := by go_size
  have hc0 : (w.alloc (.cells #[.int .i64 dst, .int .i64 src, .int .i64 vl, .int .i64 ty, .string bd] 99)).cell? ⟨w.heap.size, 0, none⟩ = some (.int .i64 dst) := by simp [go_sem]
  have hc1 : (w.alloc (.cells #[.int .i64 dst, .int .i64 src, .int .i64 vl, .int .i64 ty, .string bd] 99)).cell? ⟨w.heap.size, 1, none⟩ = some (.int .i64 src) := by simp [go_sem]
  have hc2 : (w.alloc (.cells #[.int .i64 dst, .int .i64 src, .int .i64 vl, .int .i64 ty, .string bd] 99)).cell? ⟨w.heap.size, 2, none⟩ = some (.int .i64 vl) := by simp [go_sem]
  have hc3 : (w.alloc (.cells #[.int .i64 dst, .int .i64 src, .int .i64 vl, .int .i64 ty, .string bd] 99)).cell? ⟨w.heap.size, 3, none⟩ = some (.int .i64 ty) := by simp [go_sem]
  have hc4 : (w.alloc (.cells #[.int .i64 dst, .int .i64 src, .int .i64 vl, .int .i64 ty, .string bd] 99)).cell? ⟨w.heap.size, 4, none⟩ = some (.string bd) := by simp [go_sem]
  generalize hW : w.alloc (.cells #[.int .i64 dst, .int .i64 src, .int .i64 vl, .int .i64 ty, .string bd] 99) = w1 at *
  clear hW
  go_wp2_with fail
  refine (calls_bool (implEthOk_c dst src vl ty bd _ hz) h).mono ?_
  rintro e w2 ⟨rfl, hb⟩
  replace hk := ext_step hk hk.size hb
  replace hz0 := Nat.lt_of_lt_of_le hz0 hb.size
  replace hc0 := ccell hb _ _ _ hc0
  replace hc1 := ccell hb _ _ _ hc1
  replace hc2 := ccell hb _ _ _ hc2
  replace hc3 := ccell hb _ _ _ hc3
  replace hc4 := ccell hb _ _ _ hc4
  clear hb
  go_wp2_with fail
  refine wp_region_slotsP [] [(8, fun _ v => v = .pointer (some ⟨w.heap.size, 0, none⟩)), (9, fun _ v => v = .int .i64 dst), (10, fun _ v => v = .string (macS dst)), (11, fun _ v => v = .pointer (some ⟨w.heap.size, 1, none⟩)), (12, fun _ v => v = .int .i64 src), (13, fun _ v => v = .string (macS src)), (14, fun _ v => v = .string (macS dst ++ (macS src))), (4, fun _ v => v = .string (macS dst ++ (macS src)))] (by kernel_rfl) (by kernel_rfl) (by kernel_rfl) (by kernel_rfl) (by kernel_rfl) ?_ ?_ ?_
  · intro p hp
    simp only [List.mem_cons, List.not_mem_nil, or_false] at hp
    rcases hp with rfl | rfl | rfl | rfl | rfl | rfl | rfl | rfl
    all_goals (intro w w' v hb hv)
    all_goals first | exact hv | (obtain ⟨b, rfl, h⟩ := hv; exact ⟨b, rfl, byt_mono hb _ h⟩)
  · intro o ho
    simp only [List.mem_cons, List.not_mem_nil, or_false] at ho
    rcases ho with rfl | rfl | rfl | rfl | rfl | rfl | rfl | rfl
    all_goals refine stepOk2_plain rfl ?_
    · intro a w2 hb hl K Q hK
      have e1 : a.tmps[1]?.getD undef = .pointer (some ⟨w.heap.size, 0, none⟩) := gd (hl 1 (by decide))
      go_simp
      exact hK _ _ (Below.refl _ _) (by intro d hd; cases hd; exact rfl)
    · intro a w2 hb hl K Q hK
      have e8 : a.tmps[8]?.getD undef = .pointer (some ⟨w.heap.size, 0, none⟩) := gd (hl 8 (by decide))
      have hd0 := ccell hb _ _ _ hc0
      go_simp
      exact hK _ _ (Below.refl _ _) (by intro d hd; cases hd; exact rfl)
    · intro a w2 hb hl K Q hK
      have e9 : a.tmps[9]?.getD undef = .int .i64 dst := gd (hl 9 (by decide))
      go_simp
      refine (implMac_c dst _ (by assumption)).mono ?_
      rintro e w' ⟨rfl, hb'⟩
      exact hK _ _ hb' (by intro d hd; cases hd; exact rfl)
    · intro a w2 hb hl K Q hK
      have e1 : a.tmps[1]?.getD undef = .pointer (some ⟨w.heap.size, 0, none⟩) := gd (hl 1 (by decide))
      go_simp
      exact hK _ _ (Below.refl _ _) (by intro d hd; cases hd; exact rfl)
    · intro a w2 hb hl K Q hK
      have e11 : a.tmps[11]?.getD undef = .pointer (some ⟨w.heap.size, 1, none⟩) := gd (hl 11 (by decide))
      have hd1 := ccell hb _ _ _ hc1
      go_simp
      exact hK _ _ (Below.refl _ _) (by intro d hd; cases hd; exact rfl)
    · intro a w2 hb hl K Q hK
      have e12 : a.tmps[12]?.getD undef = .int .i64 src := gd (hl 12 (by decide))
      go_simp
      refine (implMac_c src _ (by assumption)).mono ?_
      rintro e w' ⟨rfl, hb'⟩
      exact hK _ _ hb' (by intro d hd; cases hd; exact rfl)
    · intro a w2 hb hl K Q hK
      have e10 : a.tmps[10]?.getD undef = .string (macS dst) := gd (hl 10 (by decide))
      have e13 : a.tmps[13]?.getD undef = .string (macS src) := gd (hl 13 (by decide))
      go_simp
      exact hK _ _ (Below.refl _ _) (by intro d hd; cases hd; exact rfl)
    · intro a w2 hb hl K Q hK
      have e14 : a.tmps[14]?.getD undef = .string (macS dst ++ (macS src)) := gd (hl 14 (by decide))
      go_simp
      exact hK _ _ (Below.refl _ _) (by intro d hd; cases hd; exact rfl)
  intro xT w3 hb hL
  have fx4 : xT 4 = .string (macS dst ++ (macS src)) := hL _ (List.mem_of_getElem? (i := 7) rfl)
  simp only [List.map, putAll, fx4]
  clear hL fx4
  replace hk := ext_step hk (hk.size) hb
  replace hc0 := ccell hb _ _ _ hc0
  replace hc1 := ccell hb _ _ _ hc1
  replace hc2 := ccell hb _ _ _ hc2
  replace hc3 := ccell hb _ _ _ hc3
  replace hc4 := ccell hb _ _ _ hc4
  try replace hz0 := Nat.lt_of_lt_of_le hz0 hb.size
  clear hb
  by_cases hv : 0 ≤ vl
  · have z5 := w16_size (v := vl) (inBi hv (by omega))
    go_wp2_with fail
    have hq1 := fun u => implWord16_c 33024 u ⟨by decide, by decide⟩
    have hq2 := fun u => implWord16_c vl u ⟨by omega, by omega⟩
    have hxt := fun t : Ext w3 =>  (t.cell hc2)
    refine wp_region_ext_lit (by kernel_rfl) (by kernel_rfl) ?_
    repeat (go_big_quiet_step (first | (go_at_call_of 55 (vl); exact ext_call (hq2 _)) | (go_at_call 55; exact ext_call (hq1 _))))
    refine wpQuiet_nil ?_
    intro _ hw'
    obtain ⟨tq, hw''⟩ := hw'
    subst hw''
    have hb := tq.below
    generalize hW0 : tq.wd = w4 at *
    clear hW0 hxt
    replace hk := ext_step hk hk.size hb
    replace hc0 := ccell hb _ _ _ hc0
    replace hc1 := ccell hb _ _ _ hc1
    replace hc2 := ccell hb _ _ _ hc2
    replace hc3 := ccell hb _ _ _ hc3
    replace hc4 := ccell hb _ _ _ hc4
    clear hb hq1 hq2
    go_wp2_with fail
    refine wp_region_slotsP [] [(25, fun _ v => v = .string (macS dst ++ macS src ++ (w16 33024 ++ (w16 vl)))), (26, fun _ v => v = .pointer (some ⟨w.heap.size, 3, none⟩)), (27, fun _ v => v = .int .i64 ty), (28, fun _ v => v = .string (w16 ty)), (29, fun _ v => v = .string (macS dst ++ macS src ++ (w16 33024 ++ (w16 vl)) ++ (w16 ty))), (30, fun _ v => v = .pointer (some ⟨w.heap.size, 4, none⟩)), (31, fun _ v => v = .string bd), (32, fun _ v => v = .string (macS dst ++ macS src ++ (w16 33024 ++ (w16 vl)) ++ (w16 ty) ++ bd)), (2, fun _ v => v = .string (macS dst ++ macS src ++ (w16 33024 ++ (w16 vl)) ++ (w16 ty) ++ bd)), (3, fun _ v => v = .bool true)] (by kernel_rfl) (by kernel_rfl) (by kernel_rfl) (by kernel_rfl) (by kernel_rfl) ?_ ?_ ?_
    · intro p hp
      simp only [List.mem_cons, List.not_mem_nil, or_false] at hp
      rcases hp with rfl | rfl | rfl | rfl | rfl | rfl | rfl | rfl | rfl | rfl
      all_goals (intro w w' v hb hv)
      all_goals first | exact hv | (obtain ⟨b, rfl, h⟩ := hv; exact ⟨b, rfl, byt_mono hb _ h⟩)
    · intro o ho
      simp only [List.mem_cons, List.not_mem_nil, or_false] at ho
      rcases ho with rfl | rfl | rfl | rfl | rfl | rfl | rfl | rfl | rfl | rfl
      all_goals refine stepOk2_plain rfl ?_
      · intro a w2 hb hl K Q hK
        have e4 : a.tmps[4]?.getD undef = .string (macS dst ++ macS src ++ (w16 33024 ++ (w16 vl))) := gd (hl 4 (by decide))
        go_simp
        exact hK _ _ (Below.refl _ _) (by intro d hd; cases hd; exact rfl)
      · intro a w2 hb hl K Q hK
        have e1 : a.tmps[1]?.getD undef = .pointer (some ⟨w.heap.size, 0, none⟩) := gd (hl 1 (by decide))
        go_simp
        exact hK _ _ (Below.refl _ _) (by intro d hd; cases hd; exact rfl)
      · intro a w2 hb hl K Q hK
        have e26 : a.tmps[26]?.getD undef = .pointer (some ⟨w.heap.size, 3, none⟩) := gd (hl 26 (by decide))
        have hd3 := ccell hb _ _ _ hc3
        go_simp
        exact hK _ _ (Below.refl _ _) (by intro d hd; cases hd; exact rfl)
      · intro a w2 hb hl K Q hK
        have e27 : a.tmps[27]?.getD undef = .int .i64 ty := gd (hl 27 (by decide))
        go_simp
        refine (implWord16_c ty _ ⟨by omega, by omega⟩).mono ?_
        rintro e w' ⟨rfl, hb'⟩
        exact hK _ _ hb' (by intro d hd; cases hd; exact rfl)
      · intro a w2 hb hl K Q hK
        have e25 : a.tmps[25]?.getD undef = .string (macS dst ++ macS src ++ (w16 33024 ++ (w16 vl))) := gd (hl 25 (by decide))
        have e28 : a.tmps[28]?.getD undef = .string (w16 ty) := gd (hl 28 (by decide))
        go_simp
        exact hK _ _ (Below.refl _ _) (by intro d hd; cases hd; exact rfl)
      · intro a w2 hb hl K Q hK
        have e1 : a.tmps[1]?.getD undef = .pointer (some ⟨w.heap.size, 0, none⟩) := gd (hl 1 (by decide))
        go_simp
        exact hK _ _ (Below.refl _ _) (by intro d hd; cases hd; exact rfl)
      · intro a w2 hb hl K Q hK
        have e30 : a.tmps[30]?.getD undef = .pointer (some ⟨w.heap.size, 4, none⟩) := gd (hl 30 (by decide))
        have hd4 := ccell hb _ _ _ hc4
        go_simp
        exact hK _ _ (Below.refl _ _) (by intro d hd; cases hd; exact rfl)
      · intro a w2 hb hl K Q hK
        have e29 : a.tmps[29]?.getD undef = .string (macS dst ++ macS src ++ (w16 33024 ++ (w16 vl)) ++ (w16 ty)) := gd (hl 29 (by decide))
        have e31 : a.tmps[31]?.getD undef = .string bd := gd (hl 31 (by decide))
        go_simp
        exact hK _ _ (Below.refl _ _) (by intro d hd; cases hd; exact rfl)
      · intro a w2 hb hl K Q hK
        have e32 : a.tmps[32]?.getD undef = .string (macS dst ++ macS src ++ (w16 33024 ++ (w16 vl)) ++ (w16 ty) ++ bd) := gd (hl 32 (by decide))
        go_simp
        exact hK _ _ (Below.refl _ _) (by intro d hd; cases hd; exact rfl)
      · intro a w2 hb hl K Q hK
        go_simp
        exact hK _ _ (Below.refl _ _) (by intro d hd; cases hd; exact rfl)
    intro xT w5 hb hL
    have fx2 : xT 2 = .string (macS dst ++ macS src ++ (w16 33024 ++ (w16 vl)) ++ (w16 ty) ++ bd) := hL _ (List.mem_of_getElem? (i := 8) rfl)
    have fx3 : xT 3 = .bool true := hL _ (List.mem_of_getElem? (i := 9) rfl)
    simp only [List.map, putAll, fx2, fx3]
    clear hL fx2 fx3
    replace hk := ext_step hk (hk.size) hb
    replace hc0 := ccell hb _ _ _ hc0
    replace hc1 := ccell hb _ _ _ hc1
    replace hc2 := ccell hb _ _ _ hc2
    replace hc3 := ccell hb _ _ _ hc3
    replace hc4 := ccell hb _ _ _ hc4
    try replace hz0 := Nat.lt_of_lt_of_le hz0 hb.size
    clear hb
    go_wp2
    refine bodyPost_ret (v := .tuple #[.string (ethS dst src vl ty bd), .bool true]) (by simp [results, Try.results72, go_sem, ethS, (show 0 ≤ vl by omega), ByteArray.append_assoc]) rfl ?_
    exact ⟨rfl, hk⟩
  · skip
    go_wp2_with fail
    refine wp_region_slotsP [] [(25, fun _ v => v = .string (macS dst ++ (macS src))), (26, fun _ v => v = .pointer (some ⟨w.heap.size, 3, none⟩)), (27, fun _ v => v = .int .i64 ty), (28, fun _ v => v = .string (w16 ty)), (29, fun _ v => v = .string (macS dst ++ (macS src) ++ (w16 ty))), (30, fun _ v => v = .pointer (some ⟨w.heap.size, 4, none⟩)), (31, fun _ v => v = .string bd), (32, fun _ v => v = .string (macS dst ++ (macS src) ++ (w16 ty) ++ bd)), (2, fun _ v => v = .string (macS dst ++ (macS src) ++ (w16 ty) ++ bd)), (3, fun _ v => v = .bool true)] (by kernel_rfl) (by kernel_rfl) (by kernel_rfl) (by kernel_rfl) (by kernel_rfl) ?_ ?_ ?_
    · intro p hp
      simp only [List.mem_cons, List.not_mem_nil, or_false] at hp
      rcases hp with rfl | rfl | rfl | rfl | rfl | rfl | rfl | rfl | rfl | rfl
      all_goals (intro w w' v hb hv)
      all_goals first | exact hv | (obtain ⟨b, rfl, h⟩ := hv; exact ⟨b, rfl, byt_mono hb _ h⟩)
    · intro o ho
      simp only [List.mem_cons, List.not_mem_nil, or_false] at ho
      rcases ho with rfl | rfl | rfl | rfl | rfl | rfl | rfl | rfl | rfl | rfl
      all_goals refine stepOk2_plain rfl ?_
      · intro a w2 hb hl K Q hK
        have e4 : a.tmps[4]?.getD undef = .string (macS dst ++ (macS src)) := gd (hl 4 (by decide))
        go_simp
        exact hK _ _ (Below.refl _ _) (by intro d hd; cases hd; exact rfl)
      · intro a w2 hb hl K Q hK
        have e1 : a.tmps[1]?.getD undef = .pointer (some ⟨w.heap.size, 0, none⟩) := gd (hl 1 (by decide))
        go_simp
        exact hK _ _ (Below.refl _ _) (by intro d hd; cases hd; exact rfl)
      · intro a w2 hb hl K Q hK
        have e26 : a.tmps[26]?.getD undef = .pointer (some ⟨w.heap.size, 3, none⟩) := gd (hl 26 (by decide))
        have hd3 := ccell hb _ _ _ hc3
        go_simp
        exact hK _ _ (Below.refl _ _) (by intro d hd; cases hd; exact rfl)
      · intro a w2 hb hl K Q hK
        have e27 : a.tmps[27]?.getD undef = .int .i64 ty := gd (hl 27 (by decide))
        go_simp
        refine (implWord16_c ty _ ⟨by omega, by omega⟩).mono ?_
        rintro e w' ⟨rfl, hb'⟩
        exact hK _ _ hb' (by intro d hd; cases hd; exact rfl)
      · intro a w2 hb hl K Q hK
        have e25 : a.tmps[25]?.getD undef = .string (macS dst ++ (macS src)) := gd (hl 25 (by decide))
        have e28 : a.tmps[28]?.getD undef = .string (w16 ty) := gd (hl 28 (by decide))
        go_simp
        exact hK _ _ (Below.refl _ _) (by intro d hd; cases hd; exact rfl)
      · intro a w2 hb hl K Q hK
        have e1 : a.tmps[1]?.getD undef = .pointer (some ⟨w.heap.size, 0, none⟩) := gd (hl 1 (by decide))
        go_simp
        exact hK _ _ (Below.refl _ _) (by intro d hd; cases hd; exact rfl)
      · intro a w2 hb hl K Q hK
        have e30 : a.tmps[30]?.getD undef = .pointer (some ⟨w.heap.size, 4, none⟩) := gd (hl 30 (by decide))
        have hd4 := ccell hb _ _ _ hc4
        go_simp
        exact hK _ _ (Below.refl _ _) (by intro d hd; cases hd; exact rfl)
      · intro a w2 hb hl K Q hK
        have e29 : a.tmps[29]?.getD undef = .string (macS dst ++ (macS src) ++ (w16 ty)) := gd (hl 29 (by decide))
        have e31 : a.tmps[31]?.getD undef = .string bd := gd (hl 31 (by decide))
        go_simp
        exact hK _ _ (Below.refl _ _) (by intro d hd; cases hd; exact rfl)
      · intro a w2 hb hl K Q hK
        have e32 : a.tmps[32]?.getD undef = .string (macS dst ++ (macS src) ++ (w16 ty) ++ bd) := gd (hl 32 (by decide))
        go_simp
        exact hK _ _ (Below.refl _ _) (by intro d hd; cases hd; exact rfl)
      · intro a w2 hb hl K Q hK
        go_simp
        exact hK _ _ (Below.refl _ _) (by intro d hd; cases hd; exact rfl)
    intro xT w5 hb hL
    have fx2 : xT 2 = .string (macS dst ++ (macS src) ++ (w16 ty) ++ bd) := hL _ (List.mem_of_getElem? (i := 8) rfl)
    have fx3 : xT 3 = .bool true := hL _ (List.mem_of_getElem? (i := 9) rfl)
    simp only [List.map, putAll, fx2, fx3]
    clear hL fx2 fx3
    replace hk := ext_step hk (hk.size) hb
    replace hc0 := ccell hb _ _ _ hc0
    replace hc1 := ccell hb _ _ _ hc1
    replace hc2 := ccell hb _ _ _ hc2
    replace hc3 := ccell hb _ _ _ hc3
    replace hc4 := ccell hb _ _ _ hc4
    try replace hz0 := Nat.lt_of_lt_of_le hz0 hb.size
    clear hb
    go_wp2
    refine bodyPost_ret (v := .tuple #[.string (ethS dst src vl ty bd), .bool true]) (by simp [results, Try.results72, go_sem, ethS, (show ¬ 0 ≤ vl by omega), ByteArray.append_assoc]) rfl ?_
    exact ⟨rfl, hk⟩
set_option maxRecDepth 100000 in
set_option maxHeartbeats 8000000 in
theorem specBuildEth_c (dst src vl ty : Int) (bd : ByteArray) (w : World) (hz : bd.size ≤ 1048576) (h : ethB dst src vl ty bd = true) :
    Calls Try.prog 118 #[.agg #[.int .i64 dst, .int .i64 src, .int .i64 vl, .int .i64 ty, .string bd]] w fun e w' => e = .returned (.tuple #[.string (ethS dst src vl ty bd), .bool true]) ∧ Below w.heap.size w w' := by
  obtain ⟨h1, h2, h3, h4, h5, h6⟩ := ethB_t h
  obtain ⟨a1, b1⟩ := inB_t h1
  obtain ⟨a2, b2⟩ := inB_t h2
  obtain ⟨a3, b3⟩ := inB_t h3
  obtain ⟨a4, b4⟩ := inB_t h4
  obtain ⟨a6, b6⟩ := inB_t h6
  have z1 := macS_size h1
  have z2 := macS_size h2
  have z3 := w16_size (v := ty) (inBi (by omega) (by omega))
  have z4 : (w16 33024).size = 2 := w16_size (by decide)
  have zb : ¬ 9223372036854775807 < 14 + bd.size := by omega
  have zb2 : ¬ 9223372036854775807 < 18 + bd.size := by omega
  go_enter Try.func118, Try.ntmps118
  go_upto_region 1 with fail
  have hk : Below w.heap.size w (w.alloc (.cells #[.int .i64 dst, .int .i64 src, .int .i64 vl, .int .i64 ty, .string bd] 99)) := by go_grown
  have hz0 : w.heap.size < (w.alloc (.cells #[.int .i64 dst, .int .i64 src, .int .i64 vl, .int .i64 ty, .string bd] 99)).heap.size := by go_size
  have hc0 : (w.alloc (.cells #[.int .i64 dst, .int .i64 src, .int .i64 vl, .int .i64 ty, .string bd] 99)).cell? ⟨w.heap.size, 0, none⟩ = some (.int .i64 dst) := by simp [go_sem]
  have hc1 : (w.alloc (.cells #[.int .i64 dst, .int .i64 src, .int .i64 vl, .int .i64 ty, .string bd] 99)).cell? ⟨w.heap.size, 1, none⟩ = some (.int .i64 src) := by simp [go_sem]
  have hc2 : (w.alloc (.cells #[.int .i64 dst, .int .i64 src, .int .i64 vl, .int .i64 ty, .string bd] 99)).cell? ⟨w.heap.size, 2, none⟩ = some (.int .i64 vl) := by simp [go_sem]
  have hc3 : (w.alloc (.cells #[.int .i64 dst, .int .i64 src, .int .i64 vl, .int .i64 ty, .string bd] 99)).cell? ⟨w.heap.size, 3, none⟩ = some (.int .i64 ty) := by simp [go_sem]
  have hc4 : (w.alloc (.cells #[.int .i64 dst, .int .i64 src, .int .i64 vl, .int .i64 ty, .string bd] 99)).cell? ⟨w.heap.size, 4, none⟩ = some (.string bd) := by simp [go_sem]
  generalize hW : w.alloc (.cells #[.int .i64 dst, .int .i64 src, .int .i64 vl, .int .i64 ty, .string bd] 99) = w1 at *
  clear hW
  go_wp2_with fail
  refine (calls_bool (specEthOk_c dst src vl ty bd _ hz) h).mono ?_
  rintro e w2 ⟨rfl, hb⟩
  replace hk := ext_step hk hk.size hb
  replace hz0 := Nat.lt_of_lt_of_le hz0 hb.size
  replace hc0 := ccell hb _ _ _ hc0
  replace hc1 := ccell hb _ _ _ hc1
  replace hc2 := ccell hb _ _ _ hc2
  replace hc3 := ccell hb _ _ _ hc3
  replace hc4 := ccell hb _ _ _ hc4
  clear hb
  go_wp2_with fail
  refine wp_region_slotsP [] [(8, fun _ v => v = .pointer (some ⟨w.heap.size, 0, none⟩)), (9, fun _ v => v = .int .i64 dst), (10, fun _ v => v = .string (macS dst)), (11, fun _ v => v = .pointer (some ⟨w.heap.size, 1, none⟩)), (12, fun _ v => v = .int .i64 src), (13, fun _ v => v = .string (macS src)), (14, fun _ v => v = .string (macS dst ++ (macS src))), (4, fun _ v => v = .string (macS dst ++ (macS src)))] (by kernel_rfl) (by kernel_rfl) (by kernel_rfl) (by kernel_rfl) (by kernel_rfl) ?_ ?_ ?_
  · intro p hp
    simp only [List.mem_cons, List.not_mem_nil, or_false] at hp
    rcases hp with rfl | rfl | rfl | rfl | rfl | rfl | rfl | rfl
    all_goals (intro w w' v hb hv)
    all_goals first | exact hv | (obtain ⟨b, rfl, h⟩ := hv; exact ⟨b, rfl, byt_mono hb _ h⟩)
  · intro o ho
    simp only [List.mem_cons, List.not_mem_nil, or_false] at ho
    rcases ho with rfl | rfl | rfl | rfl | rfl | rfl | rfl | rfl
    all_goals refine stepOk2_plain rfl ?_
    · intro a w2 hb hl K Q hK
      have e1 : a.tmps[1]?.getD undef = .pointer (some ⟨w.heap.size, 0, none⟩) := gd (hl 1 (by decide))
      go_simp
      exact hK _ _ (Below.refl _ _) (by intro d hd; cases hd; exact rfl)
    · intro a w2 hb hl K Q hK
      have e8 : a.tmps[8]?.getD undef = .pointer (some ⟨w.heap.size, 0, none⟩) := gd (hl 8 (by decide))
      have hd0 := ccell hb _ _ _ hc0
      go_simp
      exact hK _ _ (Below.refl _ _) (by intro d hd; cases hd; exact rfl)
    · intro a w2 hb hl K Q hK
      have e9 : a.tmps[9]?.getD undef = .int .i64 dst := gd (hl 9 (by decide))
      go_simp
      refine (specMac_c dst _ (by assumption)).mono ?_
      rintro e w' ⟨rfl, hb'⟩
      exact hK _ _ hb' (by intro d hd; cases hd; exact rfl)
    · intro a w2 hb hl K Q hK
      have e1 : a.tmps[1]?.getD undef = .pointer (some ⟨w.heap.size, 0, none⟩) := gd (hl 1 (by decide))
      go_simp
      exact hK _ _ (Below.refl _ _) (by intro d hd; cases hd; exact rfl)
    · intro a w2 hb hl K Q hK
      have e11 : a.tmps[11]?.getD undef = .pointer (some ⟨w.heap.size, 1, none⟩) := gd (hl 11 (by decide))
      have hd1 := ccell hb _ _ _ hc1
      go_simp
      exact hK _ _ (Below.refl _ _) (by intro d hd; cases hd; exact rfl)
    · intro a w2 hb hl K Q hK
      have e12 : a.tmps[12]?.getD undef = .int .i64 src := gd (hl 12 (by decide))
      go_simp
      refine (specMac_c src _ (by assumption)).mono ?_
      rintro e w' ⟨rfl, hb'⟩
      exact hK _ _ hb' (by intro d hd; cases hd; exact rfl)
    · intro a w2 hb hl K Q hK
      have e10 : a.tmps[10]?.getD undef = .string (macS dst) := gd (hl 10 (by decide))
      have e13 : a.tmps[13]?.getD undef = .string (macS src) := gd (hl 13 (by decide))
      go_simp
      exact hK _ _ (Below.refl _ _) (by intro d hd; cases hd; exact rfl)
    · intro a w2 hb hl K Q hK
      have e14 : a.tmps[14]?.getD undef = .string (macS dst ++ (macS src)) := gd (hl 14 (by decide))
      go_simp
      exact hK _ _ (Below.refl _ _) (by intro d hd; cases hd; exact rfl)
  intro xT w3 hb hL
  have fx4 : xT 4 = .string (macS dst ++ (macS src)) := hL _ (List.mem_of_getElem? (i := 7) rfl)
  simp only [List.map, putAll, fx4]
  clear hL fx4
  replace hk := ext_step hk (hk.size) hb
  replace hc0 := ccell hb _ _ _ hc0
  replace hc1 := ccell hb _ _ _ hc1
  replace hc2 := ccell hb _ _ _ hc2
  replace hc3 := ccell hb _ _ _ hc3
  replace hc4 := ccell hb _ _ _ hc4
  try replace hz0 := Nat.lt_of_lt_of_le hz0 hb.size
  clear hb
  by_cases hv : 0 ≤ vl
  · have z5 := w16_size (v := vl) (inBi hv (by omega))
    go_wp2_with fail
    have hq1 := fun u => specWord16_c 33024 u ⟨by decide, by decide⟩
    have hq2 := fun u => specWord16_c vl u ⟨by omega, by omega⟩
    have hxt := fun t : Ext w3 =>  (t.cell hc2)
    refine wp_region_ext_lit (by kernel_rfl) (by kernel_rfl) ?_
    repeat (go_big_quiet_step (first | (go_at_call_of 51 (vl); exact ext_call (hq2 _)) | (go_at_call 51; exact ext_call (hq1 _))))
    refine wpQuiet_nil ?_
    intro _ hw'
    obtain ⟨tq, hw''⟩ := hw'
    subst hw''
    have hb := tq.below
    generalize hW0 : tq.wd = w4 at *
    clear hW0 hxt
    replace hk := ext_step hk hk.size hb
    replace hc0 := ccell hb _ _ _ hc0
    replace hc1 := ccell hb _ _ _ hc1
    replace hc2 := ccell hb _ _ _ hc2
    replace hc3 := ccell hb _ _ _ hc3
    replace hc4 := ccell hb _ _ _ hc4
    clear hb hq1 hq2
    go_wp2_with fail
    refine wp_region_slotsP [] [(25, fun _ v => v = .string (macS dst ++ macS src ++ (w16 33024) ++ (w16 vl))), (26, fun _ v => v = .pointer (some ⟨w.heap.size, 3, none⟩)), (27, fun _ v => v = .int .i64 ty), (28, fun _ v => v = .string (w16 ty)), (29, fun _ v => v = .string (macS dst ++ macS src ++ (w16 33024) ++ (w16 vl) ++ (w16 ty))), (30, fun _ v => v = .pointer (some ⟨w.heap.size, 4, none⟩)), (31, fun _ v => v = .string bd), (32, fun _ v => v = .string (macS dst ++ macS src ++ (w16 33024) ++ (w16 vl) ++ (w16 ty) ++ bd)), (2, fun _ v => v = .string (macS dst ++ macS src ++ (w16 33024) ++ (w16 vl) ++ (w16 ty) ++ bd)), (3, fun _ v => v = .bool true)] (by kernel_rfl) (by kernel_rfl) (by kernel_rfl) (by kernel_rfl) (by kernel_rfl) ?_ ?_ ?_
    · intro p hp
      simp only [List.mem_cons, List.not_mem_nil, or_false] at hp
      rcases hp with rfl | rfl | rfl | rfl | rfl | rfl | rfl | rfl | rfl | rfl
      all_goals (intro w w' v hb hv)
      all_goals first | exact hv | (obtain ⟨b, rfl, h⟩ := hv; exact ⟨b, rfl, byt_mono hb _ h⟩)
    · intro o ho
      simp only [List.mem_cons, List.not_mem_nil, or_false] at ho
      rcases ho with rfl | rfl | rfl | rfl | rfl | rfl | rfl | rfl | rfl | rfl
      all_goals refine stepOk2_plain rfl ?_
      · intro a w2 hb hl K Q hK
        have e4 : a.tmps[4]?.getD undef = .string (macS dst ++ macS src ++ (w16 33024) ++ (w16 vl)) := gd (hl 4 (by decide))
        go_simp
        exact hK _ _ (Below.refl _ _) (by intro d hd; cases hd; exact rfl)
      · intro a w2 hb hl K Q hK
        have e1 : a.tmps[1]?.getD undef = .pointer (some ⟨w.heap.size, 0, none⟩) := gd (hl 1 (by decide))
        go_simp
        exact hK _ _ (Below.refl _ _) (by intro d hd; cases hd; exact rfl)
      · intro a w2 hb hl K Q hK
        have e26 : a.tmps[26]?.getD undef = .pointer (some ⟨w.heap.size, 3, none⟩) := gd (hl 26 (by decide))
        have hd3 := ccell hb _ _ _ hc3
        go_simp
        exact hK _ _ (Below.refl _ _) (by intro d hd; cases hd; exact rfl)
      · intro a w2 hb hl K Q hK
        have e27 : a.tmps[27]?.getD undef = .int .i64 ty := gd (hl 27 (by decide))
        go_simp
        refine (specWord16_c ty _ ⟨by omega, by omega⟩).mono ?_
        rintro e w' ⟨rfl, hb'⟩
        exact hK _ _ hb' (by intro d hd; cases hd; exact rfl)
      · intro a w2 hb hl K Q hK
        have e25 : a.tmps[25]?.getD undef = .string (macS dst ++ macS src ++ (w16 33024) ++ (w16 vl)) := gd (hl 25 (by decide))
        have e28 : a.tmps[28]?.getD undef = .string (w16 ty) := gd (hl 28 (by decide))
        go_simp
        exact hK _ _ (Below.refl _ _) (by intro d hd; cases hd; exact rfl)
      · intro a w2 hb hl K Q hK
        have e1 : a.tmps[1]?.getD undef = .pointer (some ⟨w.heap.size, 0, none⟩) := gd (hl 1 (by decide))
        go_simp
        exact hK _ _ (Below.refl _ _) (by intro d hd; cases hd; exact rfl)
      · intro a w2 hb hl K Q hK
        have e30 : a.tmps[30]?.getD undef = .pointer (some ⟨w.heap.size, 4, none⟩) := gd (hl 30 (by decide))
        have hd4 := ccell hb _ _ _ hc4
        go_simp
        exact hK _ _ (Below.refl _ _) (by intro d hd; cases hd; exact rfl)
      · intro a w2 hb hl K Q hK
        have e29 : a.tmps[29]?.getD undef = .string (macS dst ++ macS src ++ (w16 33024) ++ (w16 vl) ++ (w16 ty)) := gd (hl 29 (by decide))
        have e31 : a.tmps[31]?.getD undef = .string bd := gd (hl 31 (by decide))
        go_simp
        exact hK _ _ (Below.refl _ _) (by intro d hd; cases hd; exact rfl)
      · intro a w2 hb hl K Q hK
        have e32 : a.tmps[32]?.getD undef = .string (macS dst ++ macS src ++ (w16 33024) ++ (w16 vl) ++ (w16 ty) ++ bd) := gd (hl 32 (by decide))
        go_simp
        exact hK _ _ (Below.refl _ _) (by intro d hd; cases hd; exact rfl)
      · intro a w2 hb hl K Q hK
        go_simp
        exact hK _ _ (Below.refl _ _) (by intro d hd; cases hd; exact rfl)
    intro xT w5 hb hL
    have fx2 : xT 2 = .string (macS dst ++ macS src ++ (w16 33024) ++ (w16 vl) ++ (w16 ty) ++ bd) := hL _ (List.mem_of_getElem? (i := 8) rfl)
    have fx3 : xT 3 = .bool true := hL _ (List.mem_of_getElem? (i := 9) rfl)
    simp only [List.map, putAll, fx2, fx3]
    clear hL fx2 fx3
    replace hk := ext_step hk (hk.size) hb
    replace hc0 := ccell hb _ _ _ hc0
    replace hc1 := ccell hb _ _ _ hc1
    replace hc2 := ccell hb _ _ _ hc2
    replace hc3 := ccell hb _ _ _ hc3
    replace hc4 := ccell hb _ _ _ hc4
    try replace hz0 := Nat.lt_of_lt_of_le hz0 hb.size
    clear hb
    go_wp2
    refine bodyPost_ret (v := .tuple #[.string (ethS dst src vl ty bd), .bool true]) (by simp [results, Try.results118, go_sem, ethS, (show 0 ≤ vl by omega), ByteArray.append_assoc]) rfl ?_
    exact ⟨rfl, hk⟩
  · skip
    go_wp2_with fail
    refine wp_region_slotsP [] [(25, fun _ v => v = .string (macS dst ++ (macS src))), (26, fun _ v => v = .pointer (some ⟨w.heap.size, 3, none⟩)), (27, fun _ v => v = .int .i64 ty), (28, fun _ v => v = .string (w16 ty)), (29, fun _ v => v = .string (macS dst ++ (macS src) ++ (w16 ty))), (30, fun _ v => v = .pointer (some ⟨w.heap.size, 4, none⟩)), (31, fun _ v => v = .string bd), (32, fun _ v => v = .string (macS dst ++ (macS src) ++ (w16 ty) ++ bd)), (2, fun _ v => v = .string (macS dst ++ (macS src) ++ (w16 ty) ++ bd)), (3, fun _ v => v = .bool true)] (by kernel_rfl) (by kernel_rfl) (by kernel_rfl) (by kernel_rfl) (by kernel_rfl) ?_ ?_ ?_
    · intro p hp
      simp only [List.mem_cons, List.not_mem_nil, or_false] at hp
      rcases hp with rfl | rfl | rfl | rfl | rfl | rfl | rfl | rfl | rfl | rfl
      all_goals (intro w w' v hb hv)
      all_goals first | exact hv | (obtain ⟨b, rfl, h⟩ := hv; exact ⟨b, rfl, byt_mono hb _ h⟩)
    · intro o ho
      simp only [List.mem_cons, List.not_mem_nil, or_false] at ho
      rcases ho with rfl | rfl | rfl | rfl | rfl | rfl | rfl | rfl | rfl | rfl
      all_goals refine stepOk2_plain rfl ?_
      · intro a w2 hb hl K Q hK
        have e4 : a.tmps[4]?.getD undef = .string (macS dst ++ (macS src)) := gd (hl 4 (by decide))
        go_simp
        exact hK _ _ (Below.refl _ _) (by intro d hd; cases hd; exact rfl)
      · intro a w2 hb hl K Q hK
        have e1 : a.tmps[1]?.getD undef = .pointer (some ⟨w.heap.size, 0, none⟩) := gd (hl 1 (by decide))
        go_simp
        exact hK _ _ (Below.refl _ _) (by intro d hd; cases hd; exact rfl)
      · intro a w2 hb hl K Q hK
        have e26 : a.tmps[26]?.getD undef = .pointer (some ⟨w.heap.size, 3, none⟩) := gd (hl 26 (by decide))
        have hd3 := ccell hb _ _ _ hc3
        go_simp
        exact hK _ _ (Below.refl _ _) (by intro d hd; cases hd; exact rfl)
      · intro a w2 hb hl K Q hK
        have e27 : a.tmps[27]?.getD undef = .int .i64 ty := gd (hl 27 (by decide))
        go_simp
        refine (specWord16_c ty _ ⟨by omega, by omega⟩).mono ?_
        rintro e w' ⟨rfl, hb'⟩
        exact hK _ _ hb' (by intro d hd; cases hd; exact rfl)
      · intro a w2 hb hl K Q hK
        have e25 : a.tmps[25]?.getD undef = .string (macS dst ++ (macS src)) := gd (hl 25 (by decide))
        have e28 : a.tmps[28]?.getD undef = .string (w16 ty) := gd (hl 28 (by decide))
        go_simp
        exact hK _ _ (Below.refl _ _) (by intro d hd; cases hd; exact rfl)
      · intro a w2 hb hl K Q hK
        have e1 : a.tmps[1]?.getD undef = .pointer (some ⟨w.heap.size, 0, none⟩) := gd (hl 1 (by decide))
        go_simp
        exact hK _ _ (Below.refl _ _) (by intro d hd; cases hd; exact rfl)
      · intro a w2 hb hl K Q hK
        have e30 : a.tmps[30]?.getD undef = .pointer (some ⟨w.heap.size, 4, none⟩) := gd (hl 30 (by decide))
        have hd4 := ccell hb _ _ _ hc4
        go_simp
        exact hK _ _ (Below.refl _ _) (by intro d hd; cases hd; exact rfl)
      · intro a w2 hb hl K Q hK
        have e29 : a.tmps[29]?.getD undef = .string (macS dst ++ (macS src) ++ (w16 ty)) := gd (hl 29 (by decide))
        have e31 : a.tmps[31]?.getD undef = .string bd := gd (hl 31 (by decide))
        go_simp
        exact hK _ _ (Below.refl _ _) (by intro d hd; cases hd; exact rfl)
      · intro a w2 hb hl K Q hK
        have e32 : a.tmps[32]?.getD undef = .string (macS dst ++ (macS src) ++ (w16 ty) ++ bd) := gd (hl 32 (by decide))
        go_simp
        exact hK _ _ (Below.refl _ _) (by intro d hd; cases hd; exact rfl)
      · intro a w2 hb hl K Q hK
        go_simp
        exact hK _ _ (Below.refl _ _) (by intro d hd; cases hd; exact rfl)
    intro xT w5 hb hL
    have fx2 : xT 2 = .string (macS dst ++ (macS src) ++ (w16 ty) ++ bd) := hL _ (List.mem_of_getElem? (i := 8) rfl)
    have fx3 : xT 3 = .bool true := hL _ (List.mem_of_getElem? (i := 9) rfl)
    simp only [List.map, putAll, fx2, fx3]
    clear hL fx2 fx3
    replace hk := ext_step hk (hk.size) hb
    replace hc0 := ccell hb _ _ _ hc0
    replace hc1 := ccell hb _ _ _ hc1
    replace hc2 := ccell hb _ _ _ hc2
    replace hc3 := ccell hb _ _ _ hc3
    replace hc4 := ccell hb _ _ _ hc4
    try replace hz0 := Nat.lt_of_lt_of_le hz0 hb.size
    clear hb
    go_wp2
    refine bodyPost_ret (v := .tuple #[.string (ethS dst src vl ty bd), .bool true]) (by simp [results, Try.results118, go_sem, ethS, (show ¬ 0 ≤ vl by omega), ByteArray.append_assoc]) rfl ?_
    exact ⟨rfl, hk⟩
end Go.Proofs.Ytifbfmafogmemaa
