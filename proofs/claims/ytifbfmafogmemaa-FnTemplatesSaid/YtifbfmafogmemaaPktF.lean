/- Contracts: BuildSegment, BuildImage: impl and spec. -/
import Derived.Test.YtifbfmafogmemaaPktE
import Derived.Test.YtifbfmafogmemaaPktS
import Derived.Test.YtifbfmafogmemaaSlots5
namespace Go.Proofs.Ytifbfmafogmemaa
set_option linter.unusedSimpArgs false
set_option linter.unusedVariables false
open Go.RowKit Go.ChangeShapes Go.WideShapes
theorem w32_zero : w32 0 = w16 0 ++ w16 0 := by decide +kernel
set_option maxHeartbeats 1000000 in
theorem sumPlace_c (kd : Int) (w : World) : Calls Try.prog 65 #[.int .i64 kd] w fun e w' => e = .returned (.int .i64 (plcI kd)) ∧ Below w.heap.size w w' := by
  by_cases h : kd = 6
  · subst h
    go_enter Try.func65, Try.ntmps65
    go_wp2
    go_ret
    exact ⟨rfl, Below.refl _ _⟩
  · go_enter Try.func65, Try.ntmps65
    go_wp2
    go_ret
    exact ⟨ret_int (by rw [plcI, if_neg h]), Below.refl _ _⟩
set_option maxRecDepth 100000 in
set_option maxHeartbeats 1500000 in
theorem implBuildSegment_c (si di kd sp dp sq ak fl wn : Int) (bd : ByteArray) (w : World) (hz : bd.size ≤ 1048576) (hsi : inB si 0 4294967295 = true) (hdi : inB di 0 4294967295 = true) :
    Calls Try.prog 70 #[.int .i64 si, .int .i64 di, .agg #[.int .i64 kd, .int .i64 sp, .int .i64 dp, .int .i64 sq, .int .i64 ak, .int .i64 fl, .int .i64 wn, .string bd]] w fun e w' => e = .returned (.tuple #[.string (if segB kd sp dp sq ak fl wn bd then segS si di kd sp dp sq ak fl wn bd else ByteArray.empty), .bool (segB kd sp dp sq ak fl wn bd)]) ∧ Below w.heap.size w w' := by
  cases hok : segB kd sp dp sq ak fl wn bd
  · rw [if_neg (by decide)]
    go_enter Try.func70, Try.ntmps70
    go_wp2_with fail
    refine (calls_bool (implSegmentOk_c kd sp dp sq ak fl wn bd _ hz) hok).mono ?_
    rintro e w1 ⟨rfl, hb⟩
    have hk : Below w.heap.size w w1 := ext_step (by go_grown) (by go_size) hb
    go_wp2
    refine bodyPost_ret (v := .tuple #[.string ByteArray.empty, .bool false]) (by simp [results, Try.results70, go_sem]; rfl) rfl ?_
    exact ⟨rfl, hk⟩
  · rw [if_pos rfl]
    obtain ⟨⟨h1, h2, h9⟩, h0⟩ := segB_t hok
    obtain ⟨a1, b1⟩ := inB_t h1
    obtain ⟨a2, b2⟩ := inB_t h2
    obtain ⟨a3, b3⟩ := inB_t hsi
    obtain ⟨a4, b4⟩ := inB_t hdi
    have z1 := w16_size h1
    have z2 := w16_size h2
    have z7 : (w16 0).size = 2 := w16_size (by decide)
    have z8 : (w32 0).size = 4 := w32_size (by decide)
    rcases h0 with ⟨rfl, h3, h4, h5, h6⟩ | ⟨rfl, rfl, rfl, rfl, rfl⟩
    · obtain ⟨a5, b5⟩ := inB_t h3
      obtain ⟨a6, b6⟩ := inB_t h4
      obtain ⟨a7, b7⟩ := inB_t h5
      obtain ⟨a8, b8⟩ := inB_t h6
      have k1 := u8w (x := fl) (by omega) (by omega)
      have z3 := w32_size h3
      have z4 := w32_size h4
      have z5 : (strOfNums [80, fl]).size = 2 := rfl
      have z6 := w16_size h6
      have zb : ¬ 9223372036854775807 < 20 + bd.size := by omega
      obtain ⟨S0, hS0⟩ : ∃ S, segS0 6 sp dp sq ak fl wn bd = S := ⟨_, rfl⟩
      have hss := segS0_size hok
      rw [hS0] at hss
      simp only [if_pos] at hss
      have hsl : S0.size ≤ 340 := by omega
      clear hss
      have hps0 : psB si di 6 (S0.size : Int) = true := by simp only [psB, hsi, hdi, Bool.true_and, Bool.and_eq_true]; exact ⟨by decide, inBi (by omega) (by omega)⟩
      have hps := fun u => implPseudoHeader_c si di 6 S0.size u hps0
      obtain ⟨H, hH⟩ : ∃ H, psH si di 6 (S0.size : Int) = H := ⟨_, rfl⟩
      have zH : H.size = 12 := by rw [← hH]; simp only [psH, ByteArray.size_append, strOfNums_size, w32_size hsi, w32_size hdi, w16_size (inBi (show (0 : Int) ≤ (S0.size : Int) by omega) (show (S0.size : Int) ≤ 65535 by omega))]; rfl
      simp only [hH] at hps
      have hck := fun u => implChecksum_c (H ++ S0) u (by rw [ByteArray.size_append]; omega)
      obtain ⟨x, hx⟩ : ∃ x, chk (H ++ S0) = x := ⟨_, rfl⟩
      have hxb := chk_bd (H ++ S0)
      rw [hx] at hxb
      simp only [hx] at hck
      rw [segS, hS0, segF, hH, hx, show plcI 6 = 16 from rfl, show fixS 6 x = x from if_neg (by simp)]
      have hzz : ¬ 9223372036854775807 < 12 + S0.size := by omega
      have zcat : (H ++ S0).size = 12 + S0.size := by rw [ByteArray.size_append, zH]
      have hbs := fun u => bareSegment_c 6 sp dp sq ak fl wn bd u hok
      simp only [hS0] at hbs
      clear hH hx hS0 hps0
      go_enter Try.func70, Try.ntmps70
      go_upto_region 1 with fail
      have hk : Below w.heap.size w (w.alloc (.cells #[.int .i64 6, .int .i64 sp, .int .i64 dp, .int .i64 sq, .int .i64 ak, .int .i64 fl, .int .i64 wn, .string bd] 29)) := by go_grown
      have hz0 : w.heap.size < (w.alloc (.cells #[.int .i64 6, .int .i64 sp, .int .i64 dp, .int .i64 sq, .int .i64 ak, .int .i64 fl, .int .i64 wn, .string bd] 29)).heap.size := by go_size
      have hc0 : (w.alloc (.cells #[.int .i64 6, .int .i64 sp, .int .i64 dp, .int .i64 sq, .int .i64 ak, .int .i64 fl, .int .i64 wn, .string bd] 29)).cell? ⟨w.heap.size, 0, none⟩ = some (.int .i64 6) := by simp [go_sem]
      have hc1 : (w.alloc (.cells #[.int .i64 6, .int .i64 sp, .int .i64 dp, .int .i64 sq, .int .i64 ak, .int .i64 fl, .int .i64 wn, .string bd] 29)).cell? ⟨w.heap.size, 1, none⟩ = some (.int .i64 sp) := by simp [go_sem]
      have hc2 : (w.alloc (.cells #[.int .i64 6, .int .i64 sp, .int .i64 dp, .int .i64 sq, .int .i64 ak, .int .i64 fl, .int .i64 wn, .string bd] 29)).cell? ⟨w.heap.size, 2, none⟩ = some (.int .i64 dp) := by simp [go_sem]
      have hc3 : (w.alloc (.cells #[.int .i64 6, .int .i64 sp, .int .i64 dp, .int .i64 sq, .int .i64 ak, .int .i64 fl, .int .i64 wn, .string bd] 29)).cell? ⟨w.heap.size, 3, none⟩ = some (.int .i64 sq) := by simp [go_sem]
      have hc4 : (w.alloc (.cells #[.int .i64 6, .int .i64 sp, .int .i64 dp, .int .i64 sq, .int .i64 ak, .int .i64 fl, .int .i64 wn, .string bd] 29)).cell? ⟨w.heap.size, 4, none⟩ = some (.int .i64 ak) := by simp [go_sem]
      have hc5 : (w.alloc (.cells #[.int .i64 6, .int .i64 sp, .int .i64 dp, .int .i64 sq, .int .i64 ak, .int .i64 fl, .int .i64 wn, .string bd] 29)).cell? ⟨w.heap.size, 5, none⟩ = some (.int .i64 fl) := by simp [go_sem]
      have hc6 : (w.alloc (.cells #[.int .i64 6, .int .i64 sp, .int .i64 dp, .int .i64 sq, .int .i64 ak, .int .i64 fl, .int .i64 wn, .string bd] 29)).cell? ⟨w.heap.size, 6, none⟩ = some (.int .i64 wn) := by simp [go_sem]
      have hc7 : (w.alloc (.cells #[.int .i64 6, .int .i64 sp, .int .i64 dp, .int .i64 sq, .int .i64 ak, .int .i64 fl, .int .i64 wn, .string bd] 29)).cell? ⟨w.heap.size, 7, none⟩ = some (.string bd) := by simp [go_sem]
      generalize hW : w.alloc (.cells #[.int .i64 6, .int .i64 sp, .int .i64 dp, .int .i64 sq, .int .i64 ak, .int .i64 fl, .int .i64 wn, .string bd] 29) = w1 at *
      clear hW
      go_wp2_with fail
      refine (calls_bool (implSegmentOk_c 6 sp dp sq ak fl wn bd _ hz) hok).mono ?_
      rintro e w2 ⟨rfl, hb⟩
      replace hk := ext_step hk hk.size hb
      replace hz0 := Nat.lt_of_lt_of_le hz0 hb.size
      replace hc0 := ccell hb _ _ _ hc0
      replace hc1 := ccell hb _ _ _ hc1
      replace hc2 := ccell hb _ _ _ hc2
      replace hc3 := ccell hb _ _ _ hc3
      replace hc4 := ccell hb _ _ _ hc4
      replace hc5 := ccell hb _ _ _ hc5
      replace hc6 := ccell hb _ _ _ hc6
      replace hc7 := ccell hb _ _ _ hc7
      clear hb
      go_wp2_with fail
      refine (hbs _).mono ?_
      rintro e w3 ⟨rfl, hb⟩
      replace hk := ext_step hk hk.size hb
      replace hz0 := Nat.lt_of_lt_of_le hz0 hb.size
      replace hc0 := ccell hb _ _ _ hc0
      replace hc1 := ccell hb _ _ _ hc1
      replace hc2 := ccell hb _ _ _ hc2
      replace hc3 := ccell hb _ _ _ hc3
      replace hc4 := ccell hb _ _ _ hc4
      replace hc5 := ccell hb _ _ _ hc5
      replace hc6 := ccell hb _ _ _ hc6
      replace hc7 := ccell hb _ _ _ hc7
      clear hb
      go_wp2_with fail
      refine (hps _).mono ?_
      rintro e w6 ⟨rfl, hb⟩
      replace hk := ext_step hk hk.size hb
      replace hz0 := Nat.lt_of_lt_of_le hz0 hb.size
      replace hc0 := ccell hb _ _ _ hc0
      replace hc1 := ccell hb _ _ _ hc1
      replace hc2 := ccell hb _ _ _ hc2
      replace hc3 := ccell hb _ _ _ hc3
      replace hc4 := ccell hb _ _ _ hc4
      replace hc5 := ccell hb _ _ _ hc5
      replace hc6 := ccell hb _ _ _ hc6
      replace hc7 := ccell hb _ _ _ hc7
      clear hb
      go_wp2_with fail
      refine (hck _).mono ?_
      rintro e w7 ⟨rfl, hb⟩
      replace hk := ext_step hk hk.size hb
      replace hz0 := Nat.lt_of_lt_of_le hz0 hb.size
      replace hc0 := ccell hb _ _ _ hc0
      replace hc1 := ccell hb _ _ _ hc1
      replace hc2 := ccell hb _ _ _ hc2
      replace hc3 := ccell hb _ _ _ hc3
      replace hc4 := ccell hb _ _ _ hc4
      replace hc5 := ccell hb _ _ _ hc5
      replace hc6 := ccell hb _ _ _ hc6
      replace hc7 := ccell hb _ _ _ hc7
      clear hb
      go_wp2_with fail
      refine (sumPlace_c 6 _).mono ?_
      rintro e w8 ⟨rfl, hb⟩
      replace hk := ext_step hk hk.size hb
      replace hz0 := Nat.lt_of_lt_of_le hz0 hb.size
      replace hc0 := ccell hb _ _ _ hc0
      replace hc1 := ccell hb _ _ _ hc1
      replace hc2 := ccell hb _ _ _ hc2
      replace hc3 := ccell hb _ _ _ hc3
      replace hc4 := ccell hb _ _ _ hc4
      replace hc5 := ccell hb _ _ _ hc5
      replace hc6 := ccell hb _ _ _ hc6
      replace hc7 := ccell hb _ _ _ hc7
      clear hb
      go_wp2_with fail
      refine (implWord16_c x _ ⟨by omega, by omega⟩).mono ?_
      rintro e w9 ⟨rfl, hb⟩
      replace hk := ext_step hk hk.size hb
      replace hz0 := Nat.lt_of_lt_of_le hz0 hb.size
      replace hc0 := ccell hb _ _ _ hc0
      replace hc1 := ccell hb _ _ _ hc1
      replace hc2 := ccell hb _ _ _ hc2
      replace hc3 := ccell hb _ _ _ hc3
      replace hc4 := ccell hb _ _ _ hc4
      replace hc5 := ccell hb _ _ _ hc5
      replace hc6 := ccell hb _ _ _ hc6
      replace hc7 := ccell hb _ _ _ hc7
      clear hb
      have z9 := w16_size (v := x) (inBi (by omega) (by omega))
      go_wp2_with fail
      refine (implPutBytes_c S0 (w16 x) 16 _ (by omega) (by omega) ⟨by decide, by decide⟩).mono ?_
      rintro e w10 ⟨rfl, hb⟩
      replace hk := ext_step hk hk.size hb
      replace hz0 := Nat.lt_of_lt_of_le hz0 hb.size

      clear hb
      go_wp2
      refine bodyPost_ret (v := .tuple #[.string (putB S0 16 (w16 x)), .bool true]) (by simp [results, Try.results70, go_sem]) rfl ?_
      exact ⟨rfl, hk⟩
    · have z3 := w16_size (inBi (show (0 : Int) ≤ 8 + (bd.size : Int) by omega) (show 8 + (bd.size : Int) ≤ 65535 by omega))
      have k9 : IntKind.i64.wrap (8 + (bd.size : Int)) = 8 + (bd.size : Int) := IntWalk.i64_in _ ⟨by omega, by omega⟩
      have zb : ¬ 9223372036854775807 < 8 + bd.size := by omega
      obtain ⟨S0, hS0⟩ : ∃ S, segS0 17 sp dp 0 0 0 0 bd = S := ⟨_, rfl⟩
      have hss := segS0_size hok
      rw [hS0] at hss
      simp only [if_pos, show ¬ (17 : Int) = 6 by decide, if_false] at hss
      have hsl : S0.size ≤ 340 := by omega
      clear hss
      have hps0 : psB si di 17 (S0.size : Int) = true := by simp only [psB, hsi, hdi, Bool.true_and, Bool.and_eq_true]; exact ⟨by decide, inBi (by omega) (by omega)⟩
      have hps := fun u => implPseudoHeader_c si di 17 S0.size u hps0
      obtain ⟨H, hH⟩ : ∃ H, psH si di 17 (S0.size : Int) = H := ⟨_, rfl⟩
      have zH : H.size = 12 := by rw [← hH]; simp only [psH, ByteArray.size_append, strOfNums_size, w32_size hsi, w32_size hdi, w16_size (inBi (show (0 : Int) ≤ (S0.size : Int) by omega) (show (S0.size : Int) ≤ 65535 by omega))]; rfl
      simp only [hH] at hps
      have hck := fun u => implChecksum_c (H ++ S0) u (by rw [ByteArray.size_append]; omega)
      obtain ⟨x, hx⟩ : ∃ x, chk (H ++ S0) = x := ⟨_, rfl⟩
      have hxb := chk_bd (H ++ S0)
      rw [hx] at hxb
      simp only [hx] at hck
      by_cases hx0 : x = 0
      · rw [segS, hS0, segF, hH, hx, show plcI 17 = 6 from rfl, fixS, if_pos ⟨rfl, hx0⟩]
        subst hx0
        have hzz : ¬ 9223372036854775807 < 12 + S0.size := by omega
        have zcat : (H ++ S0).size = 12 + S0.size := by rw [ByteArray.size_append, zH]
        have hbs := fun u => bareSegment_c 17 sp dp 0 0 0 0 bd u hok
        simp only [hS0] at hbs
        clear hH hx hS0 hps0
        go_enter Try.func70, Try.ntmps70
        go_upto_region 1 with fail
        have hk : Below w.heap.size w (w.alloc (.cells #[.int .i64 17, .int .i64 sp, .int .i64 dp, .int .i64 0, .int .i64 0, .int .i64 0, .int .i64 0, .string bd] 29)) := by go_grown
        have hz0 : w.heap.size < (w.alloc (.cells #[.int .i64 17, .int .i64 sp, .int .i64 dp, .int .i64 0, .int .i64 0, .int .i64 0, .int .i64 0, .string bd] 29)).heap.size := by go_size
        have hc0 : (w.alloc (.cells #[.int .i64 17, .int .i64 sp, .int .i64 dp, .int .i64 0, .int .i64 0, .int .i64 0, .int .i64 0, .string bd] 29)).cell? ⟨w.heap.size, 0, none⟩ = some (.int .i64 17) := by simp [go_sem]
        have hc1 : (w.alloc (.cells #[.int .i64 17, .int .i64 sp, .int .i64 dp, .int .i64 0, .int .i64 0, .int .i64 0, .int .i64 0, .string bd] 29)).cell? ⟨w.heap.size, 1, none⟩ = some (.int .i64 sp) := by simp [go_sem]
        have hc2 : (w.alloc (.cells #[.int .i64 17, .int .i64 sp, .int .i64 dp, .int .i64 0, .int .i64 0, .int .i64 0, .int .i64 0, .string bd] 29)).cell? ⟨w.heap.size, 2, none⟩ = some (.int .i64 dp) := by simp [go_sem]
        have hc3 : (w.alloc (.cells #[.int .i64 17, .int .i64 sp, .int .i64 dp, .int .i64 0, .int .i64 0, .int .i64 0, .int .i64 0, .string bd] 29)).cell? ⟨w.heap.size, 3, none⟩ = some (.int .i64 0) := by simp [go_sem]
        have hc4 : (w.alloc (.cells #[.int .i64 17, .int .i64 sp, .int .i64 dp, .int .i64 0, .int .i64 0, .int .i64 0, .int .i64 0, .string bd] 29)).cell? ⟨w.heap.size, 4, none⟩ = some (.int .i64 0) := by simp [go_sem]
        have hc5 : (w.alloc (.cells #[.int .i64 17, .int .i64 sp, .int .i64 dp, .int .i64 0, .int .i64 0, .int .i64 0, .int .i64 0, .string bd] 29)).cell? ⟨w.heap.size, 5, none⟩ = some (.int .i64 0) := by simp [go_sem]
        have hc6 : (w.alloc (.cells #[.int .i64 17, .int .i64 sp, .int .i64 dp, .int .i64 0, .int .i64 0, .int .i64 0, .int .i64 0, .string bd] 29)).cell? ⟨w.heap.size, 6, none⟩ = some (.int .i64 0) := by simp [go_sem]
        have hc7 : (w.alloc (.cells #[.int .i64 17, .int .i64 sp, .int .i64 dp, .int .i64 0, .int .i64 0, .int .i64 0, .int .i64 0, .string bd] 29)).cell? ⟨w.heap.size, 7, none⟩ = some (.string bd) := by simp [go_sem]
        generalize hW : w.alloc (.cells #[.int .i64 17, .int .i64 sp, .int .i64 dp, .int .i64 0, .int .i64 0, .int .i64 0, .int .i64 0, .string bd] 29) = w1 at *
        clear hW
        go_wp2_with fail
        refine (calls_bool (implSegmentOk_c 17 sp dp 0 0 0 0 bd _ hz) hok).mono ?_
        rintro e w2 ⟨rfl, hb⟩
        replace hk := ext_step hk hk.size hb
        replace hz0 := Nat.lt_of_lt_of_le hz0 hb.size
        replace hc0 := ccell hb _ _ _ hc0
        replace hc1 := ccell hb _ _ _ hc1
        replace hc2 := ccell hb _ _ _ hc2
        replace hc3 := ccell hb _ _ _ hc3
        replace hc4 := ccell hb _ _ _ hc4
        replace hc5 := ccell hb _ _ _ hc5
        replace hc6 := ccell hb _ _ _ hc6
        replace hc7 := ccell hb _ _ _ hc7
        clear hb
        go_wp2_with fail
        refine (hbs _).mono ?_
        rintro e w3 ⟨rfl, hb⟩
        replace hk := ext_step hk hk.size hb
        replace hz0 := Nat.lt_of_lt_of_le hz0 hb.size
        replace hc0 := ccell hb _ _ _ hc0
        replace hc1 := ccell hb _ _ _ hc1
        replace hc2 := ccell hb _ _ _ hc2
        replace hc3 := ccell hb _ _ _ hc3
        replace hc4 := ccell hb _ _ _ hc4
        replace hc5 := ccell hb _ _ _ hc5
        replace hc6 := ccell hb _ _ _ hc6
        replace hc7 := ccell hb _ _ _ hc7
        clear hb
        go_wp2_with fail
        refine (hps _).mono ?_
        rintro e w6 ⟨rfl, hb⟩
        replace hk := ext_step hk hk.size hb
        replace hz0 := Nat.lt_of_lt_of_le hz0 hb.size
        replace hc0 := ccell hb _ _ _ hc0
        replace hc1 := ccell hb _ _ _ hc1
        replace hc2 := ccell hb _ _ _ hc2
        replace hc3 := ccell hb _ _ _ hc3
        replace hc4 := ccell hb _ _ _ hc4
        replace hc5 := ccell hb _ _ _ hc5
        replace hc6 := ccell hb _ _ _ hc6
        replace hc7 := ccell hb _ _ _ hc7
        clear hb
        go_wp2_with fail
        refine (hck _).mono ?_
        rintro e w7 ⟨rfl, hb⟩
        replace hk := ext_step hk hk.size hb
        replace hz0 := Nat.lt_of_lt_of_le hz0 hb.size
        replace hc0 := ccell hb _ _ _ hc0
        replace hc1 := ccell hb _ _ _ hc1
        replace hc2 := ccell hb _ _ _ hc2
        replace hc3 := ccell hb _ _ _ hc3
        replace hc4 := ccell hb _ _ _ hc4
        replace hc5 := ccell hb _ _ _ hc5
        replace hc6 := ccell hb _ _ _ hc6
        replace hc7 := ccell hb _ _ _ hc7
        clear hb
        go_wp2_with fail
        refine (sumPlace_c 17 _).mono ?_
        rintro e w8 ⟨rfl, hb⟩
        replace hk := ext_step hk hk.size hb
        replace hz0 := Nat.lt_of_lt_of_le hz0 hb.size
        replace hc0 := ccell hb _ _ _ hc0
        replace hc1 := ccell hb _ _ _ hc1
        replace hc2 := ccell hb _ _ _ hc2
        replace hc3 := ccell hb _ _ _ hc3
        replace hc4 := ccell hb _ _ _ hc4
        replace hc5 := ccell hb _ _ _ hc5
        replace hc6 := ccell hb _ _ _ hc6
        replace hc7 := ccell hb _ _ _ hc7
        clear hb
        go_wp2_with fail
        refine (implWord16_c 65535 _ ⟨by omega, by omega⟩).mono ?_
        rintro e w9 ⟨rfl, hb⟩
        replace hk := ext_step hk hk.size hb
        replace hz0 := Nat.lt_of_lt_of_le hz0 hb.size
        replace hc0 := ccell hb _ _ _ hc0
        replace hc1 := ccell hb _ _ _ hc1
        replace hc2 := ccell hb _ _ _ hc2
        replace hc3 := ccell hb _ _ _ hc3
        replace hc4 := ccell hb _ _ _ hc4
        replace hc5 := ccell hb _ _ _ hc5
        replace hc6 := ccell hb _ _ _ hc6
        replace hc7 := ccell hb _ _ _ hc7
        clear hb
        have z9 := w16_size (v := 65535) (inBi (by omega) (by omega))
        go_wp2_with fail
        refine (implPutBytes_c S0 (w16 65535) 6 _ (by omega) (by omega) ⟨by decide, by decide⟩).mono ?_
        rintro e w10 ⟨rfl, hb⟩
        replace hk := ext_step hk hk.size hb
        replace hz0 := Nat.lt_of_lt_of_le hz0 hb.size

        clear hb
        go_wp2
        refine bodyPost_ret (v := .tuple #[.string (putB S0 6 (w16 65535)), .bool true]) (by simp [results, Try.results70, go_sem]) rfl ?_
        exact ⟨rfl, hk⟩
      · rw [segS, hS0, segF, hH, hx, show plcI 17 = 6 from rfl, fixS, if_neg (fun h => hx0 h.2)]
        have hzz : ¬ 9223372036854775807 < 12 + S0.size := by omega
        have zcat : (H ++ S0).size = 12 + S0.size := by rw [ByteArray.size_append, zH]
        have hbs := fun u => bareSegment_c 17 sp dp 0 0 0 0 bd u hok
        simp only [hS0] at hbs
        clear hH hx hS0 hps0
        go_enter Try.func70, Try.ntmps70
        go_upto_region 1 with fail
        have hk : Below w.heap.size w (w.alloc (.cells #[.int .i64 17, .int .i64 sp, .int .i64 dp, .int .i64 0, .int .i64 0, .int .i64 0, .int .i64 0, .string bd] 29)) := by go_grown
        have hz0 : w.heap.size < (w.alloc (.cells #[.int .i64 17, .int .i64 sp, .int .i64 dp, .int .i64 0, .int .i64 0, .int .i64 0, .int .i64 0, .string bd] 29)).heap.size := by go_size
        have hc0 : (w.alloc (.cells #[.int .i64 17, .int .i64 sp, .int .i64 dp, .int .i64 0, .int .i64 0, .int .i64 0, .int .i64 0, .string bd] 29)).cell? ⟨w.heap.size, 0, none⟩ = some (.int .i64 17) := by simp [go_sem]
        have hc1 : (w.alloc (.cells #[.int .i64 17, .int .i64 sp, .int .i64 dp, .int .i64 0, .int .i64 0, .int .i64 0, .int .i64 0, .string bd] 29)).cell? ⟨w.heap.size, 1, none⟩ = some (.int .i64 sp) := by simp [go_sem]
        have hc2 : (w.alloc (.cells #[.int .i64 17, .int .i64 sp, .int .i64 dp, .int .i64 0, .int .i64 0, .int .i64 0, .int .i64 0, .string bd] 29)).cell? ⟨w.heap.size, 2, none⟩ = some (.int .i64 dp) := by simp [go_sem]
        have hc3 : (w.alloc (.cells #[.int .i64 17, .int .i64 sp, .int .i64 dp, .int .i64 0, .int .i64 0, .int .i64 0, .int .i64 0, .string bd] 29)).cell? ⟨w.heap.size, 3, none⟩ = some (.int .i64 0) := by simp [go_sem]
        have hc4 : (w.alloc (.cells #[.int .i64 17, .int .i64 sp, .int .i64 dp, .int .i64 0, .int .i64 0, .int .i64 0, .int .i64 0, .string bd] 29)).cell? ⟨w.heap.size, 4, none⟩ = some (.int .i64 0) := by simp [go_sem]
        have hc5 : (w.alloc (.cells #[.int .i64 17, .int .i64 sp, .int .i64 dp, .int .i64 0, .int .i64 0, .int .i64 0, .int .i64 0, .string bd] 29)).cell? ⟨w.heap.size, 5, none⟩ = some (.int .i64 0) := by simp [go_sem]
        have hc6 : (w.alloc (.cells #[.int .i64 17, .int .i64 sp, .int .i64 dp, .int .i64 0, .int .i64 0, .int .i64 0, .int .i64 0, .string bd] 29)).cell? ⟨w.heap.size, 6, none⟩ = some (.int .i64 0) := by simp [go_sem]
        have hc7 : (w.alloc (.cells #[.int .i64 17, .int .i64 sp, .int .i64 dp, .int .i64 0, .int .i64 0, .int .i64 0, .int .i64 0, .string bd] 29)).cell? ⟨w.heap.size, 7, none⟩ = some (.string bd) := by simp [go_sem]
        generalize hW : w.alloc (.cells #[.int .i64 17, .int .i64 sp, .int .i64 dp, .int .i64 0, .int .i64 0, .int .i64 0, .int .i64 0, .string bd] 29) = w1 at *
        clear hW
        go_wp2_with fail
        refine (calls_bool (implSegmentOk_c 17 sp dp 0 0 0 0 bd _ hz) hok).mono ?_
        rintro e w2 ⟨rfl, hb⟩
        replace hk := ext_step hk hk.size hb
        replace hz0 := Nat.lt_of_lt_of_le hz0 hb.size
        replace hc0 := ccell hb _ _ _ hc0
        replace hc1 := ccell hb _ _ _ hc1
        replace hc2 := ccell hb _ _ _ hc2
        replace hc3 := ccell hb _ _ _ hc3
        replace hc4 := ccell hb _ _ _ hc4
        replace hc5 := ccell hb _ _ _ hc5
        replace hc6 := ccell hb _ _ _ hc6
        replace hc7 := ccell hb _ _ _ hc7
        clear hb
        go_wp2_with fail
        refine (hbs _).mono ?_
        rintro e w3 ⟨rfl, hb⟩
        replace hk := ext_step hk hk.size hb
        replace hz0 := Nat.lt_of_lt_of_le hz0 hb.size
        replace hc0 := ccell hb _ _ _ hc0
        replace hc1 := ccell hb _ _ _ hc1
        replace hc2 := ccell hb _ _ _ hc2
        replace hc3 := ccell hb _ _ _ hc3
        replace hc4 := ccell hb _ _ _ hc4
        replace hc5 := ccell hb _ _ _ hc5
        replace hc6 := ccell hb _ _ _ hc6
        replace hc7 := ccell hb _ _ _ hc7
        clear hb
        go_wp2_with fail
        refine (hps _).mono ?_
        rintro e w6 ⟨rfl, hb⟩
        replace hk := ext_step hk hk.size hb
        replace hz0 := Nat.lt_of_lt_of_le hz0 hb.size
        replace hc0 := ccell hb _ _ _ hc0
        replace hc1 := ccell hb _ _ _ hc1
        replace hc2 := ccell hb _ _ _ hc2
        replace hc3 := ccell hb _ _ _ hc3
        replace hc4 := ccell hb _ _ _ hc4
        replace hc5 := ccell hb _ _ _ hc5
        replace hc6 := ccell hb _ _ _ hc6
        replace hc7 := ccell hb _ _ _ hc7
        clear hb
        go_wp2_with fail
        refine (hck _).mono ?_
        rintro e w7 ⟨rfl, hb⟩
        replace hk := ext_step hk hk.size hb
        replace hz0 := Nat.lt_of_lt_of_le hz0 hb.size
        replace hc0 := ccell hb _ _ _ hc0
        replace hc1 := ccell hb _ _ _ hc1
        replace hc2 := ccell hb _ _ _ hc2
        replace hc3 := ccell hb _ _ _ hc3
        replace hc4 := ccell hb _ _ _ hc4
        replace hc5 := ccell hb _ _ _ hc5
        replace hc6 := ccell hb _ _ _ hc6
        replace hc7 := ccell hb _ _ _ hc7
        clear hb
        go_wp2_with fail
        refine (sumPlace_c 17 _).mono ?_
        rintro e w8 ⟨rfl, hb⟩
        replace hk := ext_step hk hk.size hb
        replace hz0 := Nat.lt_of_lt_of_le hz0 hb.size
        replace hc0 := ccell hb _ _ _ hc0
        replace hc1 := ccell hb _ _ _ hc1
        replace hc2 := ccell hb _ _ _ hc2
        replace hc3 := ccell hb _ _ _ hc3
        replace hc4 := ccell hb _ _ _ hc4
        replace hc5 := ccell hb _ _ _ hc5
        replace hc6 := ccell hb _ _ _ hc6
        replace hc7 := ccell hb _ _ _ hc7
        clear hb
        go_wp2_with fail
        refine (implWord16_c x _ ⟨by omega, by omega⟩).mono ?_
        rintro e w9 ⟨rfl, hb⟩
        replace hk := ext_step hk hk.size hb
        replace hz0 := Nat.lt_of_lt_of_le hz0 hb.size
        replace hc0 := ccell hb _ _ _ hc0
        replace hc1 := ccell hb _ _ _ hc1
        replace hc2 := ccell hb _ _ _ hc2
        replace hc3 := ccell hb _ _ _ hc3
        replace hc4 := ccell hb _ _ _ hc4
        replace hc5 := ccell hb _ _ _ hc5
        replace hc6 := ccell hb _ _ _ hc6
        replace hc7 := ccell hb _ _ _ hc7
        clear hb
        have z9 := w16_size (v := x) (inBi (by omega) (by omega))
        go_wp2_with fail
        refine (implPutBytes_c S0 (w16 x) 6 _ (by omega) (by omega) ⟨by decide, by decide⟩).mono ?_
        rintro e w10 ⟨rfl, hb⟩
        replace hk := ext_step hk hk.size hb
        replace hz0 := Nat.lt_of_lt_of_le hz0 hb.size

        clear hb
        go_wp2
        refine bodyPost_ret (v := .tuple #[.string (putB S0 6 (w16 x)), .bool true]) (by simp [results, Try.results70, go_sem]) rfl ?_
        exact ⟨rfl, hk⟩
set_option maxRecDepth 100000 in
set_option maxHeartbeats 1500000 in
theorem specBuildSegment_c (si di kd sp dp sq ak fl wn : Int) (bd : ByteArray) (w : World) (hz : bd.size ≤ 1048576) (hsi : inB si 0 4294967295 = true) (hdi : inB di 0 4294967295 = true) :
    Calls Try.prog 116 #[.int .i64 si, .int .i64 di, .agg #[.int .i64 kd, .int .i64 sp, .int .i64 dp, .int .i64 sq, .int .i64 ak, .int .i64 fl, .int .i64 wn, .string bd]] w fun e w' => e = .returned (.tuple #[.string (if segB kd sp dp sq ak fl wn bd then segS si di kd sp dp sq ak fl wn bd else ByteArray.empty), .bool (segB kd sp dp sq ak fl wn bd)]) ∧ Below w.heap.size w w' := by
  cases hok : segB kd sp dp sq ak fl wn bd
  · rw [if_neg (by decide)]
    go_enter Try.func116, Try.ntmps116
    go_wp2_with fail
    refine (calls_bool (specSegmentOk_c kd sp dp sq ak fl wn bd _ hz) hok).mono ?_
    rintro e w1 ⟨rfl, hb⟩
    have hk : Below w.heap.size w w1 := ext_step (by go_grown) (by go_size) hb
    go_wp2
    refine bodyPost_ret (v := .tuple #[.string ByteArray.empty, .bool false]) (by simp [results, Try.results116, go_sem]; rfl) rfl ?_
    exact ⟨rfl, hk⟩
  · rw [if_pos rfl]
    obtain ⟨⟨h1, h2, h9⟩, h0⟩ := segB_t hok
    obtain ⟨a1, b1⟩ := inB_t h1
    obtain ⟨a2, b2⟩ := inB_t h2
    obtain ⟨a3, b3⟩ := inB_t hsi
    obtain ⟨a4, b4⟩ := inB_t hdi
    have z1 := w16_size h1
    have z2 := w16_size h2
    have z7 : (w16 0).size = 2 := w16_size (by decide)
    have z8 : (w32 0).size = 4 := w32_size (by decide)
    rcases h0 with ⟨rfl, h3, h4, h5, h6⟩ | ⟨rfl, rfl, rfl, rfl, rfl⟩
    · obtain ⟨a5, b5⟩ := inB_t h3
      obtain ⟨a6, b6⟩ := inB_t h4
      obtain ⟨a7, b7⟩ := inB_t h5
      obtain ⟨a8, b8⟩ := inB_t h6
      have k1 := u8w (x := fl) (by omega) (by omega)
      have z3 := w32_size h3
      have z4 := w32_size h4
      have z5 : (strOfNums [80, fl]).size = 2 := rfl
      have z6 := w16_size h6
      have zb : ¬ 9223372036854775807 < 20 + bd.size := by omega
      obtain ⟨S0, hS0⟩ : ∃ S, segS0 6 sp dp sq ak fl wn bd = S := ⟨_, rfl⟩
      have hss := segS0_size hok
      rw [hS0] at hss
      simp only [if_pos] at hss
      have hsl : S0.size ≤ 340 := by omega
      clear hss
      have hps0 : psB si di 6 (S0.size : Int) = true := by simp only [psB, hsi, hdi, Bool.true_and, Bool.and_eq_true]; exact ⟨by decide, inBi (by omega) (by omega)⟩
      have hps := fun u => specPseudoHeader_c si di 6 S0.size u hps0
      obtain ⟨H, hH⟩ : ∃ H, psH si di 6 (S0.size : Int) = H := ⟨_, rfl⟩
      have zH : H.size = 12 := by rw [← hH]; simp only [psH, ByteArray.size_append, strOfNums_size, w32_size hsi, w32_size hdi, w16_size (inBi (show (0 : Int) ≤ (S0.size : Int) by omega) (show (S0.size : Int) ≤ 65535 by omega))]; rfl
      simp only [hH] at hps
      have hck := fun u => specChecksum_c (H ++ S0) u (by rw [ByteArray.size_append]; omega)
      obtain ⟨x, hx⟩ : ∃ x, chk (H ++ S0) = x := ⟨_, rfl⟩
      have hxb := chk_bd (H ++ S0)
      rw [hx] at hxb
      simp only [hx] at hck
      by_cases hx0 : x = 0
      · rw [segS, hS0, segF, hH, hx, show plcI 6 = 16 from rfl, show fixS 6 x = x from if_neg (by simp)]
        subst hx0
        have hzz : ¬ 9223372036854775807 < 12 + S0.size := by omega
        have zcat : (H ++ S0).size = 12 + S0.size := by rw [ByteArray.size_append, zH]
        have hq : w16 sp ++ (w16 dp) ++ (w32 sq) ++ (w32 ak) ++ (strOfNums [80, fl]) ++ (w16 wn) ++ (w32 0) ++ bd = S0 := by rw [← hS0]; simp [segS0, w32_zero, ByteArray.append_assoc]
        clear hH hx hS0 hps0
        go_enter Try.func116, Try.ntmps116
        go_upto_region 1 with fail
        have hk : Below w.heap.size w (w.alloc (.cells #[.int .i64 6, .int .i64 sp, .int .i64 dp, .int .i64 sq, .int .i64 ak, .int .i64 fl, .int .i64 wn, .string bd] 29)) := by go_grown
        have hz0 : w.heap.size < (w.alloc (.cells #[.int .i64 6, .int .i64 sp, .int .i64 dp, .int .i64 sq, .int .i64 ak, .int .i64 fl, .int .i64 wn, .string bd] 29)).heap.size := by go_size
        have hc0 : (w.alloc (.cells #[.int .i64 6, .int .i64 sp, .int .i64 dp, .int .i64 sq, .int .i64 ak, .int .i64 fl, .int .i64 wn, .string bd] 29)).cell? ⟨w.heap.size, 0, none⟩ = some (.int .i64 6) := by simp [go_sem]
        have hc1 : (w.alloc (.cells #[.int .i64 6, .int .i64 sp, .int .i64 dp, .int .i64 sq, .int .i64 ak, .int .i64 fl, .int .i64 wn, .string bd] 29)).cell? ⟨w.heap.size, 1, none⟩ = some (.int .i64 sp) := by simp [go_sem]
        have hc2 : (w.alloc (.cells #[.int .i64 6, .int .i64 sp, .int .i64 dp, .int .i64 sq, .int .i64 ak, .int .i64 fl, .int .i64 wn, .string bd] 29)).cell? ⟨w.heap.size, 2, none⟩ = some (.int .i64 dp) := by simp [go_sem]
        have hc3 : (w.alloc (.cells #[.int .i64 6, .int .i64 sp, .int .i64 dp, .int .i64 sq, .int .i64 ak, .int .i64 fl, .int .i64 wn, .string bd] 29)).cell? ⟨w.heap.size, 3, none⟩ = some (.int .i64 sq) := by simp [go_sem]
        have hc4 : (w.alloc (.cells #[.int .i64 6, .int .i64 sp, .int .i64 dp, .int .i64 sq, .int .i64 ak, .int .i64 fl, .int .i64 wn, .string bd] 29)).cell? ⟨w.heap.size, 4, none⟩ = some (.int .i64 ak) := by simp [go_sem]
        have hc5 : (w.alloc (.cells #[.int .i64 6, .int .i64 sp, .int .i64 dp, .int .i64 sq, .int .i64 ak, .int .i64 fl, .int .i64 wn, .string bd] 29)).cell? ⟨w.heap.size, 5, none⟩ = some (.int .i64 fl) := by simp [go_sem]
        have hc6 : (w.alloc (.cells #[.int .i64 6, .int .i64 sp, .int .i64 dp, .int .i64 sq, .int .i64 ak, .int .i64 fl, .int .i64 wn, .string bd] 29)).cell? ⟨w.heap.size, 6, none⟩ = some (.int .i64 wn) := by simp [go_sem]
        have hc7 : (w.alloc (.cells #[.int .i64 6, .int .i64 sp, .int .i64 dp, .int .i64 sq, .int .i64 ak, .int .i64 fl, .int .i64 wn, .string bd] 29)).cell? ⟨w.heap.size, 7, none⟩ = some (.string bd) := by simp [go_sem]
        generalize hW : w.alloc (.cells #[.int .i64 6, .int .i64 sp, .int .i64 dp, .int .i64 sq, .int .i64 ak, .int .i64 fl, .int .i64 wn, .string bd] 29) = w1 at *
        clear hW
        go_wp2_with fail
        refine (calls_bool (specSegmentOk_c 6 sp dp sq ak fl wn bd _ hz) hok).mono ?_
        rintro e w2 ⟨rfl, hb⟩
        replace hk := ext_step hk hk.size hb
        replace hz0 := Nat.lt_of_lt_of_le hz0 hb.size
        replace hc0 := ccell hb _ _ _ hc0
        replace hc1 := ccell hb _ _ _ hc1
        replace hc2 := ccell hb _ _ _ hc2
        replace hc3 := ccell hb _ _ _ hc3
        replace hc4 := ccell hb _ _ _ hc4
        replace hc5 := ccell hb _ _ _ hc5
        replace hc6 := ccell hb _ _ _ hc6
        replace hc7 := ccell hb _ _ _ hc7
        clear hb
        go_wp2_with fail
        refine wp_region_slotsP [] [(16, fun _ v => v = .pointer (some ⟨w.heap.size, 1, none⟩)), (17, fun _ v => v = .int .i64 sp), (18, fun _ v => v = .string (w16 sp)), (19, fun _ v => v = .pointer (some ⟨w.heap.size, 2, none⟩)), (20, fun _ v => v = .int .i64 dp), (21, fun _ v => v = .string (w16 dp)), (22, fun _ v => v = .string (w16 sp ++ (w16 dp))), (8, fun _ v => v = .string (w16 sp ++ (w16 dp)))] (by kernel_rfl) (by kernel_rfl) (by kernel_rfl) (by kernel_rfl) (by kernel_rfl) ?_ ?_ ?_
        · intro p hp
          simp only [List.mem_cons, List.not_mem_nil, or_false] at hp
          rcases hp with rfl | rfl | rfl | rfl | rfl | rfl | rfl | rfl
          all_goals (intro w w' v hb hv)
          all_goals first | exact hv | (obtain ⟨b, rfl, h⟩ := hv; exact ⟨b, rfl, byt_mono hb _ h⟩)
        · intro o ho
          simp only [List.mem_cons, List.not_mem_nil, or_false] at ho
          rcases ho with rfl | rfl | rfl | rfl | rfl | rfl | rfl | rfl
          all_goals refine stepOk2_plain rfl ?_
          · intro a w2 hb hl K Q hK
            have e5 : a.tmps[5]?.getD undef = .pointer (some ⟨w.heap.size, 0, none⟩) := gd (hl 5 (by decide))
            go_simp
            exact hK _ _ (Below.refl _ _) (by intro d hd; cases hd; exact rfl)
          · intro a w2 hb hl K Q hK
            have e16 : a.tmps[16]?.getD undef = .pointer (some ⟨w.heap.size, 1, none⟩) := gd (hl 16 (by decide))
            have hd1 := ccell hb _ _ _ hc1
            go_simp
            exact hK _ _ (Below.refl _ _) (by intro d hd; cases hd; exact rfl)
          · intro a w2 hb hl K Q hK
            have e17 : a.tmps[17]?.getD undef = .int .i64 sp := gd (hl 17 (by decide))
            go_simp
            refine (specWord16_c sp _ ⟨by omega, by omega⟩).mono ?_
            rintro e w' ⟨rfl, hb'⟩
            exact hK _ _ hb' (by intro d hd; cases hd; exact rfl)
          · intro a w2 hb hl K Q hK
            have e5 : a.tmps[5]?.getD undef = .pointer (some ⟨w.heap.size, 0, none⟩) := gd (hl 5 (by decide))
            go_simp
            exact hK _ _ (Below.refl _ _) (by intro d hd; cases hd; exact rfl)
          · intro a w2 hb hl K Q hK
            have e19 : a.tmps[19]?.getD undef = .pointer (some ⟨w.heap.size, 2, none⟩) := gd (hl 19 (by decide))
            have hd2 := ccell hb _ _ _ hc2
            go_simp
            exact hK _ _ (Below.refl _ _) (by intro d hd; cases hd; exact rfl)
          · intro a w2 hb hl K Q hK
            have e20 : a.tmps[20]?.getD undef = .int .i64 dp := gd (hl 20 (by decide))
            go_simp
            refine (specWord16_c dp _ ⟨by omega, by omega⟩).mono ?_
            rintro e w' ⟨rfl, hb'⟩
            exact hK _ _ hb' (by intro d hd; cases hd; exact rfl)
          · intro a w2 hb hl K Q hK
            have e18 : a.tmps[18]?.getD undef = .string (w16 sp) := gd (hl 18 (by decide))
            have e21 : a.tmps[21]?.getD undef = .string (w16 dp) := gd (hl 21 (by decide))
            go_simp
            exact hK _ _ (Below.refl _ _) (by intro d hd; cases hd; exact rfl)
          · intro a w2 hb hl K Q hK
            have e22 : a.tmps[22]?.getD undef = .string (w16 sp ++ (w16 dp)) := gd (hl 22 (by decide))
            go_simp
            exact hK _ _ (Below.refl _ _) (by intro d hd; cases hd; exact rfl)
        intro xT w3 hb hL
        have fx8 : xT 8 = .string (w16 sp ++ (w16 dp)) := hL _ (List.mem_of_getElem? (i := 7) rfl)
        simp only [List.map, putAll, fx8]
        clear hL fx8
        replace hk := ext_step hk (hk.size) hb
        replace hc0 := ccell hb _ _ _ hc0
        replace hc1 := ccell hb _ _ _ hc1
        replace hc2 := ccell hb _ _ _ hc2
        replace hc3 := ccell hb _ _ _ hc3
        replace hc4 := ccell hb _ _ _ hc4
        replace hc5 := ccell hb _ _ _ hc5
        replace hc6 := ccell hb _ _ _ hc6
        replace hc7 := ccell hb _ _ _ hc7
        try replace hz0 := Nat.lt_of_lt_of_le hz0 hb.size
        clear hb
        go_wp2_with fail
        refine wp_region_slotsP [8] [(26, fun _ v => v = .string (w16 sp ++ (w16 dp))), (27, fun _ v => v = .pointer (some ⟨w.heap.size, 3, none⟩)), (28, fun _ v => v = .int .i64 sq), (29, fun _ v => v = .string (w32 sq)), (30, fun _ v => v = .string (w16 sp ++ (w16 dp) ++ (w32 sq))), (31, fun _ v => v = .pointer (some ⟨w.heap.size, 4, none⟩)), (32, fun _ v => v = .int .i64 ak), (33, fun _ v => v = .string (w32 ak)), (34, fun _ v => v = .string (w16 sp ++ (w16 dp) ++ (w32 sq) ++ (w32 ak))), (35, fun _ v => v = .pointer (some ⟨w.heap.size, 5, none⟩)), (36, fun _ v => v = .int .i64 fl), (37, fun _ v => v = .int .u8 fl), (38, fun w v => ∃ b, v = .slice (some ⟨b, 0, none⟩) 2 2 ∧ Byt w b (80) (fl)), (39, fun _ v => v = .string (strOfNums [80, fl])), (40, fun _ v => v = .string (w16 sp ++ (w16 dp) ++ (w32 sq) ++ (w32 ak) ++ (strOfNums [80, fl]))), (41, fun _ v => v = .pointer (some ⟨w.heap.size, 6, none⟩)), (42, fun _ v => v = .int .i64 wn), (43, fun _ v => v = .string (w16 wn)), (44, fun _ v => v = .string (w16 sp ++ (w16 dp) ++ (w32 sq) ++ (w32 ak) ++ (strOfNums [80, fl]) ++ (w16 wn))), (45, fun _ v => v = .string (w32 0)), (46, fun _ v => v = .string (w16 sp ++ (w16 dp) ++ (w32 sq) ++ (w32 ak) ++ (strOfNums [80, fl]) ++ (w16 wn) ++ (w32 0))), (8, fun _ v => v = .string (w16 sp ++ (w16 dp) ++ (w32 sq) ++ (w32 ak) ++ (strOfNums [80, fl]) ++ (w16 wn) ++ (w32 0)))] (by kernel_rfl) (by kernel_rfl) (by kernel_rfl) (by kernel_rfl) (by kernel_rfl) ?_ ?_ ?_
        · intro p hp
          simp only [List.mem_cons, List.not_mem_nil, or_false] at hp
          rcases hp with rfl | rfl | rfl | rfl | rfl | rfl | rfl | rfl | rfl | rfl | rfl | rfl | rfl | rfl | rfl | rfl | rfl | rfl | rfl | rfl | rfl | rfl
          all_goals (intro w w' v hb hv)
          all_goals first | exact hv | (obtain ⟨b, rfl, h⟩ := hv; exact ⟨b, rfl, byt_mono hb _ h⟩)
        · intro o ho
          simp only [List.mem_cons, List.not_mem_nil, or_false] at ho
          rcases ho with rfl | rfl | rfl | rfl | rfl | rfl | rfl | rfl | rfl | rfl | rfl | rfl | rfl | rfl | rfl | rfl | rfl | rfl | rfl | rfl | rfl | rfl
          all_goals refine stepOk2_plain rfl ?_
          · intro a w2 hb hl K Q hK
            have e8 : a.tmps[8]?.getD undef = .string (w16 sp ++ (w16 dp)) := gd (hl 8 (by decide))
            go_simp
            exact hK _ _ (Below.refl _ _) (by intro d hd; cases hd; exact rfl)
          · intro a w2 hb hl K Q hK
            have e5 : a.tmps[5]?.getD undef = .pointer (some ⟨w.heap.size, 0, none⟩) := gd (hl 5 (by decide))
            go_simp
            exact hK _ _ (Below.refl _ _) (by intro d hd; cases hd; exact rfl)
          · intro a w2 hb hl K Q hK
            have e27 : a.tmps[27]?.getD undef = .pointer (some ⟨w.heap.size, 3, none⟩) := gd (hl 27 (by decide))
            have hd3 := ccell hb _ _ _ hc3
            go_simp
            exact hK _ _ (Below.refl _ _) (by intro d hd; cases hd; exact rfl)
          · intro a w2 hb hl K Q hK
            have e28 : a.tmps[28]?.getD undef = .int .i64 sq := gd (hl 28 (by decide))
            go_simp
            refine (specWord32_c sq _ ⟨by omega, by omega⟩).mono ?_
            rintro e w' ⟨rfl, hb'⟩
            exact hK _ _ hb' (by intro d hd; cases hd; exact rfl)
          · intro a w2 hb hl K Q hK
            have e26 : a.tmps[26]?.getD undef = .string (w16 sp ++ (w16 dp)) := gd (hl 26 (by decide))
            have e29 : a.tmps[29]?.getD undef = .string (w32 sq) := gd (hl 29 (by decide))
            go_simp
            exact hK _ _ (Below.refl _ _) (by intro d hd; cases hd; exact rfl)
          · intro a w2 hb hl K Q hK
            have e5 : a.tmps[5]?.getD undef = .pointer (some ⟨w.heap.size, 0, none⟩) := gd (hl 5 (by decide))
            go_simp
            exact hK _ _ (Below.refl _ _) (by intro d hd; cases hd; exact rfl)
          · intro a w2 hb hl K Q hK
            have e31 : a.tmps[31]?.getD undef = .pointer (some ⟨w.heap.size, 4, none⟩) := gd (hl 31 (by decide))
            have hd4 := ccell hb _ _ _ hc4
            go_simp
            exact hK _ _ (Below.refl _ _) (by intro d hd; cases hd; exact rfl)
          · intro a w2 hb hl K Q hK
            have e32 : a.tmps[32]?.getD undef = .int .i64 ak := gd (hl 32 (by decide))
            go_simp
            refine (specWord32_c ak _ ⟨by omega, by omega⟩).mono ?_
            rintro e w' ⟨rfl, hb'⟩
            exact hK _ _ hb' (by intro d hd; cases hd; exact rfl)
          · intro a w2 hb hl K Q hK
            have e30 : a.tmps[30]?.getD undef = .string (w16 sp ++ (w16 dp) ++ (w32 sq)) := gd (hl 30 (by decide))
            have e33 : a.tmps[33]?.getD undef = .string (w32 ak) := gd (hl 33 (by decide))
            go_simp
            exact hK _ _ (Below.refl _ _) (by intro d hd; cases hd; exact rfl)
          · intro a w2 hb hl K Q hK
            have e5 : a.tmps[5]?.getD undef = .pointer (some ⟨w.heap.size, 0, none⟩) := gd (hl 5 (by decide))
            go_simp
            exact hK _ _ (Below.refl _ _) (by intro d hd; cases hd; exact rfl)
          · intro a w2 hb hl K Q hK
            have e35 : a.tmps[35]?.getD undef = .pointer (some ⟨w.heap.size, 5, none⟩) := gd (hl 35 (by decide))
            have hd5 := ccell hb _ _ _ hc5
            go_simp
            exact hK _ _ (Below.refl _ _) (by intro d hd; cases hd; exact rfl)
          · intro a w2 hb hl K Q hK
            have e36 : a.tmps[36]?.getD undef = .int .i64 fl := gd (hl 36 (by decide))
            go_simp
            exact hK _ _ (Below.refl _ _) (by intro d hd; cases hd; exact rfl)
          · intro a w2 hb hl K Q hK
            have e37 : a.tmps[37]?.getD undef = .int .u8 fl := gd (hl 37 (by decide))
            go_simp
            exact hK _ _ (by go_grown) (by intro d hd; cases hd; exact ⟨_, rfl, byt_new _ _ _ _⟩)
          · intro a w2 hb hl K Q hK
            obtain ⟨b38, hb38, hbyt38⟩ : ∃ b, a.tmps.getD 38 undef = .slice (some ⟨b, 0, none⟩) 2 2 ∧ Byt w2 b (80) (fl) := hl 38 (by decide)
            have e38 := gd hb38
            have hcv := byt_conv (80) (fl) w2 b38 hbyt38
            go_simp
            exact hK _ _ (Below.refl _ _) (by intro d hd; cases hd; exact rfl)
          · intro a w2 hb hl K Q hK
            have e34 : a.tmps[34]?.getD undef = .string (w16 sp ++ (w16 dp) ++ (w32 sq) ++ (w32 ak)) := gd (hl 34 (by decide))
            have e39 : a.tmps[39]?.getD undef = .string (strOfNums [80, fl]) := gd (hl 39 (by decide))
            go_simp
            exact hK _ _ (Below.refl _ _) (by intro d hd; cases hd; exact rfl)
          · intro a w2 hb hl K Q hK
            have e5 : a.tmps[5]?.getD undef = .pointer (some ⟨w.heap.size, 0, none⟩) := gd (hl 5 (by decide))
            go_simp
            exact hK _ _ (Below.refl _ _) (by intro d hd; cases hd; exact rfl)
          · intro a w2 hb hl K Q hK
            have e41 : a.tmps[41]?.getD undef = .pointer (some ⟨w.heap.size, 6, none⟩) := gd (hl 41 (by decide))
            have hd6 := ccell hb _ _ _ hc6
            go_simp
            exact hK _ _ (Below.refl _ _) (by intro d hd; cases hd; exact rfl)
          · intro a w2 hb hl K Q hK
            have e42 : a.tmps[42]?.getD undef = .int .i64 wn := gd (hl 42 (by decide))
            go_simp
            refine (specWord16_c wn _ ⟨by omega, by omega⟩).mono ?_
            rintro e w' ⟨rfl, hb'⟩
            exact hK _ _ hb' (by intro d hd; cases hd; exact rfl)
          · intro a w2 hb hl K Q hK
            have e40 : a.tmps[40]?.getD undef = .string (w16 sp ++ (w16 dp) ++ (w32 sq) ++ (w32 ak) ++ (strOfNums [80, fl])) := gd (hl 40 (by decide))
            have e43 : a.tmps[43]?.getD undef = .string (w16 wn) := gd (hl 43 (by decide))
            go_simp
            exact hK _ _ (Below.refl _ _) (by intro d hd; cases hd; exact rfl)
          · intro a w2 hb hl K Q hK
            go_simp
            refine (specWord32_c 0 _ ⟨by omega, by omega⟩).mono ?_
            rintro e w' ⟨rfl, hb'⟩
            exact hK _ _ hb' (by intro d hd; cases hd; exact rfl)
          · intro a w2 hb hl K Q hK
            have e44 : a.tmps[44]?.getD undef = .string (w16 sp ++ (w16 dp) ++ (w32 sq) ++ (w32 ak) ++ (strOfNums [80, fl]) ++ (w16 wn)) := gd (hl 44 (by decide))
            have e45 : a.tmps[45]?.getD undef = .string (w32 0) := gd (hl 45 (by decide))
            go_simp
            exact hK _ _ (Below.refl _ _) (by intro d hd; cases hd; exact rfl)
          · intro a w2 hb hl K Q hK
            have e46 : a.tmps[46]?.getD undef = .string (w16 sp ++ (w16 dp) ++ (w32 sq) ++ (w32 ak) ++ (strOfNums [80, fl]) ++ (w16 wn) ++ (w32 0)) := gd (hl 46 (by decide))
            go_simp
            exact hK _ _ (Below.refl _ _) (by intro d hd; cases hd; exact rfl)
        intro xT w4 hb hL
        have fx8 : xT 8 = .string (w16 sp ++ (w16 dp) ++ (w32 sq) ++ (w32 ak) ++ (strOfNums [80, fl]) ++ (w16 wn) ++ (w32 0)) := hL _ (List.mem_of_getElem? (i := 21) rfl)
        simp only [List.map, putAll, fx8]
        clear hL fx8
        replace hk := ext_step hk (hk.size) hb
        replace hc0 := ccell hb _ _ _ hc0
        replace hc1 := ccell hb _ _ _ hc1
        replace hc2 := ccell hb _ _ _ hc2
        replace hc3 := ccell hb _ _ _ hc3
        replace hc4 := ccell hb _ _ _ hc4
        replace hc5 := ccell hb _ _ _ hc5
        replace hc6 := ccell hb _ _ _ hc6
        replace hc7 := ccell hb _ _ _ hc7
        try replace hz0 := Nat.lt_of_lt_of_le hz0 hb.size
        clear hb
        go_wp2_with fail
        refine (hps _).mono ?_
        rintro e w6 ⟨rfl, hb⟩
        replace hk := ext_step hk hk.size hb
        replace hz0 := Nat.lt_of_lt_of_le hz0 hb.size
        replace hc0 := ccell hb _ _ _ hc0
        replace hc1 := ccell hb _ _ _ hc1
        replace hc2 := ccell hb _ _ _ hc2
        replace hc3 := ccell hb _ _ _ hc3
        replace hc4 := ccell hb _ _ _ hc4
        replace hc5 := ccell hb _ _ _ hc5
        replace hc6 := ccell hb _ _ _ hc6
        replace hc7 := ccell hb _ _ _ hc7
        clear hb
        go_wp2_with fail
        refine (hck _).mono ?_
        rintro e w7 ⟨rfl, hb⟩
        replace hk := ext_step hk hk.size hb
        replace hz0 := Nat.lt_of_lt_of_le hz0 hb.size
        replace hc0 := ccell hb _ _ _ hc0
        replace hc1 := ccell hb _ _ _ hc1
        replace hc2 := ccell hb _ _ _ hc2
        replace hc3 := ccell hb _ _ _ hc3
        replace hc4 := ccell hb _ _ _ hc4
        replace hc5 := ccell hb _ _ _ hc5
        replace hc6 := ccell hb _ _ _ hc6
        replace hc7 := ccell hb _ _ _ hc7
        clear hb
        go_wp2_with fail
        refine (specWord16_c 0 _ ⟨by omega, by omega⟩).mono ?_
        rintro e w9 ⟨rfl, hb⟩
        replace hk := ext_step hk hk.size hb
        replace hz0 := Nat.lt_of_lt_of_le hz0 hb.size
        replace hc0 := ccell hb _ _ _ hc0
        replace hc1 := ccell hb _ _ _ hc1
        replace hc2 := ccell hb _ _ _ hc2
        replace hc3 := ccell hb _ _ _ hc3
        replace hc4 := ccell hb _ _ _ hc4
        replace hc5 := ccell hb _ _ _ hc5
        replace hc6 := ccell hb _ _ _ hc6
        replace hc7 := ccell hb _ _ _ hc7
        clear hb
        have z9 := w16_size (v := 0) (inBi (by omega) (by omega))
        go_wp2_with fail
        refine (specPutBytes_c S0 (w16 0) 16 _ (by omega) (by omega) ⟨by decide, by decide⟩).mono ?_
        rintro e w10 ⟨rfl, hb⟩
        replace hk := ext_step hk hk.size hb
        replace hz0 := Nat.lt_of_lt_of_le hz0 hb.size

        clear hb
        go_wp2
        refine bodyPost_ret (v := .tuple #[.string (putB S0 16 (w16 0)), .bool true]) (by simp [results, Try.results116, go_sem]) rfl ?_
        exact ⟨rfl, hk⟩
      · rw [segS, hS0, segF, hH, hx, show plcI 6 = 16 from rfl, show fixS 6 x = x from if_neg (by simp)]
        have hzz : ¬ 9223372036854775807 < 12 + S0.size := by omega
        have zcat : (H ++ S0).size = 12 + S0.size := by rw [ByteArray.size_append, zH]
        have hq : w16 sp ++ (w16 dp) ++ (w32 sq) ++ (w32 ak) ++ (strOfNums [80, fl]) ++ (w16 wn) ++ (w32 0) ++ bd = S0 := by rw [← hS0]; simp [segS0, w32_zero, ByteArray.append_assoc]
        clear hH hx hS0 hps0
        go_enter Try.func116, Try.ntmps116
        go_upto_region 1 with fail
        have hk : Below w.heap.size w (w.alloc (.cells #[.int .i64 6, .int .i64 sp, .int .i64 dp, .int .i64 sq, .int .i64 ak, .int .i64 fl, .int .i64 wn, .string bd] 29)) := by go_grown
        have hz0 : w.heap.size < (w.alloc (.cells #[.int .i64 6, .int .i64 sp, .int .i64 dp, .int .i64 sq, .int .i64 ak, .int .i64 fl, .int .i64 wn, .string bd] 29)).heap.size := by go_size
        have hc0 : (w.alloc (.cells #[.int .i64 6, .int .i64 sp, .int .i64 dp, .int .i64 sq, .int .i64 ak, .int .i64 fl, .int .i64 wn, .string bd] 29)).cell? ⟨w.heap.size, 0, none⟩ = some (.int .i64 6) := by simp [go_sem]
        have hc1 : (w.alloc (.cells #[.int .i64 6, .int .i64 sp, .int .i64 dp, .int .i64 sq, .int .i64 ak, .int .i64 fl, .int .i64 wn, .string bd] 29)).cell? ⟨w.heap.size, 1, none⟩ = some (.int .i64 sp) := by simp [go_sem]
        have hc2 : (w.alloc (.cells #[.int .i64 6, .int .i64 sp, .int .i64 dp, .int .i64 sq, .int .i64 ak, .int .i64 fl, .int .i64 wn, .string bd] 29)).cell? ⟨w.heap.size, 2, none⟩ = some (.int .i64 dp) := by simp [go_sem]
        have hc3 : (w.alloc (.cells #[.int .i64 6, .int .i64 sp, .int .i64 dp, .int .i64 sq, .int .i64 ak, .int .i64 fl, .int .i64 wn, .string bd] 29)).cell? ⟨w.heap.size, 3, none⟩ = some (.int .i64 sq) := by simp [go_sem]
        have hc4 : (w.alloc (.cells #[.int .i64 6, .int .i64 sp, .int .i64 dp, .int .i64 sq, .int .i64 ak, .int .i64 fl, .int .i64 wn, .string bd] 29)).cell? ⟨w.heap.size, 4, none⟩ = some (.int .i64 ak) := by simp [go_sem]
        have hc5 : (w.alloc (.cells #[.int .i64 6, .int .i64 sp, .int .i64 dp, .int .i64 sq, .int .i64 ak, .int .i64 fl, .int .i64 wn, .string bd] 29)).cell? ⟨w.heap.size, 5, none⟩ = some (.int .i64 fl) := by simp [go_sem]
        have hc6 : (w.alloc (.cells #[.int .i64 6, .int .i64 sp, .int .i64 dp, .int .i64 sq, .int .i64 ak, .int .i64 fl, .int .i64 wn, .string bd] 29)).cell? ⟨w.heap.size, 6, none⟩ = some (.int .i64 wn) := by simp [go_sem]
        have hc7 : (w.alloc (.cells #[.int .i64 6, .int .i64 sp, .int .i64 dp, .int .i64 sq, .int .i64 ak, .int .i64 fl, .int .i64 wn, .string bd] 29)).cell? ⟨w.heap.size, 7, none⟩ = some (.string bd) := by simp [go_sem]
        generalize hW : w.alloc (.cells #[.int .i64 6, .int .i64 sp, .int .i64 dp, .int .i64 sq, .int .i64 ak, .int .i64 fl, .int .i64 wn, .string bd] 29) = w1 at *
        clear hW
        go_wp2_with fail
        refine (calls_bool (specSegmentOk_c 6 sp dp sq ak fl wn bd _ hz) hok).mono ?_
        rintro e w2 ⟨rfl, hb⟩
        replace hk := ext_step hk hk.size hb
        replace hz0 := Nat.lt_of_lt_of_le hz0 hb.size
        replace hc0 := ccell hb _ _ _ hc0
        replace hc1 := ccell hb _ _ _ hc1
        replace hc2 := ccell hb _ _ _ hc2
        replace hc3 := ccell hb _ _ _ hc3
        replace hc4 := ccell hb _ _ _ hc4
        replace hc5 := ccell hb _ _ _ hc5
        replace hc6 := ccell hb _ _ _ hc6
        replace hc7 := ccell hb _ _ _ hc7
        clear hb
        go_wp2_with fail
        refine wp_region_slotsP [] [(16, fun _ v => v = .pointer (some ⟨w.heap.size, 1, none⟩)), (17, fun _ v => v = .int .i64 sp), (18, fun _ v => v = .string (w16 sp)), (19, fun _ v => v = .pointer (some ⟨w.heap.size, 2, none⟩)), (20, fun _ v => v = .int .i64 dp), (21, fun _ v => v = .string (w16 dp)), (22, fun _ v => v = .string (w16 sp ++ (w16 dp))), (8, fun _ v => v = .string (w16 sp ++ (w16 dp)))] (by kernel_rfl) (by kernel_rfl) (by kernel_rfl) (by kernel_rfl) (by kernel_rfl) ?_ ?_ ?_
        · intro p hp
          simp only [List.mem_cons, List.not_mem_nil, or_false] at hp
          rcases hp with rfl | rfl | rfl | rfl | rfl | rfl | rfl | rfl
          all_goals (intro w w' v hb hv)
          all_goals first | exact hv | (obtain ⟨b, rfl, h⟩ := hv; exact ⟨b, rfl, byt_mono hb _ h⟩)
        · intro o ho
          simp only [List.mem_cons, List.not_mem_nil, or_false] at ho
          rcases ho with rfl | rfl | rfl | rfl | rfl | rfl | rfl | rfl
          all_goals refine stepOk2_plain rfl ?_
          · intro a w2 hb hl K Q hK
            have e5 : a.tmps[5]?.getD undef = .pointer (some ⟨w.heap.size, 0, none⟩) := gd (hl 5 (by decide))
            go_simp
            exact hK _ _ (Below.refl _ _) (by intro d hd; cases hd; exact rfl)
          · intro a w2 hb hl K Q hK
            have e16 : a.tmps[16]?.getD undef = .pointer (some ⟨w.heap.size, 1, none⟩) := gd (hl 16 (by decide))
            have hd1 := ccell hb _ _ _ hc1
            go_simp
            exact hK _ _ (Below.refl _ _) (by intro d hd; cases hd; exact rfl)
          · intro a w2 hb hl K Q hK
            have e17 : a.tmps[17]?.getD undef = .int .i64 sp := gd (hl 17 (by decide))
            go_simp
            refine (specWord16_c sp _ ⟨by omega, by omega⟩).mono ?_
            rintro e w' ⟨rfl, hb'⟩
            exact hK _ _ hb' (by intro d hd; cases hd; exact rfl)
          · intro a w2 hb hl K Q hK
            have e5 : a.tmps[5]?.getD undef = .pointer (some ⟨w.heap.size, 0, none⟩) := gd (hl 5 (by decide))
            go_simp
            exact hK _ _ (Below.refl _ _) (by intro d hd; cases hd; exact rfl)
          · intro a w2 hb hl K Q hK
            have e19 : a.tmps[19]?.getD undef = .pointer (some ⟨w.heap.size, 2, none⟩) := gd (hl 19 (by decide))
            have hd2 := ccell hb _ _ _ hc2
            go_simp
            exact hK _ _ (Below.refl _ _) (by intro d hd; cases hd; exact rfl)
          · intro a w2 hb hl K Q hK
            have e20 : a.tmps[20]?.getD undef = .int .i64 dp := gd (hl 20 (by decide))
            go_simp
            refine (specWord16_c dp _ ⟨by omega, by omega⟩).mono ?_
            rintro e w' ⟨rfl, hb'⟩
            exact hK _ _ hb' (by intro d hd; cases hd; exact rfl)
          · intro a w2 hb hl K Q hK
            have e18 : a.tmps[18]?.getD undef = .string (w16 sp) := gd (hl 18 (by decide))
            have e21 : a.tmps[21]?.getD undef = .string (w16 dp) := gd (hl 21 (by decide))
            go_simp
            exact hK _ _ (Below.refl _ _) (by intro d hd; cases hd; exact rfl)
          · intro a w2 hb hl K Q hK
            have e22 : a.tmps[22]?.getD undef = .string (w16 sp ++ (w16 dp)) := gd (hl 22 (by decide))
            go_simp
            exact hK _ _ (Below.refl _ _) (by intro d hd; cases hd; exact rfl)
        intro xT w3 hb hL
        have fx8 : xT 8 = .string (w16 sp ++ (w16 dp)) := hL _ (List.mem_of_getElem? (i := 7) rfl)
        simp only [List.map, putAll, fx8]
        clear hL fx8
        replace hk := ext_step hk (hk.size) hb
        replace hc0 := ccell hb _ _ _ hc0
        replace hc1 := ccell hb _ _ _ hc1
        replace hc2 := ccell hb _ _ _ hc2
        replace hc3 := ccell hb _ _ _ hc3
        replace hc4 := ccell hb _ _ _ hc4
        replace hc5 := ccell hb _ _ _ hc5
        replace hc6 := ccell hb _ _ _ hc6
        replace hc7 := ccell hb _ _ _ hc7
        try replace hz0 := Nat.lt_of_lt_of_le hz0 hb.size
        clear hb
        go_wp2_with fail
        refine wp_region_slotsP [8] [(26, fun _ v => v = .string (w16 sp ++ (w16 dp))), (27, fun _ v => v = .pointer (some ⟨w.heap.size, 3, none⟩)), (28, fun _ v => v = .int .i64 sq), (29, fun _ v => v = .string (w32 sq)), (30, fun _ v => v = .string (w16 sp ++ (w16 dp) ++ (w32 sq))), (31, fun _ v => v = .pointer (some ⟨w.heap.size, 4, none⟩)), (32, fun _ v => v = .int .i64 ak), (33, fun _ v => v = .string (w32 ak)), (34, fun _ v => v = .string (w16 sp ++ (w16 dp) ++ (w32 sq) ++ (w32 ak))), (35, fun _ v => v = .pointer (some ⟨w.heap.size, 5, none⟩)), (36, fun _ v => v = .int .i64 fl), (37, fun _ v => v = .int .u8 fl), (38, fun w v => ∃ b, v = .slice (some ⟨b, 0, none⟩) 2 2 ∧ Byt w b (80) (fl)), (39, fun _ v => v = .string (strOfNums [80, fl])), (40, fun _ v => v = .string (w16 sp ++ (w16 dp) ++ (w32 sq) ++ (w32 ak) ++ (strOfNums [80, fl]))), (41, fun _ v => v = .pointer (some ⟨w.heap.size, 6, none⟩)), (42, fun _ v => v = .int .i64 wn), (43, fun _ v => v = .string (w16 wn)), (44, fun _ v => v = .string (w16 sp ++ (w16 dp) ++ (w32 sq) ++ (w32 ak) ++ (strOfNums [80, fl]) ++ (w16 wn))), (45, fun _ v => v = .string (w32 0)), (46, fun _ v => v = .string (w16 sp ++ (w16 dp) ++ (w32 sq) ++ (w32 ak) ++ (strOfNums [80, fl]) ++ (w16 wn) ++ (w32 0))), (8, fun _ v => v = .string (w16 sp ++ (w16 dp) ++ (w32 sq) ++ (w32 ak) ++ (strOfNums [80, fl]) ++ (w16 wn) ++ (w32 0)))] (by kernel_rfl) (by kernel_rfl) (by kernel_rfl) (by kernel_rfl) (by kernel_rfl) ?_ ?_ ?_
        · intro p hp
          simp only [List.mem_cons, List.not_mem_nil, or_false] at hp
          rcases hp with rfl | rfl | rfl | rfl | rfl | rfl | rfl | rfl | rfl | rfl | rfl | rfl | rfl | rfl | rfl | rfl | rfl | rfl | rfl | rfl | rfl | rfl
          all_goals (intro w w' v hb hv)
          all_goals first | exact hv | (obtain ⟨b, rfl, h⟩ := hv; exact ⟨b, rfl, byt_mono hb _ h⟩)
        · intro o ho
          simp only [List.mem_cons, List.not_mem_nil, or_false] at ho
          rcases ho with rfl | rfl | rfl | rfl | rfl | rfl | rfl | rfl | rfl | rfl | rfl | rfl | rfl | rfl | rfl | rfl | rfl | rfl | rfl | rfl | rfl | rfl
          all_goals refine stepOk2_plain rfl ?_
          · intro a w2 hb hl K Q hK
            have e8 : a.tmps[8]?.getD undef = .string (w16 sp ++ (w16 dp)) := gd (hl 8 (by decide))
            go_simp
            exact hK _ _ (Below.refl _ _) (by intro d hd; cases hd; exact rfl)
          · intro a w2 hb hl K Q hK
            have e5 : a.tmps[5]?.getD undef = .pointer (some ⟨w.heap.size, 0, none⟩) := gd (hl 5 (by decide))
            go_simp
            exact hK _ _ (Below.refl _ _) (by intro d hd; cases hd; exact rfl)
          · intro a w2 hb hl K Q hK
            have e27 : a.tmps[27]?.getD undef = .pointer (some ⟨w.heap.size, 3, none⟩) := gd (hl 27 (by decide))
            have hd3 := ccell hb _ _ _ hc3
            go_simp
            exact hK _ _ (Below.refl _ _) (by intro d hd; cases hd; exact rfl)
          · intro a w2 hb hl K Q hK
            have e28 : a.tmps[28]?.getD undef = .int .i64 sq := gd (hl 28 (by decide))
            go_simp
            refine (specWord32_c sq _ ⟨by omega, by omega⟩).mono ?_
            rintro e w' ⟨rfl, hb'⟩
            exact hK _ _ hb' (by intro d hd; cases hd; exact rfl)
          · intro a w2 hb hl K Q hK
            have e26 : a.tmps[26]?.getD undef = .string (w16 sp ++ (w16 dp)) := gd (hl 26 (by decide))
            have e29 : a.tmps[29]?.getD undef = .string (w32 sq) := gd (hl 29 (by decide))
            go_simp
            exact hK _ _ (Below.refl _ _) (by intro d hd; cases hd; exact rfl)
          · intro a w2 hb hl K Q hK
            have e5 : a.tmps[5]?.getD undef = .pointer (some ⟨w.heap.size, 0, none⟩) := gd (hl 5 (by decide))
            go_simp
            exact hK _ _ (Below.refl _ _) (by intro d hd; cases hd; exact rfl)
          · intro a w2 hb hl K Q hK
            have e31 : a.tmps[31]?.getD undef = .pointer (some ⟨w.heap.size, 4, none⟩) := gd (hl 31 (by decide))
            have hd4 := ccell hb _ _ _ hc4
            go_simp
            exact hK _ _ (Below.refl _ _) (by intro d hd; cases hd; exact rfl)
          · intro a w2 hb hl K Q hK
            have e32 : a.tmps[32]?.getD undef = .int .i64 ak := gd (hl 32 (by decide))
            go_simp
            refine (specWord32_c ak _ ⟨by omega, by omega⟩).mono ?_
            rintro e w' ⟨rfl, hb'⟩
            exact hK _ _ hb' (by intro d hd; cases hd; exact rfl)
          · intro a w2 hb hl K Q hK
            have e30 : a.tmps[30]?.getD undef = .string (w16 sp ++ (w16 dp) ++ (w32 sq)) := gd (hl 30 (by decide))
            have e33 : a.tmps[33]?.getD undef = .string (w32 ak) := gd (hl 33 (by decide))
            go_simp
            exact hK _ _ (Below.refl _ _) (by intro d hd; cases hd; exact rfl)
          · intro a w2 hb hl K Q hK
            have e5 : a.tmps[5]?.getD undef = .pointer (some ⟨w.heap.size, 0, none⟩) := gd (hl 5 (by decide))
            go_simp
            exact hK _ _ (Below.refl _ _) (by intro d hd; cases hd; exact rfl)
          · intro a w2 hb hl K Q hK
            have e35 : a.tmps[35]?.getD undef = .pointer (some ⟨w.heap.size, 5, none⟩) := gd (hl 35 (by decide))
            have hd5 := ccell hb _ _ _ hc5
            go_simp
            exact hK _ _ (Below.refl _ _) (by intro d hd; cases hd; exact rfl)
          · intro a w2 hb hl K Q hK
            have e36 : a.tmps[36]?.getD undef = .int .i64 fl := gd (hl 36 (by decide))
            go_simp
            exact hK _ _ (Below.refl _ _) (by intro d hd; cases hd; exact rfl)
          · intro a w2 hb hl K Q hK
            have e37 : a.tmps[37]?.getD undef = .int .u8 fl := gd (hl 37 (by decide))
            go_simp
            exact hK _ _ (by go_grown) (by intro d hd; cases hd; exact ⟨_, rfl, byt_new _ _ _ _⟩)
          · intro a w2 hb hl K Q hK
            obtain ⟨b38, hb38, hbyt38⟩ : ∃ b, a.tmps.getD 38 undef = .slice (some ⟨b, 0, none⟩) 2 2 ∧ Byt w2 b (80) (fl) := hl 38 (by decide)
            have e38 := gd hb38
            have hcv := byt_conv (80) (fl) w2 b38 hbyt38
            go_simp
            exact hK _ _ (Below.refl _ _) (by intro d hd; cases hd; exact rfl)
          · intro a w2 hb hl K Q hK
            have e34 : a.tmps[34]?.getD undef = .string (w16 sp ++ (w16 dp) ++ (w32 sq) ++ (w32 ak)) := gd (hl 34 (by decide))
            have e39 : a.tmps[39]?.getD undef = .string (strOfNums [80, fl]) := gd (hl 39 (by decide))
            go_simp
            exact hK _ _ (Below.refl _ _) (by intro d hd; cases hd; exact rfl)
          · intro a w2 hb hl K Q hK
            have e5 : a.tmps[5]?.getD undef = .pointer (some ⟨w.heap.size, 0, none⟩) := gd (hl 5 (by decide))
            go_simp
            exact hK _ _ (Below.refl _ _) (by intro d hd; cases hd; exact rfl)
          · intro a w2 hb hl K Q hK
            have e41 : a.tmps[41]?.getD undef = .pointer (some ⟨w.heap.size, 6, none⟩) := gd (hl 41 (by decide))
            have hd6 := ccell hb _ _ _ hc6
            go_simp
            exact hK _ _ (Below.refl _ _) (by intro d hd; cases hd; exact rfl)
          · intro a w2 hb hl K Q hK
            have e42 : a.tmps[42]?.getD undef = .int .i64 wn := gd (hl 42 (by decide))
            go_simp
            refine (specWord16_c wn _ ⟨by omega, by omega⟩).mono ?_
            rintro e w' ⟨rfl, hb'⟩
            exact hK _ _ hb' (by intro d hd; cases hd; exact rfl)
          · intro a w2 hb hl K Q hK
            have e40 : a.tmps[40]?.getD undef = .string (w16 sp ++ (w16 dp) ++ (w32 sq) ++ (w32 ak) ++ (strOfNums [80, fl])) := gd (hl 40 (by decide))
            have e43 : a.tmps[43]?.getD undef = .string (w16 wn) := gd (hl 43 (by decide))
            go_simp
            exact hK _ _ (Below.refl _ _) (by intro d hd; cases hd; exact rfl)
          · intro a w2 hb hl K Q hK
            go_simp
            refine (specWord32_c 0 _ ⟨by omega, by omega⟩).mono ?_
            rintro e w' ⟨rfl, hb'⟩
            exact hK _ _ hb' (by intro d hd; cases hd; exact rfl)
          · intro a w2 hb hl K Q hK
            have e44 : a.tmps[44]?.getD undef = .string (w16 sp ++ (w16 dp) ++ (w32 sq) ++ (w32 ak) ++ (strOfNums [80, fl]) ++ (w16 wn)) := gd (hl 44 (by decide))
            have e45 : a.tmps[45]?.getD undef = .string (w32 0) := gd (hl 45 (by decide))
            go_simp
            exact hK _ _ (Below.refl _ _) (by intro d hd; cases hd; exact rfl)
          · intro a w2 hb hl K Q hK
            have e46 : a.tmps[46]?.getD undef = .string (w16 sp ++ (w16 dp) ++ (w32 sq) ++ (w32 ak) ++ (strOfNums [80, fl]) ++ (w16 wn) ++ (w32 0)) := gd (hl 46 (by decide))
            go_simp
            exact hK _ _ (Below.refl _ _) (by intro d hd; cases hd; exact rfl)
        intro xT w4 hb hL
        have fx8 : xT 8 = .string (w16 sp ++ (w16 dp) ++ (w32 sq) ++ (w32 ak) ++ (strOfNums [80, fl]) ++ (w16 wn) ++ (w32 0)) := hL _ (List.mem_of_getElem? (i := 21) rfl)
        simp only [List.map, putAll, fx8]
        clear hL fx8
        replace hk := ext_step hk (hk.size) hb
        replace hc0 := ccell hb _ _ _ hc0
        replace hc1 := ccell hb _ _ _ hc1
        replace hc2 := ccell hb _ _ _ hc2
        replace hc3 := ccell hb _ _ _ hc3
        replace hc4 := ccell hb _ _ _ hc4
        replace hc5 := ccell hb _ _ _ hc5
        replace hc6 := ccell hb _ _ _ hc6
        replace hc7 := ccell hb _ _ _ hc7
        try replace hz0 := Nat.lt_of_lt_of_le hz0 hb.size
        clear hb
        go_wp2_with fail
        refine (hps _).mono ?_
        rintro e w6 ⟨rfl, hb⟩
        replace hk := ext_step hk hk.size hb
        replace hz0 := Nat.lt_of_lt_of_le hz0 hb.size
        replace hc0 := ccell hb _ _ _ hc0
        replace hc1 := ccell hb _ _ _ hc1
        replace hc2 := ccell hb _ _ _ hc2
        replace hc3 := ccell hb _ _ _ hc3
        replace hc4 := ccell hb _ _ _ hc4
        replace hc5 := ccell hb _ _ _ hc5
        replace hc6 := ccell hb _ _ _ hc6
        replace hc7 := ccell hb _ _ _ hc7
        clear hb
        go_wp2_with fail
        refine (hck _).mono ?_
        rintro e w7 ⟨rfl, hb⟩
        replace hk := ext_step hk hk.size hb
        replace hz0 := Nat.lt_of_lt_of_le hz0 hb.size
        replace hc0 := ccell hb _ _ _ hc0
        replace hc1 := ccell hb _ _ _ hc1
        replace hc2 := ccell hb _ _ _ hc2
        replace hc3 := ccell hb _ _ _ hc3
        replace hc4 := ccell hb _ _ _ hc4
        replace hc5 := ccell hb _ _ _ hc5
        replace hc6 := ccell hb _ _ _ hc6
        replace hc7 := ccell hb _ _ _ hc7
        clear hb
        go_wp2_with fail
        refine (specWord16_c x _ ⟨by omega, by omega⟩).mono ?_
        rintro e w9 ⟨rfl, hb⟩
        replace hk := ext_step hk hk.size hb
        replace hz0 := Nat.lt_of_lt_of_le hz0 hb.size
        replace hc0 := ccell hb _ _ _ hc0
        replace hc1 := ccell hb _ _ _ hc1
        replace hc2 := ccell hb _ _ _ hc2
        replace hc3 := ccell hb _ _ _ hc3
        replace hc4 := ccell hb _ _ _ hc4
        replace hc5 := ccell hb _ _ _ hc5
        replace hc6 := ccell hb _ _ _ hc6
        replace hc7 := ccell hb _ _ _ hc7
        clear hb
        have z9 := w16_size (v := x) (inBi (by omega) (by omega))
        go_wp2_with fail
        refine (specPutBytes_c S0 (w16 x) 16 _ (by omega) (by omega) ⟨by decide, by decide⟩).mono ?_
        rintro e w10 ⟨rfl, hb⟩
        replace hk := ext_step hk hk.size hb
        replace hz0 := Nat.lt_of_lt_of_le hz0 hb.size

        clear hb
        go_wp2
        refine bodyPost_ret (v := .tuple #[.string (putB S0 16 (w16 x)), .bool true]) (by simp [results, Try.results116, go_sem]) rfl ?_
        exact ⟨rfl, hk⟩
    · have z3 := w16_size (inBi (show (0 : Int) ≤ 8 + (bd.size : Int) by omega) (show 8 + (bd.size : Int) ≤ 65535 by omega))
      have k9 : IntKind.i64.wrap (8 + (bd.size : Int)) = 8 + (bd.size : Int) := IntWalk.i64_in _ ⟨by omega, by omega⟩
      have zb : ¬ 9223372036854775807 < 8 + bd.size := by omega
      obtain ⟨S0, hS0⟩ : ∃ S, segS0 17 sp dp 0 0 0 0 bd = S := ⟨_, rfl⟩
      have hss := segS0_size hok
      rw [hS0] at hss
      simp only [if_pos, show ¬ (17 : Int) = 6 by decide, if_false] at hss
      have hsl : S0.size ≤ 340 := by omega
      clear hss
      have hps0 : psB si di 17 (S0.size : Int) = true := by simp only [psB, hsi, hdi, Bool.true_and, Bool.and_eq_true]; exact ⟨by decide, inBi (by omega) (by omega)⟩
      have hps := fun u => specPseudoHeader_c si di 17 S0.size u hps0
      obtain ⟨H, hH⟩ : ∃ H, psH si di 17 (S0.size : Int) = H := ⟨_, rfl⟩
      have zH : H.size = 12 := by rw [← hH]; simp only [psH, ByteArray.size_append, strOfNums_size, w32_size hsi, w32_size hdi, w16_size (inBi (show (0 : Int) ≤ (S0.size : Int) by omega) (show (S0.size : Int) ≤ 65535 by omega))]; rfl
      simp only [hH] at hps
      have hck := fun u => specChecksum_c (H ++ S0) u (by rw [ByteArray.size_append]; omega)
      obtain ⟨x, hx⟩ : ∃ x, chk (H ++ S0) = x := ⟨_, rfl⟩
      have hxb := chk_bd (H ++ S0)
      rw [hx] at hxb
      simp only [hx] at hck
      by_cases hx0 : x = 0
      · rw [segS, hS0, segF, hH, hx, show plcI 17 = 6 from rfl, fixS, if_pos ⟨rfl, hx0⟩]
        subst hx0
        have hzz : ¬ 9223372036854775807 < 12 + S0.size := by omega
        have zcat : (H ++ S0).size = 12 + S0.size := by rw [ByteArray.size_append, zH]
        have hq : w16 sp ++ (w16 dp) ++ (w16 (8 + (bd.size : Int))) ++ (w16 0) ++ bd = S0 := by rw [← hS0]; simp [segS0, ByteArray.append_assoc]
        clear hH hx hS0 hps0
        go_enter Try.func116, Try.ntmps116
        go_upto_region 1 with fail
        have hk : Below w.heap.size w (w.alloc (.cells #[.int .i64 17, .int .i64 sp, .int .i64 dp, .int .i64 0, .int .i64 0, .int .i64 0, .int .i64 0, .string bd] 29)) := by go_grown
        have hz0 : w.heap.size < (w.alloc (.cells #[.int .i64 17, .int .i64 sp, .int .i64 dp, .int .i64 0, .int .i64 0, .int .i64 0, .int .i64 0, .string bd] 29)).heap.size := by go_size
        have hc0 : (w.alloc (.cells #[.int .i64 17, .int .i64 sp, .int .i64 dp, .int .i64 0, .int .i64 0, .int .i64 0, .int .i64 0, .string bd] 29)).cell? ⟨w.heap.size, 0, none⟩ = some (.int .i64 17) := by simp [go_sem]
        have hc1 : (w.alloc (.cells #[.int .i64 17, .int .i64 sp, .int .i64 dp, .int .i64 0, .int .i64 0, .int .i64 0, .int .i64 0, .string bd] 29)).cell? ⟨w.heap.size, 1, none⟩ = some (.int .i64 sp) := by simp [go_sem]
        have hc2 : (w.alloc (.cells #[.int .i64 17, .int .i64 sp, .int .i64 dp, .int .i64 0, .int .i64 0, .int .i64 0, .int .i64 0, .string bd] 29)).cell? ⟨w.heap.size, 2, none⟩ = some (.int .i64 dp) := by simp [go_sem]
        have hc3 : (w.alloc (.cells #[.int .i64 17, .int .i64 sp, .int .i64 dp, .int .i64 0, .int .i64 0, .int .i64 0, .int .i64 0, .string bd] 29)).cell? ⟨w.heap.size, 3, none⟩ = some (.int .i64 0) := by simp [go_sem]
        have hc4 : (w.alloc (.cells #[.int .i64 17, .int .i64 sp, .int .i64 dp, .int .i64 0, .int .i64 0, .int .i64 0, .int .i64 0, .string bd] 29)).cell? ⟨w.heap.size, 4, none⟩ = some (.int .i64 0) := by simp [go_sem]
        have hc5 : (w.alloc (.cells #[.int .i64 17, .int .i64 sp, .int .i64 dp, .int .i64 0, .int .i64 0, .int .i64 0, .int .i64 0, .string bd] 29)).cell? ⟨w.heap.size, 5, none⟩ = some (.int .i64 0) := by simp [go_sem]
        have hc6 : (w.alloc (.cells #[.int .i64 17, .int .i64 sp, .int .i64 dp, .int .i64 0, .int .i64 0, .int .i64 0, .int .i64 0, .string bd] 29)).cell? ⟨w.heap.size, 6, none⟩ = some (.int .i64 0) := by simp [go_sem]
        have hc7 : (w.alloc (.cells #[.int .i64 17, .int .i64 sp, .int .i64 dp, .int .i64 0, .int .i64 0, .int .i64 0, .int .i64 0, .string bd] 29)).cell? ⟨w.heap.size, 7, none⟩ = some (.string bd) := by simp [go_sem]
        generalize hW : w.alloc (.cells #[.int .i64 17, .int .i64 sp, .int .i64 dp, .int .i64 0, .int .i64 0, .int .i64 0, .int .i64 0, .string bd] 29) = w1 at *
        clear hW
        go_wp2_with fail
        refine (calls_bool (specSegmentOk_c 17 sp dp 0 0 0 0 bd _ hz) hok).mono ?_
        rintro e w2 ⟨rfl, hb⟩
        replace hk := ext_step hk hk.size hb
        replace hz0 := Nat.lt_of_lt_of_le hz0 hb.size
        replace hc0 := ccell hb _ _ _ hc0
        replace hc1 := ccell hb _ _ _ hc1
        replace hc2 := ccell hb _ _ _ hc2
        replace hc3 := ccell hb _ _ _ hc3
        replace hc4 := ccell hb _ _ _ hc4
        replace hc5 := ccell hb _ _ _ hc5
        replace hc6 := ccell hb _ _ _ hc6
        replace hc7 := ccell hb _ _ _ hc7
        clear hb
        go_wp2_with fail
        refine wp_region_slotsP [] [(16, fun _ v => v = .pointer (some ⟨w.heap.size, 1, none⟩)), (17, fun _ v => v = .int .i64 sp), (18, fun _ v => v = .string (w16 sp)), (19, fun _ v => v = .pointer (some ⟨w.heap.size, 2, none⟩)), (20, fun _ v => v = .int .i64 dp), (21, fun _ v => v = .string (w16 dp)), (22, fun _ v => v = .string (w16 sp ++ (w16 dp))), (8, fun _ v => v = .string (w16 sp ++ (w16 dp)))] (by kernel_rfl) (by kernel_rfl) (by kernel_rfl) (by kernel_rfl) (by kernel_rfl) ?_ ?_ ?_
        · intro p hp
          simp only [List.mem_cons, List.not_mem_nil, or_false] at hp
          rcases hp with rfl | rfl | rfl | rfl | rfl | rfl | rfl | rfl
          all_goals (intro w w' v hb hv)
          all_goals first | exact hv | (obtain ⟨b, rfl, h⟩ := hv; exact ⟨b, rfl, byt_mono hb _ h⟩)
        · intro o ho
          simp only [List.mem_cons, List.not_mem_nil, or_false] at ho
          rcases ho with rfl | rfl | rfl | rfl | rfl | rfl | rfl | rfl
          all_goals refine stepOk2_plain rfl ?_
          · intro a w2 hb hl K Q hK
            have e5 : a.tmps[5]?.getD undef = .pointer (some ⟨w.heap.size, 0, none⟩) := gd (hl 5 (by decide))
            go_simp
            exact hK _ _ (Below.refl _ _) (by intro d hd; cases hd; exact rfl)
          · intro a w2 hb hl K Q hK
            have e16 : a.tmps[16]?.getD undef = .pointer (some ⟨w.heap.size, 1, none⟩) := gd (hl 16 (by decide))
            have hd1 := ccell hb _ _ _ hc1
            go_simp
            exact hK _ _ (Below.refl _ _) (by intro d hd; cases hd; exact rfl)
          · intro a w2 hb hl K Q hK
            have e17 : a.tmps[17]?.getD undef = .int .i64 sp := gd (hl 17 (by decide))
            go_simp
            refine (specWord16_c sp _ ⟨by omega, by omega⟩).mono ?_
            rintro e w' ⟨rfl, hb'⟩
            exact hK _ _ hb' (by intro d hd; cases hd; exact rfl)
          · intro a w2 hb hl K Q hK
            have e5 : a.tmps[5]?.getD undef = .pointer (some ⟨w.heap.size, 0, none⟩) := gd (hl 5 (by decide))
            go_simp
            exact hK _ _ (Below.refl _ _) (by intro d hd; cases hd; exact rfl)
          · intro a w2 hb hl K Q hK
            have e19 : a.tmps[19]?.getD undef = .pointer (some ⟨w.heap.size, 2, none⟩) := gd (hl 19 (by decide))
            have hd2 := ccell hb _ _ _ hc2
            go_simp
            exact hK _ _ (Below.refl _ _) (by intro d hd; cases hd; exact rfl)
          · intro a w2 hb hl K Q hK
            have e20 : a.tmps[20]?.getD undef = .int .i64 dp := gd (hl 20 (by decide))
            go_simp
            refine (specWord16_c dp _ ⟨by omega, by omega⟩).mono ?_
            rintro e w' ⟨rfl, hb'⟩
            exact hK _ _ hb' (by intro d hd; cases hd; exact rfl)
          · intro a w2 hb hl K Q hK
            have e18 : a.tmps[18]?.getD undef = .string (w16 sp) := gd (hl 18 (by decide))
            have e21 : a.tmps[21]?.getD undef = .string (w16 dp) := gd (hl 21 (by decide))
            go_simp
            exact hK _ _ (Below.refl _ _) (by intro d hd; cases hd; exact rfl)
          · intro a w2 hb hl K Q hK
            have e22 : a.tmps[22]?.getD undef = .string (w16 sp ++ (w16 dp)) := gd (hl 22 (by decide))
            go_simp
            exact hK _ _ (Below.refl _ _) (by intro d hd; cases hd; exact rfl)
        intro xT w3 hb hL
        have fx8 : xT 8 = .string (w16 sp ++ (w16 dp)) := hL _ (List.mem_of_getElem? (i := 7) rfl)
        simp only [List.map, putAll, fx8]
        clear hL fx8
        replace hk := ext_step hk (hk.size) hb
        replace hc0 := ccell hb _ _ _ hc0
        replace hc1 := ccell hb _ _ _ hc1
        replace hc2 := ccell hb _ _ _ hc2
        replace hc3 := ccell hb _ _ _ hc3
        replace hc4 := ccell hb _ _ _ hc4
        replace hc5 := ccell hb _ _ _ hc5
        replace hc6 := ccell hb _ _ _ hc6
        replace hc7 := ccell hb _ _ _ hc7
        try replace hz0 := Nat.lt_of_lt_of_le hz0 hb.size
        clear hb
        go_wp2_with fail
        refine (specWord16_c (8 + (bd.size : Int)) _ ⟨by omega, by omega⟩).mono ?_
        rintro e w4 ⟨rfl, hb⟩
        replace hk := ext_step hk hk.size hb
        replace hz0 := Nat.lt_of_lt_of_le hz0 hb.size
        replace hc0 := ccell hb _ _ _ hc0
        replace hc1 := ccell hb _ _ _ hc1
        replace hc2 := ccell hb _ _ _ hc2
        replace hc3 := ccell hb _ _ _ hc3
        replace hc4 := ccell hb _ _ _ hc4
        replace hc5 := ccell hb _ _ _ hc5
        replace hc6 := ccell hb _ _ _ hc6
        replace hc7 := ccell hb _ _ _ hc7
        clear hb
        go_wp2_with fail
        refine (specWord16_c 0 _ ⟨by decide, by decide⟩).mono ?_
        rintro e w5 ⟨rfl, hb⟩
        replace hk := ext_step hk hk.size hb
        replace hz0 := Nat.lt_of_lt_of_le hz0 hb.size
        replace hc0 := ccell hb _ _ _ hc0
        replace hc1 := ccell hb _ _ _ hc1
        replace hc2 := ccell hb _ _ _ hc2
        replace hc3 := ccell hb _ _ _ hc3
        replace hc4 := ccell hb _ _ _ hc4
        replace hc5 := ccell hb _ _ _ hc5
        replace hc6 := ccell hb _ _ _ hc6
        replace hc7 := ccell hb _ _ _ hc7
        clear hb
        go_wp2_with fail
        refine (hps _).mono ?_
        rintro e w6 ⟨rfl, hb⟩
        replace hk := ext_step hk hk.size hb
        replace hz0 := Nat.lt_of_lt_of_le hz0 hb.size
        replace hc0 := ccell hb _ _ _ hc0
        replace hc1 := ccell hb _ _ _ hc1
        replace hc2 := ccell hb _ _ _ hc2
        replace hc3 := ccell hb _ _ _ hc3
        replace hc4 := ccell hb _ _ _ hc4
        replace hc5 := ccell hb _ _ _ hc5
        replace hc6 := ccell hb _ _ _ hc6
        replace hc7 := ccell hb _ _ _ hc7
        clear hb
        go_wp2_with fail
        refine (hck _).mono ?_
        rintro e w7 ⟨rfl, hb⟩
        replace hk := ext_step hk hk.size hb
        replace hz0 := Nat.lt_of_lt_of_le hz0 hb.size
        replace hc0 := ccell hb _ _ _ hc0
        replace hc1 := ccell hb _ _ _ hc1
        replace hc2 := ccell hb _ _ _ hc2
        replace hc3 := ccell hb _ _ _ hc3
        replace hc4 := ccell hb _ _ _ hc4
        replace hc5 := ccell hb _ _ _ hc5
        replace hc6 := ccell hb _ _ _ hc6
        replace hc7 := ccell hb _ _ _ hc7
        clear hb
        go_wp2_with fail
        refine (specWord16_c 65535 _ ⟨by omega, by omega⟩).mono ?_
        rintro e w9 ⟨rfl, hb⟩
        replace hk := ext_step hk hk.size hb
        replace hz0 := Nat.lt_of_lt_of_le hz0 hb.size
        replace hc0 := ccell hb _ _ _ hc0
        replace hc1 := ccell hb _ _ _ hc1
        replace hc2 := ccell hb _ _ _ hc2
        replace hc3 := ccell hb _ _ _ hc3
        replace hc4 := ccell hb _ _ _ hc4
        replace hc5 := ccell hb _ _ _ hc5
        replace hc6 := ccell hb _ _ _ hc6
        replace hc7 := ccell hb _ _ _ hc7
        clear hb
        have z9 := w16_size (v := 65535) (inBi (by omega) (by omega))
        go_wp2_with fail
        refine (specPutBytes_c S0 (w16 65535) 6 _ (by omega) (by omega) ⟨by decide, by decide⟩).mono ?_
        rintro e w10 ⟨rfl, hb⟩
        replace hk := ext_step hk hk.size hb
        replace hz0 := Nat.lt_of_lt_of_le hz0 hb.size

        clear hb
        go_wp2
        refine bodyPost_ret (v := .tuple #[.string (putB S0 6 (w16 65535)), .bool true]) (by simp [results, Try.results116, go_sem]) rfl ?_
        exact ⟨rfl, hk⟩
      · rw [segS, hS0, segF, hH, hx, show plcI 17 = 6 from rfl, fixS, if_neg (fun h => hx0 h.2)]
        have hzz : ¬ 9223372036854775807 < 12 + S0.size := by omega
        have zcat : (H ++ S0).size = 12 + S0.size := by rw [ByteArray.size_append, zH]
        have hq : w16 sp ++ (w16 dp) ++ (w16 (8 + (bd.size : Int))) ++ (w16 0) ++ bd = S0 := by rw [← hS0]; simp [segS0, ByteArray.append_assoc]
        clear hH hx hS0 hps0
        go_enter Try.func116, Try.ntmps116
        go_upto_region 1 with fail
        have hk : Below w.heap.size w (w.alloc (.cells #[.int .i64 17, .int .i64 sp, .int .i64 dp, .int .i64 0, .int .i64 0, .int .i64 0, .int .i64 0, .string bd] 29)) := by go_grown
        have hz0 : w.heap.size < (w.alloc (.cells #[.int .i64 17, .int .i64 sp, .int .i64 dp, .int .i64 0, .int .i64 0, .int .i64 0, .int .i64 0, .string bd] 29)).heap.size := by go_size
        have hc0 : (w.alloc (.cells #[.int .i64 17, .int .i64 sp, .int .i64 dp, .int .i64 0, .int .i64 0, .int .i64 0, .int .i64 0, .string bd] 29)).cell? ⟨w.heap.size, 0, none⟩ = some (.int .i64 17) := by simp [go_sem]
        have hc1 : (w.alloc (.cells #[.int .i64 17, .int .i64 sp, .int .i64 dp, .int .i64 0, .int .i64 0, .int .i64 0, .int .i64 0, .string bd] 29)).cell? ⟨w.heap.size, 1, none⟩ = some (.int .i64 sp) := by simp [go_sem]
        have hc2 : (w.alloc (.cells #[.int .i64 17, .int .i64 sp, .int .i64 dp, .int .i64 0, .int .i64 0, .int .i64 0, .int .i64 0, .string bd] 29)).cell? ⟨w.heap.size, 2, none⟩ = some (.int .i64 dp) := by simp [go_sem]
        have hc3 : (w.alloc (.cells #[.int .i64 17, .int .i64 sp, .int .i64 dp, .int .i64 0, .int .i64 0, .int .i64 0, .int .i64 0, .string bd] 29)).cell? ⟨w.heap.size, 3, none⟩ = some (.int .i64 0) := by simp [go_sem]
        have hc4 : (w.alloc (.cells #[.int .i64 17, .int .i64 sp, .int .i64 dp, .int .i64 0, .int .i64 0, .int .i64 0, .int .i64 0, .string bd] 29)).cell? ⟨w.heap.size, 4, none⟩ = some (.int .i64 0) := by simp [go_sem]
        have hc5 : (w.alloc (.cells #[.int .i64 17, .int .i64 sp, .int .i64 dp, .int .i64 0, .int .i64 0, .int .i64 0, .int .i64 0, .string bd] 29)).cell? ⟨w.heap.size, 5, none⟩ = some (.int .i64 0) := by simp [go_sem]
        have hc6 : (w.alloc (.cells #[.int .i64 17, .int .i64 sp, .int .i64 dp, .int .i64 0, .int .i64 0, .int .i64 0, .int .i64 0, .string bd] 29)).cell? ⟨w.heap.size, 6, none⟩ = some (.int .i64 0) := by simp [go_sem]
        have hc7 : (w.alloc (.cells #[.int .i64 17, .int .i64 sp, .int .i64 dp, .int .i64 0, .int .i64 0, .int .i64 0, .int .i64 0, .string bd] 29)).cell? ⟨w.heap.size, 7, none⟩ = some (.string bd) := by simp [go_sem]
        generalize hW : w.alloc (.cells #[.int .i64 17, .int .i64 sp, .int .i64 dp, .int .i64 0, .int .i64 0, .int .i64 0, .int .i64 0, .string bd] 29) = w1 at *
        clear hW
        go_wp2_with fail
        refine (calls_bool (specSegmentOk_c 17 sp dp 0 0 0 0 bd _ hz) hok).mono ?_
        rintro e w2 ⟨rfl, hb⟩
        replace hk := ext_step hk hk.size hb
        replace hz0 := Nat.lt_of_lt_of_le hz0 hb.size
        replace hc0 := ccell hb _ _ _ hc0
        replace hc1 := ccell hb _ _ _ hc1
        replace hc2 := ccell hb _ _ _ hc2
        replace hc3 := ccell hb _ _ _ hc3
        replace hc4 := ccell hb _ _ _ hc4
        replace hc5 := ccell hb _ _ _ hc5
        replace hc6 := ccell hb _ _ _ hc6
        replace hc7 := ccell hb _ _ _ hc7
        clear hb
        go_wp2_with fail
        refine wp_region_slotsP [] [(16, fun _ v => v = .pointer (some ⟨w.heap.size, 1, none⟩)), (17, fun _ v => v = .int .i64 sp), (18, fun _ v => v = .string (w16 sp)), (19, fun _ v => v = .pointer (some ⟨w.heap.size, 2, none⟩)), (20, fun _ v => v = .int .i64 dp), (21, fun _ v => v = .string (w16 dp)), (22, fun _ v => v = .string (w16 sp ++ (w16 dp))), (8, fun _ v => v = .string (w16 sp ++ (w16 dp)))] (by kernel_rfl) (by kernel_rfl) (by kernel_rfl) (by kernel_rfl) (by kernel_rfl) ?_ ?_ ?_
        · intro p hp
          simp only [List.mem_cons, List.not_mem_nil, or_false] at hp
          rcases hp with rfl | rfl | rfl | rfl | rfl | rfl | rfl | rfl
          all_goals (intro w w' v hb hv)
          all_goals first | exact hv | (obtain ⟨b, rfl, h⟩ := hv; exact ⟨b, rfl, byt_mono hb _ h⟩)
        · intro o ho
          simp only [List.mem_cons, List.not_mem_nil, or_false] at ho
          rcases ho with rfl | rfl | rfl | rfl | rfl | rfl | rfl | rfl
          all_goals refine stepOk2_plain rfl ?_
          · intro a w2 hb hl K Q hK
            have e5 : a.tmps[5]?.getD undef = .pointer (some ⟨w.heap.size, 0, none⟩) := gd (hl 5 (by decide))
            go_simp
            exact hK _ _ (Below.refl _ _) (by intro d hd; cases hd; exact rfl)
          · intro a w2 hb hl K Q hK
            have e16 : a.tmps[16]?.getD undef = .pointer (some ⟨w.heap.size, 1, none⟩) := gd (hl 16 (by decide))
            have hd1 := ccell hb _ _ _ hc1
            go_simp
            exact hK _ _ (Below.refl _ _) (by intro d hd; cases hd; exact rfl)
          · intro a w2 hb hl K Q hK
            have e17 : a.tmps[17]?.getD undef = .int .i64 sp := gd (hl 17 (by decide))
            go_simp
            refine (specWord16_c sp _ ⟨by omega, by omega⟩).mono ?_
            rintro e w' ⟨rfl, hb'⟩
            exact hK _ _ hb' (by intro d hd; cases hd; exact rfl)
          · intro a w2 hb hl K Q hK
            have e5 : a.tmps[5]?.getD undef = .pointer (some ⟨w.heap.size, 0, none⟩) := gd (hl 5 (by decide))
            go_simp
            exact hK _ _ (Below.refl _ _) (by intro d hd; cases hd; exact rfl)
          · intro a w2 hb hl K Q hK
            have e19 : a.tmps[19]?.getD undef = .pointer (some ⟨w.heap.size, 2, none⟩) := gd (hl 19 (by decide))
            have hd2 := ccell hb _ _ _ hc2
            go_simp
            exact hK _ _ (Below.refl _ _) (by intro d hd; cases hd; exact rfl)
          · intro a w2 hb hl K Q hK
            have e20 : a.tmps[20]?.getD undef = .int .i64 dp := gd (hl 20 (by decide))
            go_simp
            refine (specWord16_c dp _ ⟨by omega, by omega⟩).mono ?_
            rintro e w' ⟨rfl, hb'⟩
            exact hK _ _ hb' (by intro d hd; cases hd; exact rfl)
          · intro a w2 hb hl K Q hK
            have e18 : a.tmps[18]?.getD undef = .string (w16 sp) := gd (hl 18 (by decide))
            have e21 : a.tmps[21]?.getD undef = .string (w16 dp) := gd (hl 21 (by decide))
            go_simp
            exact hK _ _ (Below.refl _ _) (by intro d hd; cases hd; exact rfl)
          · intro a w2 hb hl K Q hK
            have e22 : a.tmps[22]?.getD undef = .string (w16 sp ++ (w16 dp)) := gd (hl 22 (by decide))
            go_simp
            exact hK _ _ (Below.refl _ _) (by intro d hd; cases hd; exact rfl)
        intro xT w3 hb hL
        have fx8 : xT 8 = .string (w16 sp ++ (w16 dp)) := hL _ (List.mem_of_getElem? (i := 7) rfl)
        simp only [List.map, putAll, fx8]
        clear hL fx8
        replace hk := ext_step hk (hk.size) hb
        replace hc0 := ccell hb _ _ _ hc0
        replace hc1 := ccell hb _ _ _ hc1
        replace hc2 := ccell hb _ _ _ hc2
        replace hc3 := ccell hb _ _ _ hc3
        replace hc4 := ccell hb _ _ _ hc4
        replace hc5 := ccell hb _ _ _ hc5
        replace hc6 := ccell hb _ _ _ hc6
        replace hc7 := ccell hb _ _ _ hc7
        try replace hz0 := Nat.lt_of_lt_of_le hz0 hb.size
        clear hb
        go_wp2_with fail
        refine (specWord16_c (8 + (bd.size : Int)) _ ⟨by omega, by omega⟩).mono ?_
        rintro e w4 ⟨rfl, hb⟩
        replace hk := ext_step hk hk.size hb
        replace hz0 := Nat.lt_of_lt_of_le hz0 hb.size
        replace hc0 := ccell hb _ _ _ hc0
        replace hc1 := ccell hb _ _ _ hc1
        replace hc2 := ccell hb _ _ _ hc2
        replace hc3 := ccell hb _ _ _ hc3
        replace hc4 := ccell hb _ _ _ hc4
        replace hc5 := ccell hb _ _ _ hc5
        replace hc6 := ccell hb _ _ _ hc6
        replace hc7 := ccell hb _ _ _ hc7
        clear hb
        go_wp2_with fail
        refine (specWord16_c 0 _ ⟨by decide, by decide⟩).mono ?_
        rintro e w5 ⟨rfl, hb⟩
        replace hk := ext_step hk hk.size hb
        replace hz0 := Nat.lt_of_lt_of_le hz0 hb.size
        replace hc0 := ccell hb _ _ _ hc0
        replace hc1 := ccell hb _ _ _ hc1
        replace hc2 := ccell hb _ _ _ hc2
        replace hc3 := ccell hb _ _ _ hc3
        replace hc4 := ccell hb _ _ _ hc4
        replace hc5 := ccell hb _ _ _ hc5
        replace hc6 := ccell hb _ _ _ hc6
        replace hc7 := ccell hb _ _ _ hc7
        clear hb
        go_wp2_with fail
        refine (hps _).mono ?_
        rintro e w6 ⟨rfl, hb⟩
        replace hk := ext_step hk hk.size hb
        replace hz0 := Nat.lt_of_lt_of_le hz0 hb.size
        replace hc0 := ccell hb _ _ _ hc0
        replace hc1 := ccell hb _ _ _ hc1
        replace hc2 := ccell hb _ _ _ hc2
        replace hc3 := ccell hb _ _ _ hc3
        replace hc4 := ccell hb _ _ _ hc4
        replace hc5 := ccell hb _ _ _ hc5
        replace hc6 := ccell hb _ _ _ hc6
        replace hc7 := ccell hb _ _ _ hc7
        clear hb
        go_wp2_with fail
        refine (hck _).mono ?_
        rintro e w7 ⟨rfl, hb⟩
        replace hk := ext_step hk hk.size hb
        replace hz0 := Nat.lt_of_lt_of_le hz0 hb.size
        replace hc0 := ccell hb _ _ _ hc0
        replace hc1 := ccell hb _ _ _ hc1
        replace hc2 := ccell hb _ _ _ hc2
        replace hc3 := ccell hb _ _ _ hc3
        replace hc4 := ccell hb _ _ _ hc4
        replace hc5 := ccell hb _ _ _ hc5
        replace hc6 := ccell hb _ _ _ hc6
        replace hc7 := ccell hb _ _ _ hc7
        clear hb
        go_wp2_with fail
        refine (specWord16_c x _ ⟨by omega, by omega⟩).mono ?_
        rintro e w9 ⟨rfl, hb⟩
        replace hk := ext_step hk hk.size hb
        replace hz0 := Nat.lt_of_lt_of_le hz0 hb.size
        replace hc0 := ccell hb _ _ _ hc0
        replace hc1 := ccell hb _ _ _ hc1
        replace hc2 := ccell hb _ _ _ hc2
        replace hc3 := ccell hb _ _ _ hc3
        replace hc4 := ccell hb _ _ _ hc4
        replace hc5 := ccell hb _ _ _ hc5
        replace hc6 := ccell hb _ _ _ hc6
        replace hc7 := ccell hb _ _ _ hc7
        clear hb
        have z9 := w16_size (v := x) (inBi (by omega) (by omega))
        go_wp2_with fail
        refine (specPutBytes_c S0 (w16 x) 6 _ (by omega) (by omega) ⟨by decide, by decide⟩).mono ?_
        rintro e w10 ⟨rfl, hb⟩
        replace hk := ext_step hk hk.size hb
        replace hz0 := Nat.lt_of_lt_of_le hz0 hb.size

        clear hb
        go_wp2
        refine bodyPost_ret (v := .tuple #[.string (putB S0 6 (w16 x)), .bool true]) (by simp [results, Try.results116, go_sem]) rfl ?_
        exact ⟨rfl, hk⟩
end Go.Proofs.Ytifbfmafogmemaa
