/- Contracts: PseudoHeader, the bare segment, IpHeader, BuildIp, BuildEth: impl and spec. -/
import Derived.Test.YtifbfmafogmemaaPktC
import Derived.Test.YtifbfmafogmemaaSlots5
import Derived.Deep.DeepCutAuto
namespace Go.Proofs.Ytifbfmafogmemaa
set_option linter.unusedSimpArgs false
set_option linter.unusedVariables false
open Go.RowKit Go.ChangeShapes Go.WideShapes
/-- Block b of the world W begins with two bytes. -/
def Byt (W : World) (b : Nat) (x y : Int) : Prop := W.cell? ⟨b, 0, none⟩ = some (.int .u8 x) ∧ W.cell? ⟨b, 1, none⟩ = some (.int .u8 y)
theorem byt_mono {W w1 : World} {x y : Int} (hb : Below W.heap.size W w1) : ∀ b, Byt W b x y → Byt w1 b x y := fun b ⟨h1, h2⟩ => ⟨ccell hb _ _ _ h1, ccell hb _ _ _ h2⟩
theorem byt_new (W : World) (x y : Int) (e : TypeId) : Byt (W.alloc (.cells #[.int .u8 x, .int .u8 y] e)) W.heap.size x y := ⟨by simp [go_sem], by simp [go_sem]⟩
theorem byt_conv (x y : Int) (W : World) (b : Nat) (h : Byt W b x y) : (convert 36 9 (.slice (some ⟨b, 0, none⟩) 2 2)).run Try.prog W = .ok (.string (strOfNums [x, y])) W :=
  run_convert_bytes_arg _ 36 5 Try.underlying36 Try.underlying5 b 0 2 2 [x, y] rfl (fun i hi => by
    match i, hi with
    | 0, _ => simpa using h.1
    | 1, _ => simpa using h.2) 9 Try.underlying9
theorem u8w {x : Int} (h0 : 0 ≤ x) (h1 : x ≤ 255) : IntKind.u8.wrap x = x := by rw [IntKind.wrap_u8']; omega
set_option maxRecDepth 100000 in
set_option maxHeartbeats 2000000 in
theorem implPseudoHeader_c (si di kd n : Int) (w : World) (h : psB si di kd n = true) :
    Calls Try.prog 63 #[.int .i64 si, .int .i64 di, .int .i64 kd, .int .i64 n] w fun e w' => e = .returned (.tuple #[.string (psH si di kd n), .bool true]) ∧ Below w.heap.size w w' := by
  simp only [psB, Bool.and_eq_true] at h
  obtain ⟨⟨⟨h1, h2⟩, h3⟩, h4⟩ := h
  obtain ⟨a1, b1⟩ := inB_t h1
  obtain ⟨a2, b2⟩ := inB_t h2
  obtain ⟨a3, b3⟩ := inB_t h3
  obtain ⟨a4, b4⟩ := inB_t h4
  have z1 := w32_size h1
  have z2 := w32_size h2
  have z3 : (strOfNums [0, kd]).size = 2 := rfl
  have z4 := w16_size h4
  have k1 := u8w a3 b3
  have hk : Below w.heap.size w w := Below.refl _ _
  go_enter Try.func63, Try.ntmps63
  go_wp2_with (go_at_call 98; refine (between_c _ _ _ _).mono ?_; rintro e w' ⟨rfl, rfl⟩)
  refine wp_region_slotsP [] [(28, fun _ v => v = .int .i64 si), (29, fun _ v => v = .string (w32 si)), (30, fun _ v => v = .int .i64 di), (31, fun _ v => v = .string (w32 di)), (32, fun _ v => v = .string (w32 si ++ (w32 di))), (33, fun _ v => v = .int .i64 kd), (34, fun _ v => v = .int .u8 kd), (35, fun w v => ∃ b, v = .slice (some ⟨b, 0, none⟩) 2 2 ∧ Byt w b (0) (kd)), (36, fun _ v => v = .string (strOfNums [0, kd])), (37, fun _ v => v = .string (w32 si ++ (w32 di) ++ (strOfNums [0, kd]))), (38, fun _ v => v = .int .i64 n), (39, fun _ v => v = .string (w16 n)), (40, fun _ v => v = .string (w32 si ++ (w32 di) ++ (strOfNums [0, kd]) ++ (w16 n))), (8, fun _ v => v = .string (w32 si ++ (w32 di) ++ (strOfNums [0, kd]) ++ (w16 n))), (9, fun _ v => v = .bool true)] (by kernel_rfl) (by kernel_rfl) (by kernel_rfl) (by kernel_rfl) (by kernel_rfl) ?_ ?_ ?_
  · intro p hp
    simp only [List.mem_cons, List.not_mem_nil, or_false] at hp
    rcases hp with rfl | rfl | rfl | rfl | rfl | rfl | rfl | rfl | rfl | rfl | rfl | rfl | rfl | rfl | rfl
    all_goals (intro w w' v hb hv)
    all_goals first | exact hv | (obtain ⟨b, rfl, h⟩ := hv; exact ⟨b, rfl, byt_mono hb _ h⟩)
  · intro o ho
    simp only [List.mem_cons, List.not_mem_nil, or_false] at ho
    rcases ho with rfl | rfl | rfl | rfl | rfl | rfl | rfl | rfl | rfl | rfl | rfl | rfl | rfl | rfl | rfl
    all_goals refine stepOk2_plain rfl ?_
    · intro a w2 hb hl K Q hK
      have e0 : a.tmps[0]?.getD undef = .int .i64 si := gd (hl 0 (by decide))
      go_simp
      exact hK _ _ (Below.refl _ _) (by intro d hd; cases hd; exact rfl)
    · intro a w2 hb hl K Q hK
      have e28 : a.tmps[28]?.getD undef = .int .i64 si := gd (hl 28 (by decide))
      go_simp
      refine (implWord32_c si _ ⟨by omega, by omega⟩).mono ?_
      rintro e w' ⟨rfl, hb'⟩
      exact hK _ _ hb' (by intro d hd; cases hd; exact rfl)
    · intro a w2 hb hl K Q hK
      have e1 : a.tmps[1]?.getD undef = .int .i64 di := gd (hl 1 (by decide))
      go_simp
      exact hK _ _ (Below.refl _ _) (by intro d hd; cases hd; exact rfl)
    · intro a w2 hb hl K Q hK
      have e30 : a.tmps[30]?.getD undef = .int .i64 di := gd (hl 30 (by decide))
      go_simp
      refine (implWord32_c di _ ⟨by omega, by omega⟩).mono ?_
      rintro e w' ⟨rfl, hb'⟩
      exact hK _ _ hb' (by intro d hd; cases hd; exact rfl)
    · intro a w2 hb hl K Q hK
      have e29 : a.tmps[29]?.getD undef = .string (w32 si) := gd (hl 29 (by decide))
      have e31 : a.tmps[31]?.getD undef = .string (w32 di) := gd (hl 31 (by decide))
      go_simp
      exact hK _ _ (Below.refl _ _) (by intro d hd; cases hd; exact rfl)
    · intro a w2 hb hl K Q hK
      have e2 : a.tmps[2]?.getD undef = .int .i64 kd := gd (hl 2 (by decide))
      go_simp
      exact hK _ _ (Below.refl _ _) (by intro d hd; cases hd; exact rfl)
    · intro a w2 hb hl K Q hK
      have e33 : a.tmps[33]?.getD undef = .int .i64 kd := gd (hl 33 (by decide))
      go_simp
      exact hK _ _ (Below.refl _ _) (by intro d hd; cases hd; exact rfl)
    · intro a w2 hb hl K Q hK
      have e34 : a.tmps[34]?.getD undef = .int .u8 kd := gd (hl 34 (by decide))
      go_simp
      exact hK _ _ (by go_grown) (by intro d hd; cases hd; exact ⟨_, rfl, byt_new _ _ _ _⟩)
    · intro a w2 hb hl K Q hK
      obtain ⟨b35, hb35, hbyt35⟩ : ∃ b, a.tmps.getD 35 undef = .slice (some ⟨b, 0, none⟩) 2 2 ∧ Byt w2 b (0) (kd) := hl 35 (by decide)
      have e35 := gd hb35
      have hcv := byt_conv (0) (kd) w2 b35 hbyt35
      go_simp
      exact hK _ _ (Below.refl _ _) (by intro d hd; cases hd; exact rfl)
    · intro a w2 hb hl K Q hK
      have e32 : a.tmps[32]?.getD undef = .string (w32 si ++ (w32 di)) := gd (hl 32 (by decide))
      have e36 : a.tmps[36]?.getD undef = .string (strOfNums [0, kd]) := gd (hl 36 (by decide))
      go_simp
      exact hK _ _ (Below.refl _ _) (by intro d hd; cases hd; exact rfl)
    · intro a w2 hb hl K Q hK
      have e3 : a.tmps[3]?.getD undef = .int .i64 n := gd (hl 3 (by decide))
      go_simp
      exact hK _ _ (Below.refl _ _) (by intro d hd; cases hd; exact rfl)
    · intro a w2 hb hl K Q hK
      have e38 : a.tmps[38]?.getD undef = .int .i64 n := gd (hl 38 (by decide))
      go_simp
      refine (implWord16_c n _ ⟨by omega, by omega⟩).mono ?_
      rintro e w' ⟨rfl, hb'⟩
      exact hK _ _ hb' (by intro d hd; cases hd; exact rfl)
    · intro a w2 hb hl K Q hK
      have e37 : a.tmps[37]?.getD undef = .string (w32 si ++ (w32 di) ++ (strOfNums [0, kd])) := gd (hl 37 (by decide))
      have e39 : a.tmps[39]?.getD undef = .string (w16 n) := gd (hl 39 (by decide))
      go_simp
      exact hK _ _ (Below.refl _ _) (by intro d hd; cases hd; exact rfl)
    · intro a w2 hb hl K Q hK
      have e40 : a.tmps[40]?.getD undef = .string (w32 si ++ (w32 di) ++ (strOfNums [0, kd]) ++ (w16 n)) := gd (hl 40 (by decide))
      go_simp
      exact hK _ _ (Below.refl _ _) (by intro d hd; cases hd; exact rfl)
    · intro a w2 hb hl K Q hK
      go_simp
      exact hK _ _ (Below.refl _ _) (by intro d hd; cases hd; exact rfl)
  intro xT w2 hb hL
  have fx8 : xT 8 = .string (w32 si ++ (w32 di) ++ (strOfNums [0, kd]) ++ (w16 n)) := hL _ (List.mem_of_getElem? (i := 13) rfl)
  have fx9 : xT 9 = .bool true := hL _ (List.mem_of_getElem? (i := 14) rfl)
  simp only [List.map, putAll, fx8, fx9]
  clear hL fx8 fx9
  replace hk := ext_step hk (hk.size) hb
  try replace hz0 := Nat.lt_of_lt_of_le hz0 hb.size
  clear hb
  go_wp2
  refine bodyPost_ret (v := .tuple #[.string (psH si di kd n), .bool true]) (by simp [results, Try.results63, go_sem, psH]) rfl ?_
  exact ⟨rfl, hk⟩
set_option maxRecDepth 100000 in
set_option maxHeartbeats 2000000 in
theorem specPseudoHeader_c (si di kd n : Int) (w : World) (h : psB si di kd n = true) :
    Calls Try.prog 58 #[.int .i64 si, .int .i64 di, .int .i64 kd, .int .i64 n] w fun e w' => e = .returned (.tuple #[.string (psH si di kd n), .bool true]) ∧ Below w.heap.size w w' := by
  simp only [psB, Bool.and_eq_true] at h
  obtain ⟨⟨⟨h1, h2⟩, h3⟩, h4⟩ := h
  obtain ⟨a1, b1⟩ := inB_t h1
  obtain ⟨a2, b2⟩ := inB_t h2
  obtain ⟨a3, b3⟩ := inB_t h3
  obtain ⟨a4, b4⟩ := inB_t h4
  have z1 := w32_size h1
  have z2 := w32_size h2
  have z3 : (strOfNums [0, kd]).size = 2 := rfl
  have z4 := w16_size h4
  have k1 := u8w a3 b3
  have hk : Below w.heap.size w w := Below.refl _ _
  go_enter Try.func58, Try.ntmps58
  go_wp2_with (go_at_call 94; refine (l01In_c _ _ _ _).mono ?_; rintro e w' ⟨rfl, rfl⟩)
  refine wp_region_slotsP [] [(28, fun _ v => v = .int .i64 si), (29, fun _ v => v = .string (w32 si)), (30, fun _ v => v = .int .i64 di), (31, fun _ v => v = .string (w32 di)), (32, fun _ v => v = .string (w32 si ++ (w32 di))), (33, fun _ v => v = .int .i64 kd), (34, fun _ v => v = .int .u8 kd), (35, fun w v => ∃ b, v = .slice (some ⟨b, 0, none⟩) 2 2 ∧ Byt w b (0) (kd)), (36, fun _ v => v = .string (strOfNums [0, kd])), (37, fun _ v => v = .string (w32 si ++ (w32 di) ++ (strOfNums [0, kd]))), (38, fun _ v => v = .int .i64 n), (39, fun _ v => v = .string (w16 n)), (40, fun _ v => v = .string (w32 si ++ (w32 di) ++ (strOfNums [0, kd]) ++ (w16 n))), (8, fun _ v => v = .string (w32 si ++ (w32 di) ++ (strOfNums [0, kd]) ++ (w16 n))), (9, fun _ v => v = .bool true)] (by kernel_rfl) (by kernel_rfl) (by kernel_rfl) (by kernel_rfl) (by kernel_rfl) ?_ ?_ ?_
  · intro p hp
    simp only [List.mem_cons, List.not_mem_nil, or_false] at hp
    rcases hp with rfl | rfl | rfl | rfl | rfl | rfl | rfl | rfl | rfl | rfl | rfl | rfl | rfl | rfl | rfl
    all_goals (intro w w' v hb hv)
    all_goals first | exact hv | (obtain ⟨b, rfl, h⟩ := hv; exact ⟨b, rfl, byt_mono hb _ h⟩)
  · intro o ho
    simp only [List.mem_cons, List.not_mem_nil, or_false] at ho
    rcases ho with rfl | rfl | rfl | rfl | rfl | rfl | rfl | rfl | rfl | rfl | rfl | rfl | rfl | rfl | rfl
    all_goals refine stepOk2_plain rfl ?_
    · intro a w2 hb hl K Q hK
      have e0 : a.tmps[0]?.getD undef = .int .i64 si := gd (hl 0 (by decide))
      go_simp
      exact hK _ _ (Below.refl _ _) (by intro d hd; cases hd; exact rfl)
    · intro a w2 hb hl K Q hK
      have e28 : a.tmps[28]?.getD undef = .int .i64 si := gd (hl 28 (by decide))
      go_simp
      refine (specWord32_c si _ ⟨by omega, by omega⟩).mono ?_
      rintro e w' ⟨rfl, hb'⟩
      exact hK _ _ hb' (by intro d hd; cases hd; exact rfl)
    · intro a w2 hb hl K Q hK
      have e1 : a.tmps[1]?.getD undef = .int .i64 di := gd (hl 1 (by decide))
      go_simp
      exact hK _ _ (Below.refl _ _) (by intro d hd; cases hd; exact rfl)
    · intro a w2 hb hl K Q hK
      have e30 : a.tmps[30]?.getD undef = .int .i64 di := gd (hl 30 (by decide))
      go_simp
      refine (specWord32_c di _ ⟨by omega, by omega⟩).mono ?_
      rintro e w' ⟨rfl, hb'⟩
      exact hK _ _ hb' (by intro d hd; cases hd; exact rfl)
    · intro a w2 hb hl K Q hK
      have e29 : a.tmps[29]?.getD undef = .string (w32 si) := gd (hl 29 (by decide))
      have e31 : a.tmps[31]?.getD undef = .string (w32 di) := gd (hl 31 (by decide))
      go_simp
      exact hK _ _ (Below.refl _ _) (by intro d hd; cases hd; exact rfl)
    · intro a w2 hb hl K Q hK
      have e2 : a.tmps[2]?.getD undef = .int .i64 kd := gd (hl 2 (by decide))
      go_simp
      exact hK _ _ (Below.refl _ _) (by intro d hd; cases hd; exact rfl)
    · intro a w2 hb hl K Q hK
      have e33 : a.tmps[33]?.getD undef = .int .i64 kd := gd (hl 33 (by decide))
      go_simp
      exact hK _ _ (Below.refl _ _) (by intro d hd; cases hd; exact rfl)
    · intro a w2 hb hl K Q hK
      have e34 : a.tmps[34]?.getD undef = .int .u8 kd := gd (hl 34 (by decide))
      go_simp
      exact hK _ _ (by go_grown) (by intro d hd; cases hd; exact ⟨_, rfl, byt_new _ _ _ _⟩)
    · intro a w2 hb hl K Q hK
      obtain ⟨b35, hb35, hbyt35⟩ : ∃ b, a.tmps.getD 35 undef = .slice (some ⟨b, 0, none⟩) 2 2 ∧ Byt w2 b (0) (kd) := hl 35 (by decide)
      have e35 := gd hb35
      have hcv := byt_conv (0) (kd) w2 b35 hbyt35
      go_simp
      exact hK _ _ (Below.refl _ _) (by intro d hd; cases hd; exact rfl)
    · intro a w2 hb hl K Q hK
      have e32 : a.tmps[32]?.getD undef = .string (w32 si ++ (w32 di)) := gd (hl 32 (by decide))
      have e36 : a.tmps[36]?.getD undef = .string (strOfNums [0, kd]) := gd (hl 36 (by decide))
      go_simp
      exact hK _ _ (Below.refl _ _) (by intro d hd; cases hd; exact rfl)
    · intro a w2 hb hl K Q hK
      have e3 : a.tmps[3]?.getD undef = .int .i64 n := gd (hl 3 (by decide))
      go_simp
      exact hK _ _ (Below.refl _ _) (by intro d hd; cases hd; exact rfl)
    · intro a w2 hb hl K Q hK
      have e38 : a.tmps[38]?.getD undef = .int .i64 n := gd (hl 38 (by decide))
      go_simp
      refine (specWord16_c n _ ⟨by omega, by omega⟩).mono ?_
      rintro e w' ⟨rfl, hb'⟩
      exact hK _ _ hb' (by intro d hd; cases hd; exact rfl)
    · intro a w2 hb hl K Q hK
      have e37 : a.tmps[37]?.getD undef = .string (w32 si ++ (w32 di) ++ (strOfNums [0, kd])) := gd (hl 37 (by decide))
      have e39 : a.tmps[39]?.getD undef = .string (w16 n) := gd (hl 39 (by decide))
      go_simp
      exact hK _ _ (Below.refl _ _) (by intro d hd; cases hd; exact rfl)
    · intro a w2 hb hl K Q hK
      have e40 : a.tmps[40]?.getD undef = .string (w32 si ++ (w32 di) ++ (strOfNums [0, kd]) ++ (w16 n)) := gd (hl 40 (by decide))
      go_simp
      exact hK _ _ (Below.refl _ _) (by intro d hd; cases hd; exact rfl)
    · intro a w2 hb hl K Q hK
      go_simp
      exact hK _ _ (Below.refl _ _) (by intro d hd; cases hd; exact rfl)
  intro xT w2 hb hL
  have fx8 : xT 8 = .string (w32 si ++ (w32 di) ++ (strOfNums [0, kd]) ++ (w16 n)) := hL _ (List.mem_of_getElem? (i := 13) rfl)
  have fx9 : xT 9 = .bool true := hL _ (List.mem_of_getElem? (i := 14) rfl)
  simp only [List.map, putAll, fx8, fx9]
  clear hL fx8 fx9
  replace hk := ext_step hk (hk.size) hb
  try replace hz0 := Nat.lt_of_lt_of_le hz0 hb.size
  clear hb
  go_wp2
  refine bodyPost_ret (v := .tuple #[.string (psH si di kd n), .bool true]) (by simp [results, Try.results58, go_sem, psH]) rfl ?_
  exact ⟨rfl, hk⟩
theorem ipB_t {tos id ttl pr si di : Int} {bd : ByteArray} (h : ipB tos id ttl pr si di bd = true) : (inB tos 0 255 = true ∧ inB ttl 0 255 = true ∧ inB pr 0 255 = true) ∧ inB id 0 65535 = true ∧ inB si 0 4294967295 = true ∧ inB di 0 4294967295 = true ∧ bd.size ≤ 380 := by
  simp only [ipB, Bool.and_eq_true, decide_eq_true_eq] at h
  obtain ⟨⟨⟨⟨⟨⟨h1, h2⟩, h3⟩, h4⟩, h5⟩, h6⟩, h7⟩ := h
  exact ⟨⟨h1, h2, h3⟩, h4, h5, h6, by omega⟩
set_option maxRecDepth 100000 in
set_option maxHeartbeats 8000000 in
theorem implIpHeader_c (tos id ttl pr si di : Int) (bd : ByteArray) (w : World) (hz : bd.size ≤ 1048576) :
    Calls Try.prog 138 #[.agg #[.int .i64 tos, .int .i64 id, .int .i64 ttl, .int .i64 pr, .int .i64 si, .int .i64 di, .string bd]] w fun e w' => e = .returned (.tuple #[.string (if ipB tos id ttl pr si di bd then ipH tos id ttl pr si di bd.size else ByteArray.empty), .bool (ipB tos id ttl pr si di bd)]) ∧ Below w.heap.size w w' := by
  cases hok : ipB tos id ttl pr si di bd
  · rw [if_neg (by decide)]
    go_enter Try.func138, Try.ntmps138
    go_wp2_with fail
    refine (calls_bool (implIpOk_c tos id ttl pr si di bd _ hz) hok).mono ?_
    rintro e w1 ⟨rfl, hb⟩
    have hk : Below w.heap.size w w1 := ext_step (by go_grown) (by go_size) hb
    go_wp2
    refine bodyPost_ret (v := .tuple #[.string ByteArray.empty, .bool false]) (by simp [results, Try.results138, go_sem]; rfl) rfl ?_
    exact ⟨rfl, hk⟩
  · rw [if_pos rfl]
    obtain ⟨⟨r1, r2, r3⟩, r4, r5, r6, r7⟩ := ipB_t hok
    obtain ⟨a1, b1⟩ := inB_t r1
    obtain ⟨a2, b2⟩ := inB_t r2
    obtain ⟨a3, b3⟩ := inB_t r3
    obtain ⟨a4, b4⟩ := inB_t r4
    obtain ⟨a5, b5⟩ := inB_t r5
    obtain ⟨a6, b6⟩ := inB_t r6
    have k1 := u8w a1 b1
    have k2 := u8w a2 b2
    have k3 := u8w a3 b3
    have z1 : (strOfNums [69, tos]).size = 2 := rfl
    have z2 : (strOfNums [ttl, pr]).size = 2 := rfl
    have z3 := w16_size (inBi (show (0 : Int) ≤ 20 + (bd.size : Int) by omega) (show 20 + (bd.size : Int) ≤ 65535 by omega))
    have k9 : IntKind.i64.wrap (20 + (bd.size : Int)) = 20 + (bd.size : Int) := IntWalk.i64_in _ ⟨by omega, by omega⟩
    have z4 := w16_size r4
    have z5 : (w16 16384).size = 2 := w16_size (by decide)
    have z6 : (w16 0).size = 2 := w16_size (by decide)
    have z7 := w32_size r5
    have z8 := w32_size r6
    have hq : ipH0 tos id ttl pr si di bd.size = strOfNums [69, tos] ++ w16 (20 + (bd.size : Int)) ++ w16 id ++ w16 16384 ++ strOfNums [ttl, pr] ++ w16 0 ++ w32 si ++ w32 di := rfl
    have hq2 := ipH0_size (tos := tos) (ttl := ttl) (pr := pr) r4 r5 r6 r7
    go_enter Try.func138, Try.ntmps138
    go_upto_region 1 with fail
    have hk : Below w.heap.size w (w.alloc (.cells #[.int .i64 tos, .int .i64 id, .int .i64 ttl, .int .i64 pr, .int .i64 si, .int .i64 di, .string bd] 110)) := by go_grown
    have hz0 : w.heap.size < (w.alloc (.cells #[.int .i64 tos, .int .i64 id, .int .i64 ttl, .int .i64 pr, .int .i64 si, .int .i64 di, .string bd] 110)).heap.size := by go_size
    have hc0 : (w.alloc (.cells #[.int .i64 tos, .int .i64 id, .int .i64 ttl, .int .i64 pr, .int .i64 si, .int .i64 di, .string bd] 110)).cell? ⟨w.heap.size, 0, none⟩ = some (.int .i64 tos) := by simp [go_sem]
    have hc1 : (w.alloc (.cells #[.int .i64 tos, .int .i64 id, .int .i64 ttl, .int .i64 pr, .int .i64 si, .int .i64 di, .string bd] 110)).cell? ⟨w.heap.size, 1, none⟩ = some (.int .i64 id) := by simp [go_sem]
    have hc2 : (w.alloc (.cells #[.int .i64 tos, .int .i64 id, .int .i64 ttl, .int .i64 pr, .int .i64 si, .int .i64 di, .string bd] 110)).cell? ⟨w.heap.size, 2, none⟩ = some (.int .i64 ttl) := by simp [go_sem]
    have hc3 : (w.alloc (.cells #[.int .i64 tos, .int .i64 id, .int .i64 ttl, .int .i64 pr, .int .i64 si, .int .i64 di, .string bd] 110)).cell? ⟨w.heap.size, 3, none⟩ = some (.int .i64 pr) := by simp [go_sem]
    have hc4 : (w.alloc (.cells #[.int .i64 tos, .int .i64 id, .int .i64 ttl, .int .i64 pr, .int .i64 si, .int .i64 di, .string bd] 110)).cell? ⟨w.heap.size, 4, none⟩ = some (.int .i64 si) := by simp [go_sem]
    have hc5 : (w.alloc (.cells #[.int .i64 tos, .int .i64 id, .int .i64 ttl, .int .i64 pr, .int .i64 si, .int .i64 di, .string bd] 110)).cell? ⟨w.heap.size, 5, none⟩ = some (.int .i64 di) := by simp [go_sem]
    have hc6 : (w.alloc (.cells #[.int .i64 tos, .int .i64 id, .int .i64 ttl, .int .i64 pr, .int .i64 si, .int .i64 di, .string bd] 110)).cell? ⟨w.heap.size, 6, none⟩ = some (.string bd) := by simp [go_sem]
    generalize hW : w.alloc (.cells #[.int .i64 tos, .int .i64 id, .int .i64 ttl, .int .i64 pr, .int .i64 si, .int .i64 di, .string bd] 110) = w1 at *
    clear hW
    go_wp2_with fail
    refine (calls_bool (implIpOk_c tos id ttl pr si di bd _ hz) hok).mono ?_
    rintro e w2 ⟨rfl, hb⟩
    replace hk := ext_step hk hk.size hb
    replace hz0 := Nat.lt_of_lt_of_le hz0 hb.size
    replace hc0 := ccell hb _ _ _ hc0
    replace hc1 := ccell hb _ _ _ hc1
    replace hc2 := ccell hb _ _ _ hc2
    replace hc3 := ccell hb _ _ _ hc3
    replace hc4 := ccell hb _ _ _ hc4
    replace hc5 := ccell hb _ _ _ hc5
    replace hc6 := ccell hb _ _ _ hc6
    clear hb
    go_wp2_with fail
    refine wp_region_slotsP [] [(8, fun _ v => v = .pointer (some ⟨w.heap.size, 0, none⟩)), (9, fun _ v => v = .int .i64 tos), (10, fun _ v => v = .int .u8 tos), (11, fun w v => ∃ b, v = .slice (some ⟨b, 0, none⟩) 2 2 ∧ Byt w b (69) (tos)), (12, fun _ v => v = .string (strOfNums [69, tos])), (13, fun _ v => v = .pointer (some ⟨w.heap.size, 6, none⟩)), (14, fun _ v => v = .string bd), (15, fun _ v => v = .int .i64 ((bd).size : Int)), (16, fun _ v => v = .int .i64 (20 + ((bd).size : Int))), (17, fun _ v => v = .string (w16 ((20 + ((bd).size : Int))))), (18, fun _ v => v = .string (strOfNums [69, tos] ++ (w16 ((20 + ((bd).size : Int)))))), (19, fun _ v => v = .pointer (some ⟨w.heap.size, 1, none⟩)), (20, fun _ v => v = .int .i64 id), (21, fun _ v => v = .string (w16 id)), (22, fun _ v => v = .string (strOfNums [69, tos] ++ (w16 ((20 + ((bd).size : Int)))) ++ (w16 id))), (23, fun _ v => v = .string (w16 16384)), (24, fun _ v => v = .string (strOfNums [69, tos] ++ (w16 ((20 + ((bd).size : Int)))) ++ (w16 id) ++ (w16 16384))), (25, fun _ v => v = .pointer (some ⟨w.heap.size, 2, none⟩)), (26, fun _ v => v = .int .i64 ttl), (27, fun _ v => v = .int .u8 ttl), (28, fun _ v => v = .pointer (some ⟨w.heap.size, 3, none⟩)), (29, fun _ v => v = .int .i64 pr), (30, fun _ v => v = .int .u8 pr), (31, fun w v => ∃ b, v = .slice (some ⟨b, 0, none⟩) 2 2 ∧ Byt w b (ttl) (pr)), (32, fun _ v => v = .string (strOfNums [ttl, pr])), (33, fun _ v => v = .string (strOfNums [69, tos] ++ (w16 ((20 + ((bd).size : Int)))) ++ (w16 id) ++ (w16 16384) ++ (strOfNums [ttl, pr]))), (34, fun _ v => v = .string (w16 0)), (35, fun _ v => v = .string (strOfNums [69, tos] ++ (w16 ((20 + ((bd).size : Int)))) ++ (w16 id) ++ (w16 16384) ++ (strOfNums [ttl, pr]) ++ (w16 0))), (36, fun _ v => v = .pointer (some ⟨w.heap.size, 4, none⟩)), (37, fun _ v => v = .int .i64 si), (38, fun _ v => v = .string (w32 si)), (39, fun _ v => v = .string (strOfNums [69, tos] ++ (w16 ((20 + ((bd).size : Int)))) ++ (w16 id) ++ (w16 16384) ++ (strOfNums [ttl, pr]) ++ (w16 0) ++ (w32 si))), (40, fun _ v => v = .pointer (some ⟨w.heap.size, 5, none⟩)), (41, fun _ v => v = .int .i64 di), (42, fun _ v => v = .string (w32 di)), (43, fun _ v => v = .string (strOfNums [69, tos] ++ (w16 ((20 + ((bd).size : Int)))) ++ (w16 id) ++ (w16 16384) ++ (strOfNums [ttl, pr]) ++ (w16 0) ++ (w32 si) ++ (w32 di))), (4, fun _ v => v = .string (strOfNums [69, tos] ++ (w16 ((20 + ((bd).size : Int)))) ++ (w16 id) ++ (w16 16384) ++ (strOfNums [ttl, pr]) ++ (w16 0) ++ (w32 si) ++ (w32 di)))] (by kernel_rfl) (by kernel_rfl) (by kernel_rfl) (by kernel_rfl) (by kernel_rfl) ?_ ?_ ?_
    · intro p hp
      simp only [List.mem_cons, List.not_mem_nil, or_false] at hp
      rcases hp with rfl | rfl | rfl | rfl | rfl | rfl | rfl | rfl | rfl | rfl | rfl | rfl | rfl | rfl | rfl | rfl | rfl | rfl | rfl | rfl | rfl | rfl | rfl | rfl | rfl | rfl | rfl | rfl | rfl | rfl | rfl | rfl | rfl | rfl | rfl | rfl | rfl
      all_goals (intro w w' v hb hv)
      all_goals first | exact hv | (obtain ⟨b, rfl, h⟩ := hv; exact ⟨b, rfl, byt_mono hb _ h⟩)
    · intro o ho
      simp only [List.mem_cons, List.not_mem_nil, or_false] at ho
      rcases ho with rfl | rfl | rfl | rfl | rfl | rfl | rfl | rfl | rfl | rfl | rfl | rfl | rfl | rfl | rfl | rfl | rfl | rfl | rfl | rfl | rfl | rfl | rfl | rfl | rfl | rfl | rfl | rfl | rfl | rfl | rfl | rfl | rfl | rfl | rfl | rfl | rfl
      all_goals refine stepOk2_plain rfl ?_
      · intro a w2 hb hl K Q hK
        have e1 : a.tmps[1]?.getD undef = .pointer (some ⟨w.heap.size, 0, none⟩) := gd (hl 1 (by decide))
        go_simp
        exact hK _ _ (Below.refl _ _) (by intro d hd; cases hd; exact rfl)
      · intro a w2 hb hl K Q hK
        have e8 : a.tmps[8]?.getD undef = .pointer (some ⟨w.heap.size, 0, none⟩) := gd (hl 8 (by decide))
        have hd0 := ccell hb _ _ _ hc0
        go_simp
        exact hK _ _ (Below.refl _ _) (by intro d hd; cases hd; exact rfl)
      · intro a w2 hb hl K Q hK
        have e9 : a.tmps[9]?.getD undef = .int .i64 tos := gd (hl 9 (by decide))
        go_simp
        exact hK _ _ (Below.refl _ _) (by intro d hd; cases hd; exact rfl)
      · intro a w2 hb hl K Q hK
        have e10 : a.tmps[10]?.getD undef = .int .u8 tos := gd (hl 10 (by decide))
        go_simp
        exact hK _ _ (by go_grown) (by intro d hd; cases hd; exact ⟨_, rfl, byt_new _ _ _ _⟩)
      · intro a w2 hb hl K Q hK
        obtain ⟨b11, hb11, hbyt11⟩ : ∃ b, a.tmps.getD 11 undef = .slice (some ⟨b, 0, none⟩) 2 2 ∧ Byt w2 b (69) (tos) := hl 11 (by decide)
        have e11 := gd hb11
        have hcv := byt_conv (69) (tos) w2 b11 hbyt11
        go_simp
        exact hK _ _ (Below.refl _ _) (by intro d hd; cases hd; exact rfl)
      · intro a w2 hb hl K Q hK
        have e1 : a.tmps[1]?.getD undef = .pointer (some ⟨w.heap.size, 0, none⟩) := gd (hl 1 (by decide))
        go_simp
        exact hK _ _ (Below.refl _ _) (by intro d hd; cases hd; exact rfl)
      · intro a w2 hb hl K Q hK
        have e13 : a.tmps[13]?.getD undef = .pointer (some ⟨w.heap.size, 6, none⟩) := gd (hl 13 (by decide))
        have hd6 := ccell hb _ _ _ hc6
        go_simp
        exact hK _ _ (Below.refl _ _) (by intro d hd; cases hd; exact rfl)
      · intro a w2 hb hl K Q hK
        have e14 : a.tmps[14]?.getD undef = .string bd := gd (hl 14 (by decide))
        go_simp
        exact hK _ _ (Below.refl _ _) (by intro d hd; cases hd; exact rfl)
      · intro a w2 hb hl K Q hK
        have e15 : a.tmps[15]?.getD undef = .int .i64 ((bd).size : Int) := gd (hl 15 (by decide))
        go_simp
        exact hK _ _ (Below.refl _ _) (by intro d hd; cases hd; exact rfl)
      · intro a w2 hb hl K Q hK
        have e16 : a.tmps[16]?.getD undef = .int .i64 (20 + ((bd).size : Int)) := gd (hl 16 (by decide))
        go_simp
        refine (implWord16_c ((20 + ((bd).size : Int))) _ ⟨by omega, by omega⟩).mono ?_
        rintro e w' ⟨rfl, hb'⟩
        exact hK _ _ hb' (by intro d hd; cases hd; exact rfl)
      · intro a w2 hb hl K Q hK
        have e12 : a.tmps[12]?.getD undef = .string (strOfNums [69, tos]) := gd (hl 12 (by decide))
        have e17 : a.tmps[17]?.getD undef = .string (w16 ((20 + ((bd).size : Int)))) := gd (hl 17 (by decide))
        go_simp
        exact hK _ _ (Below.refl _ _) (by intro d hd; cases hd; exact rfl)
      · intro a w2 hb hl K Q hK
        have e1 : a.tmps[1]?.getD undef = .pointer (some ⟨w.heap.size, 0, none⟩) := gd (hl 1 (by decide))
        go_simp
        exact hK _ _ (Below.refl _ _) (by intro d hd; cases hd; exact rfl)
      · intro a w2 hb hl K Q hK
        have e19 : a.tmps[19]?.getD undef = .pointer (some ⟨w.heap.size, 1, none⟩) := gd (hl 19 (by decide))
        have hd1 := ccell hb _ _ _ hc1
        go_simp
        exact hK _ _ (Below.refl _ _) (by intro d hd; cases hd; exact rfl)
      · intro a w2 hb hl K Q hK
        have e20 : a.tmps[20]?.getD undef = .int .i64 id := gd (hl 20 (by decide))
        go_simp
        refine (implWord16_c id _ ⟨by omega, by omega⟩).mono ?_
        rintro e w' ⟨rfl, hb'⟩
        exact hK _ _ hb' (by intro d hd; cases hd; exact rfl)
      · intro a w2 hb hl K Q hK
        have e18 : a.tmps[18]?.getD undef = .string (strOfNums [69, tos] ++ (w16 ((20 + ((bd).size : Int))))) := gd (hl 18 (by decide))
        have e21 : a.tmps[21]?.getD undef = .string (w16 id) := gd (hl 21 (by decide))
        go_simp
        exact hK _ _ (Below.refl _ _) (by intro d hd; cases hd; exact rfl)
      · intro a w2 hb hl K Q hK
        go_simp
        refine (implWord16_c 16384 _ ⟨by omega, by omega⟩).mono ?_
        rintro e w' ⟨rfl, hb'⟩
        exact hK _ _ hb' (by intro d hd; cases hd; exact rfl)
      · intro a w2 hb hl K Q hK
        have e22 : a.tmps[22]?.getD undef = .string (strOfNums [69, tos] ++ (w16 ((20 + ((bd).size : Int)))) ++ (w16 id)) := gd (hl 22 (by decide))
        have e23 : a.tmps[23]?.getD undef = .string (w16 16384) := gd (hl 23 (by decide))
        go_simp
        exact hK _ _ (Below.refl _ _) (by intro d hd; cases hd; exact rfl)
      · intro a w2 hb hl K Q hK
        have e1 : a.tmps[1]?.getD undef = .pointer (some ⟨w.heap.size, 0, none⟩) := gd (hl 1 (by decide))
        go_simp
        exact hK _ _ (Below.refl _ _) (by intro d hd; cases hd; exact rfl)
      · intro a w2 hb hl K Q hK
        have e25 : a.tmps[25]?.getD undef = .pointer (some ⟨w.heap.size, 2, none⟩) := gd (hl 25 (by decide))
        have hd2 := ccell hb _ _ _ hc2
        go_simp
        exact hK _ _ (Below.refl _ _) (by intro d hd; cases hd; exact rfl)
      · intro a w2 hb hl K Q hK
        have e26 : a.tmps[26]?.getD undef = .int .i64 ttl := gd (hl 26 (by decide))
        go_simp
        exact hK _ _ (Below.refl _ _) (by intro d hd; cases hd; exact rfl)
      · intro a w2 hb hl K Q hK
        have e1 : a.tmps[1]?.getD undef = .pointer (some ⟨w.heap.size, 0, none⟩) := gd (hl 1 (by decide))
        go_simp
        exact hK _ _ (Below.refl _ _) (by intro d hd; cases hd; exact rfl)
      · intro a w2 hb hl K Q hK
        have e28 : a.tmps[28]?.getD undef = .pointer (some ⟨w.heap.size, 3, none⟩) := gd (hl 28 (by decide))
        have hd3 := ccell hb _ _ _ hc3
        go_simp
        exact hK _ _ (Below.refl _ _) (by intro d hd; cases hd; exact rfl)
      · intro a w2 hb hl K Q hK
        have e29 : a.tmps[29]?.getD undef = .int .i64 pr := gd (hl 29 (by decide))
        go_simp
        exact hK _ _ (Below.refl _ _) (by intro d hd; cases hd; exact rfl)
      · intro a w2 hb hl K Q hK
        have e27 : a.tmps[27]?.getD undef = .int .u8 ttl := gd (hl 27 (by decide))
        have e30 : a.tmps[30]?.getD undef = .int .u8 pr := gd (hl 30 (by decide))
        go_simp
        exact hK _ _ (by go_grown) (by intro d hd; cases hd; exact ⟨_, rfl, byt_new _ _ _ _⟩)
      · intro a w2 hb hl K Q hK
        obtain ⟨b31, hb31, hbyt31⟩ : ∃ b, a.tmps.getD 31 undef = .slice (some ⟨b, 0, none⟩) 2 2 ∧ Byt w2 b (ttl) (pr) := hl 31 (by decide)
        have e31 := gd hb31
        have hcv := byt_conv (ttl) (pr) w2 b31 hbyt31
        go_simp
        exact hK _ _ (Below.refl _ _) (by intro d hd; cases hd; exact rfl)
      · intro a w2 hb hl K Q hK
        have e24 : a.tmps[24]?.getD undef = .string (strOfNums [69, tos] ++ (w16 ((20 + ((bd).size : Int)))) ++ (w16 id) ++ (w16 16384)) := gd (hl 24 (by decide))
        have e32 : a.tmps[32]?.getD undef = .string (strOfNums [ttl, pr]) := gd (hl 32 (by decide))
        go_simp
        exact hK _ _ (Below.refl _ _) (by intro d hd; cases hd; exact rfl)
      · intro a w2 hb hl K Q hK
        go_simp
        refine (implWord16_c 0 _ ⟨by omega, by omega⟩).mono ?_
        rintro e w' ⟨rfl, hb'⟩
        exact hK _ _ hb' (by intro d hd; cases hd; exact rfl)
      · intro a w2 hb hl K Q hK
        have e33 : a.tmps[33]?.getD undef = .string (strOfNums [69, tos] ++ (w16 ((20 + ((bd).size : Int)))) ++ (w16 id) ++ (w16 16384) ++ (strOfNums [ttl, pr])) := gd (hl 33 (by decide))
        have e34 : a.tmps[34]?.getD undef = .string (w16 0) := gd (hl 34 (by decide))
        go_simp
        exact hK _ _ (Below.refl _ _) (by intro d hd; cases hd; exact rfl)
      · intro a w2 hb hl K Q hK
        have e1 : a.tmps[1]?.getD undef = .pointer (some ⟨w.heap.size, 0, none⟩) := gd (hl 1 (by decide))
        go_simp
        exact hK _ _ (Below.refl _ _) (by intro d hd; cases hd; exact rfl)
      · intro a w2 hb hl K Q hK
        have e36 : a.tmps[36]?.getD undef = .pointer (some ⟨w.heap.size, 4, none⟩) := gd (hl 36 (by decide))
        have hd4 := ccell hb _ _ _ hc4
        go_simp
        exact hK _ _ (Below.refl _ _) (by intro d hd; cases hd; exact rfl)
      · intro a w2 hb hl K Q hK
        have e37 : a.tmps[37]?.getD undef = .int .i64 si := gd (hl 37 (by decide))
        go_simp
        refine (implWord32_c si _ ⟨by omega, by omega⟩).mono ?_
        rintro e w' ⟨rfl, hb'⟩
        exact hK _ _ hb' (by intro d hd; cases hd; exact rfl)
      · intro a w2 hb hl K Q hK
        have e35 : a.tmps[35]?.getD undef = .string (strOfNums [69, tos] ++ (w16 ((20 + ((bd).size : Int)))) ++ (w16 id) ++ (w16 16384) ++ (strOfNums [ttl, pr]) ++ (w16 0)) := gd (hl 35 (by decide))
        have e38 : a.tmps[38]?.getD undef = .string (w32 si) := gd (hl 38 (by decide))
        go_simp
        exact hK _ _ (Below.refl _ _) (by intro d hd; cases hd; exact rfl)
      · intro a w2 hb hl K Q hK
        have e1 : a.tmps[1]?.getD undef = .pointer (some ⟨w.heap.size, 0, none⟩) := gd (hl 1 (by decide))
        go_simp
        exact hK _ _ (Below.refl _ _) (by intro d hd; cases hd; exact rfl)
      · intro a w2 hb hl K Q hK
        have e40 : a.tmps[40]?.getD undef = .pointer (some ⟨w.heap.size, 5, none⟩) := gd (hl 40 (by decide))
        have hd5 := ccell hb _ _ _ hc5
        go_simp
        exact hK _ _ (Below.refl _ _) (by intro d hd; cases hd; exact rfl)
      · intro a w2 hb hl K Q hK
        have e41 : a.tmps[41]?.getD undef = .int .i64 di := gd (hl 41 (by decide))
        go_simp
        refine (implWord32_c di _ ⟨by omega, by omega⟩).mono ?_
        rintro e w' ⟨rfl, hb'⟩
        exact hK _ _ hb' (by intro d hd; cases hd; exact rfl)
      · intro a w2 hb hl K Q hK
        have e39 : a.tmps[39]?.getD undef = .string (strOfNums [69, tos] ++ (w16 ((20 + ((bd).size : Int)))) ++ (w16 id) ++ (w16 16384) ++ (strOfNums [ttl, pr]) ++ (w16 0) ++ (w32 si)) := gd (hl 39 (by decide))
        have e42 : a.tmps[42]?.getD undef = .string (w32 di) := gd (hl 42 (by decide))
        go_simp
        exact hK _ _ (Below.refl _ _) (by intro d hd; cases hd; exact rfl)
      · intro a w2 hb hl K Q hK
        have e43 : a.tmps[43]?.getD undef = .string (strOfNums [69, tos] ++ (w16 ((20 + ((bd).size : Int)))) ++ (w16 id) ++ (w16 16384) ++ (strOfNums [ttl, pr]) ++ (w16 0) ++ (w32 si) ++ (w32 di)) := gd (hl 43 (by decide))
        go_simp
        exact hK _ _ (Below.refl _ _) (by intro d hd; cases hd; exact rfl)
    intro xT w3 hb hL
    have fx4 : xT 4 = .string (strOfNums [69, tos] ++ (w16 ((20 + ((bd).size : Int)))) ++ (w16 id) ++ (w16 16384) ++ (strOfNums [ttl, pr]) ++ (w16 0) ++ (w32 si) ++ (w32 di)) := hL _ (List.mem_of_getElem? (i := 36) rfl)
    simp only [List.map, putAll, fx4]
    clear hL fx4
    replace hk := ext_step hk (hk.size) hb
    replace hc0 := ccell hb _ _ _ hc0
    replace hc1 := ccell hb _ _ _ hc1
    replace hc2 := ccell hb _ _ _ hc2
    replace hc3 := ccell hb _ _ _ hc3
    replace hc4 := ccell hb _ _ _ hc4
    replace hc5 := ccell hb _ _ _ hc5
    replace hc6 := ccell hb _ _ _ hc6
    try replace hz0 := Nat.lt_of_lt_of_le hz0 hb.size
    clear hb
    rw [← hq]
    clear hq
    generalize hH : ipH0 tos id ttl pr si di bd.size = H at *
    go_wp2_with fail
    refine (implChecksum_c H _ (by omega)).mono ?_
    rintro e w4 ⟨rfl, hb⟩
    replace hk := ext_step hk hk.size hb

    clear hb
    have hcb := chk_bd H
    go_wp2_with fail
    refine (implWord16_c (chk H) _ ⟨by omega, by omega⟩).mono ?_
    rintro e w5 ⟨rfl, hb⟩
    replace hk := ext_step hk hk.size hb

    clear hb
    have z9 := w16_size (inBi hcb.1 hcb.2)
    go_wp2_with fail
    refine (implPutBytes_c H (w16 (chk H)) 10 _ (by omega) (by omega) ⟨by decide, by decide⟩).mono ?_
    rintro e w6 ⟨rfl, hb⟩
    replace hk := ext_step hk hk.size hb

    clear hb
    go_wp2
    refine bodyPost_ret (v := .tuple #[.string (ipH tos id ttl pr si di bd.size), .bool true]) (by simp [results, Try.results138, go_sem, ipH, hH]) rfl ?_
    exact ⟨rfl, hk⟩
set_option maxRecDepth 100000 in
set_option maxHeartbeats 8000000 in
theorem specIpHeader_c (tos id ttl pr si di : Int) (bd : ByteArray) (w : World) (hz : bd.size ≤ 1048576) :
    Calls Try.prog 175 #[.agg #[.int .i64 tos, .int .i64 id, .int .i64 ttl, .int .i64 pr, .int .i64 si, .int .i64 di, .string bd]] w fun e w' => e = .returned (.tuple #[.string (if ipB tos id ttl pr si di bd then ipH tos id ttl pr si di bd.size else ByteArray.empty), .bool (ipB tos id ttl pr si di bd)]) ∧ Below w.heap.size w w' := by
  cases hok : ipB tos id ttl pr si di bd
  · rw [if_neg (by decide)]
    go_enter Try.func175, Try.ntmps175
    go_wp2_with fail
    refine (calls_bool (specIpOk_c tos id ttl pr si di bd _ hz) hok).mono ?_
    rintro e w1 ⟨rfl, hb⟩
    have hk : Below w.heap.size w w1 := ext_step (by go_grown) (by go_size) hb
    go_wp2
    refine bodyPost_ret (v := .tuple #[.string ByteArray.empty, .bool false]) (by simp [results, Try.results175, go_sem]; rfl) rfl ?_
    exact ⟨rfl, hk⟩
  · rw [if_pos rfl]
    obtain ⟨⟨r1, r2, r3⟩, r4, r5, r6, r7⟩ := ipB_t hok
    obtain ⟨a1, b1⟩ := inB_t r1
    obtain ⟨a2, b2⟩ := inB_t r2
    obtain ⟨a3, b3⟩ := inB_t r3
    obtain ⟨a4, b4⟩ := inB_t r4
    obtain ⟨a5, b5⟩ := inB_t r5
    obtain ⟨a6, b6⟩ := inB_t r6
    have k1 := u8w a1 b1
    have k2 := u8w a2 b2
    have k3 := u8w a3 b3
    have z1 : (strOfNums [69, tos]).size = 2 := rfl
    have z2 : (strOfNums [ttl, pr]).size = 2 := rfl
    have z3 := w16_size (inBi (show (0 : Int) ≤ 20 + (bd.size : Int) by omega) (show 20 + (bd.size : Int) ≤ 65535 by omega))
    have k9 : IntKind.i64.wrap (20 + (bd.size : Int)) = 20 + (bd.size : Int) := IntWalk.i64_in _ ⟨by omega, by omega⟩
    have z4 := w16_size r4
    have z5 : (w16 16384).size = 2 := w16_size (by decide)
    have z6 : (w16 0).size = 2 := w16_size (by decide)
    have z7 := w32_size r5
    have z8 := w32_size r6
    have hq : ipH0 tos id ttl pr si di bd.size = strOfNums [69, tos] ++ w16 (20 + (bd.size : Int)) ++ w16 id ++ w16 16384 ++ strOfNums [ttl, pr] ++ w16 0 ++ w32 si ++ w32 di := rfl
    have hq2 := ipH0_size (tos := tos) (ttl := ttl) (pr := pr) r4 r5 r6 r7
    go_enter Try.func175, Try.ntmps175
    go_upto_region 1 with fail
    have hk : Below w.heap.size w (w.alloc (.cells #[.int .i64 tos, .int .i64 id, .int .i64 ttl, .int .i64 pr, .int .i64 si, .int .i64 di, .string bd] 110)) := by go_grown
    have hz0 : w.heap.size < (w.alloc (.cells #[.int .i64 tos, .int .i64 id, .int .i64 ttl, .int .i64 pr, .int .i64 si, .int .i64 di, .string bd] 110)).heap.size := by go_size
    have hc0 : (w.alloc (.cells #[.int .i64 tos, .int .i64 id, .int .i64 ttl, .int .i64 pr, .int .i64 si, .int .i64 di, .string bd] 110)).cell? ⟨w.heap.size, 0, none⟩ = some (.int .i64 tos) := by simp [go_sem]
    have hc1 : (w.alloc (.cells #[.int .i64 tos, .int .i64 id, .int .i64 ttl, .int .i64 pr, .int .i64 si, .int .i64 di, .string bd] 110)).cell? ⟨w.heap.size, 1, none⟩ = some (.int .i64 id) := by simp [go_sem]
    have hc2 : (w.alloc (.cells #[.int .i64 tos, .int .i64 id, .int .i64 ttl, .int .i64 pr, .int .i64 si, .int .i64 di, .string bd] 110)).cell? ⟨w.heap.size, 2, none⟩ = some (.int .i64 ttl) := by simp [go_sem]
    have hc3 : (w.alloc (.cells #[.int .i64 tos, .int .i64 id, .int .i64 ttl, .int .i64 pr, .int .i64 si, .int .i64 di, .string bd] 110)).cell? ⟨w.heap.size, 3, none⟩ = some (.int .i64 pr) := by simp [go_sem]
    have hc4 : (w.alloc (.cells #[.int .i64 tos, .int .i64 id, .int .i64 ttl, .int .i64 pr, .int .i64 si, .int .i64 di, .string bd] 110)).cell? ⟨w.heap.size, 4, none⟩ = some (.int .i64 si) := by simp [go_sem]
    have hc5 : (w.alloc (.cells #[.int .i64 tos, .int .i64 id, .int .i64 ttl, .int .i64 pr, .int .i64 si, .int .i64 di, .string bd] 110)).cell? ⟨w.heap.size, 5, none⟩ = some (.int .i64 di) := by simp [go_sem]
    have hc6 : (w.alloc (.cells #[.int .i64 tos, .int .i64 id, .int .i64 ttl, .int .i64 pr, .int .i64 si, .int .i64 di, .string bd] 110)).cell? ⟨w.heap.size, 6, none⟩ = some (.string bd) := by simp [go_sem]
    generalize hW : w.alloc (.cells #[.int .i64 tos, .int .i64 id, .int .i64 ttl, .int .i64 pr, .int .i64 si, .int .i64 di, .string bd] 110) = w1 at *
    clear hW
    go_wp2_with fail
    refine (calls_bool (specIpOk_c tos id ttl pr si di bd _ hz) hok).mono ?_
    rintro e w2 ⟨rfl, hb⟩
    replace hk := ext_step hk hk.size hb
    replace hz0 := Nat.lt_of_lt_of_le hz0 hb.size
    replace hc0 := ccell hb _ _ _ hc0
    replace hc1 := ccell hb _ _ _ hc1
    replace hc2 := ccell hb _ _ _ hc2
    replace hc3 := ccell hb _ _ _ hc3
    replace hc4 := ccell hb _ _ _ hc4
    replace hc5 := ccell hb _ _ _ hc5
    replace hc6 := ccell hb _ _ _ hc6
    clear hb
    go_wp2_with fail
    refine wp_region_slotsP [] [(8, fun _ v => v = .pointer (some ⟨w.heap.size, 0, none⟩)), (9, fun _ v => v = .int .i64 tos), (10, fun _ v => v = .int .u8 tos), (11, fun w v => ∃ b, v = .slice (some ⟨b, 0, none⟩) 2 2 ∧ Byt w b (69) (tos)), (12, fun _ v => v = .string (strOfNums [69, tos])), (13, fun _ v => v = .pointer (some ⟨w.heap.size, 6, none⟩)), (14, fun _ v => v = .string bd), (15, fun _ v => v = .int .i64 ((bd).size : Int)), (16, fun _ v => v = .int .i64 (20 + ((bd).size : Int))), (17, fun _ v => v = .string (w16 ((20 + ((bd).size : Int))))), (18, fun _ v => v = .string (strOfNums [69, tos] ++ (w16 ((20 + ((bd).size : Int)))))), (19, fun _ v => v = .pointer (some ⟨w.heap.size, 1, none⟩)), (20, fun _ v => v = .int .i64 id), (21, fun _ v => v = .string (w16 id)), (22, fun _ v => v = .string (strOfNums [69, tos] ++ (w16 ((20 + ((bd).size : Int)))) ++ (w16 id))), (23, fun _ v => v = .string (w16 16384)), (24, fun _ v => v = .string (strOfNums [69, tos] ++ (w16 ((20 + ((bd).size : Int)))) ++ (w16 id) ++ (w16 16384))), (25, fun _ v => v = .pointer (some ⟨w.heap.size, 2, none⟩)), (26, fun _ v => v = .int .i64 ttl), (27, fun _ v => v = .int .u8 ttl), (28, fun _ v => v = .pointer (some ⟨w.heap.size, 3, none⟩)), (29, fun _ v => v = .int .i64 pr), (30, fun _ v => v = .int .u8 pr), (31, fun w v => ∃ b, v = .slice (some ⟨b, 0, none⟩) 2 2 ∧ Byt w b (ttl) (pr)), (32, fun _ v => v = .string (strOfNums [ttl, pr])), (33, fun _ v => v = .string (strOfNums [69, tos] ++ (w16 ((20 + ((bd).size : Int)))) ++ (w16 id) ++ (w16 16384) ++ (strOfNums [ttl, pr]))), (34, fun _ v => v = .string (w16 0)), (35, fun _ v => v = .string (strOfNums [69, tos] ++ (w16 ((20 + ((bd).size : Int)))) ++ (w16 id) ++ (w16 16384) ++ (strOfNums [ttl, pr]) ++ (w16 0))), (36, fun _ v => v = .pointer (some ⟨w.heap.size, 4, none⟩)), (37, fun _ v => v = .int .i64 si), (38, fun _ v => v = .string (w32 si)), (39, fun _ v => v = .string (strOfNums [69, tos] ++ (w16 ((20 + ((bd).size : Int)))) ++ (w16 id) ++ (w16 16384) ++ (strOfNums [ttl, pr]) ++ (w16 0) ++ (w32 si))), (40, fun _ v => v = .pointer (some ⟨w.heap.size, 5, none⟩)), (41, fun _ v => v = .int .i64 di), (42, fun _ v => v = .string (w32 di)), (43, fun _ v => v = .string (strOfNums [69, tos] ++ (w16 ((20 + ((bd).size : Int)))) ++ (w16 id) ++ (w16 16384) ++ (strOfNums [ttl, pr]) ++ (w16 0) ++ (w32 si) ++ (w32 di))), (4, fun _ v => v = .string (strOfNums [69, tos] ++ (w16 ((20 + ((bd).size : Int)))) ++ (w16 id) ++ (w16 16384) ++ (strOfNums [ttl, pr]) ++ (w16 0) ++ (w32 si) ++ (w32 di)))] (by kernel_rfl) (by kernel_rfl) (by kernel_rfl) (by kernel_rfl) (by kernel_rfl) ?_ ?_ ?_
    · intro p hp
      simp only [List.mem_cons, List.not_mem_nil, or_false] at hp
      rcases hp with rfl | rfl | rfl | rfl | rfl | rfl | rfl | rfl | rfl | rfl | rfl | rfl | rfl | rfl | rfl | rfl | rfl | rfl | rfl | rfl | rfl | rfl | rfl | rfl | rfl | rfl | rfl | rfl | rfl | rfl | rfl | rfl | rfl | rfl | rfl | rfl | rfl
      all_goals (intro w w' v hb hv)
      all_goals first | exact hv | (obtain ⟨b, rfl, h⟩ := hv; exact ⟨b, rfl, byt_mono hb _ h⟩)
    · intro o ho
      simp only [List.mem_cons, List.not_mem_nil, or_false] at ho
      rcases ho with rfl | rfl | rfl | rfl | rfl | rfl | rfl | rfl | rfl | rfl | rfl | rfl | rfl | rfl | rfl | rfl | rfl | rfl | rfl | rfl | rfl | rfl | rfl | rfl | rfl | rfl | rfl | rfl | rfl | rfl | rfl | rfl | rfl | rfl | rfl | rfl | rfl
      all_goals refine stepOk2_plain rfl ?_
      · intro a w2 hb hl K Q hK
        have e1 : a.tmps[1]?.getD undef = .pointer (some ⟨w.heap.size, 0, none⟩) := gd (hl 1 (by decide))
        go_simp
        exact hK _ _ (Below.refl _ _) (by intro d hd; cases hd; exact rfl)
      · intro a w2 hb hl K Q hK
        have e8 : a.tmps[8]?.getD undef = .pointer (some ⟨w.heap.size, 0, none⟩) := gd (hl 8 (by decide))
        have hd0 := ccell hb _ _ _ hc0
        go_simp
        exact hK _ _ (Below.refl _ _) (by intro d hd; cases hd; exact rfl)
      · intro a w2 hb hl K Q hK
        have e9 : a.tmps[9]?.getD undef = .int .i64 tos := gd (hl 9 (by decide))
        go_simp
        exact hK _ _ (Below.refl _ _) (by intro d hd; cases hd; exact rfl)
      · intro a w2 hb hl K Q hK
        have e10 : a.tmps[10]?.getD undef = .int .u8 tos := gd (hl 10 (by decide))
        go_simp
        exact hK _ _ (by go_grown) (by intro d hd; cases hd; exact ⟨_, rfl, byt_new _ _ _ _⟩)
      · intro a w2 hb hl K Q hK
        obtain ⟨b11, hb11, hbyt11⟩ : ∃ b, a.tmps.getD 11 undef = .slice (some ⟨b, 0, none⟩) 2 2 ∧ Byt w2 b (69) (tos) := hl 11 (by decide)
        have e11 := gd hb11
        have hcv := byt_conv (69) (tos) w2 b11 hbyt11
        go_simp
        exact hK _ _ (Below.refl _ _) (by intro d hd; cases hd; exact rfl)
      · intro a w2 hb hl K Q hK
        have e1 : a.tmps[1]?.getD undef = .pointer (some ⟨w.heap.size, 0, none⟩) := gd (hl 1 (by decide))
        go_simp
        exact hK _ _ (Below.refl _ _) (by intro d hd; cases hd; exact rfl)
      · intro a w2 hb hl K Q hK
        have e13 : a.tmps[13]?.getD undef = .pointer (some ⟨w.heap.size, 6, none⟩) := gd (hl 13 (by decide))
        have hd6 := ccell hb _ _ _ hc6
        go_simp
        exact hK _ _ (Below.refl _ _) (by intro d hd; cases hd; exact rfl)
      · intro a w2 hb hl K Q hK
        have e14 : a.tmps[14]?.getD undef = .string bd := gd (hl 14 (by decide))
        go_simp
        exact hK _ _ (Below.refl _ _) (by intro d hd; cases hd; exact rfl)
      · intro a w2 hb hl K Q hK
        have e15 : a.tmps[15]?.getD undef = .int .i64 ((bd).size : Int) := gd (hl 15 (by decide))
        go_simp
        exact hK _ _ (Below.refl _ _) (by intro d hd; cases hd; exact rfl)
      · intro a w2 hb hl K Q hK
        have e16 : a.tmps[16]?.getD undef = .int .i64 (20 + ((bd).size : Int)) := gd (hl 16 (by decide))
        go_simp
        refine (specWord16_c ((20 + ((bd).size : Int))) _ ⟨by omega, by omega⟩).mono ?_
        rintro e w' ⟨rfl, hb'⟩
        exact hK _ _ hb' (by intro d hd; cases hd; exact rfl)
      · intro a w2 hb hl K Q hK
        have e12 : a.tmps[12]?.getD undef = .string (strOfNums [69, tos]) := gd (hl 12 (by decide))
        have e17 : a.tmps[17]?.getD undef = .string (w16 ((20 + ((bd).size : Int)))) := gd (hl 17 (by decide))
        go_simp
        exact hK _ _ (Below.refl _ _) (by intro d hd; cases hd; exact rfl)
      · intro a w2 hb hl K Q hK
        have e1 : a.tmps[1]?.getD undef = .pointer (some ⟨w.heap.size, 0, none⟩) := gd (hl 1 (by decide))
        go_simp
        exact hK _ _ (Below.refl _ _) (by intro d hd; cases hd; exact rfl)
      · intro a w2 hb hl K Q hK
        have e19 : a.tmps[19]?.getD undef = .pointer (some ⟨w.heap.size, 1, none⟩) := gd (hl 19 (by decide))
        have hd1 := ccell hb _ _ _ hc1
        go_simp
        exact hK _ _ (Below.refl _ _) (by intro d hd; cases hd; exact rfl)
      · intro a w2 hb hl K Q hK
        have e20 : a.tmps[20]?.getD undef = .int .i64 id := gd (hl 20 (by decide))
        go_simp
        refine (specWord16_c id _ ⟨by omega, by omega⟩).mono ?_
        rintro e w' ⟨rfl, hb'⟩
        exact hK _ _ hb' (by intro d hd; cases hd; exact rfl)
      · intro a w2 hb hl K Q hK
        have e18 : a.tmps[18]?.getD undef = .string (strOfNums [69, tos] ++ (w16 ((20 + ((bd).size : Int))))) := gd (hl 18 (by decide))
        have e21 : a.tmps[21]?.getD undef = .string (w16 id) := gd (hl 21 (by decide))
        go_simp
        exact hK _ _ (Below.refl _ _) (by intro d hd; cases hd; exact rfl)
      · intro a w2 hb hl K Q hK
        go_simp
        refine (specWord16_c 16384 _ ⟨by omega, by omega⟩).mono ?_
        rintro e w' ⟨rfl, hb'⟩
        exact hK _ _ hb' (by intro d hd; cases hd; exact rfl)
      · intro a w2 hb hl K Q hK
        have e22 : a.tmps[22]?.getD undef = .string (strOfNums [69, tos] ++ (w16 ((20 + ((bd).size : Int)))) ++ (w16 id)) := gd (hl 22 (by decide))
        have e23 : a.tmps[23]?.getD undef = .string (w16 16384) := gd (hl 23 (by decide))
        go_simp
        exact hK _ _ (Below.refl _ _) (by intro d hd; cases hd; exact rfl)
      · intro a w2 hb hl K Q hK
        have e1 : a.tmps[1]?.getD undef = .pointer (some ⟨w.heap.size, 0, none⟩) := gd (hl 1 (by decide))
        go_simp
        exact hK _ _ (Below.refl _ _) (by intro d hd; cases hd; exact rfl)
      · intro a w2 hb hl K Q hK
        have e25 : a.tmps[25]?.getD undef = .pointer (some ⟨w.heap.size, 2, none⟩) := gd (hl 25 (by decide))
        have hd2 := ccell hb _ _ _ hc2
        go_simp
        exact hK _ _ (Below.refl _ _) (by intro d hd; cases hd; exact rfl)
      · intro a w2 hb hl K Q hK
        have e26 : a.tmps[26]?.getD undef = .int .i64 ttl := gd (hl 26 (by decide))
        go_simp
        exact hK _ _ (Below.refl _ _) (by intro d hd; cases hd; exact rfl)
      · intro a w2 hb hl K Q hK
        have e1 : a.tmps[1]?.getD undef = .pointer (some ⟨w.heap.size, 0, none⟩) := gd (hl 1 (by decide))
        go_simp
        exact hK _ _ (Below.refl _ _) (by intro d hd; cases hd; exact rfl)
      · intro a w2 hb hl K Q hK
        have e28 : a.tmps[28]?.getD undef = .pointer (some ⟨w.heap.size, 3, none⟩) := gd (hl 28 (by decide))
        have hd3 := ccell hb _ _ _ hc3
        go_simp
        exact hK _ _ (Below.refl _ _) (by intro d hd; cases hd; exact rfl)
      · intro a w2 hb hl K Q hK
        have e29 : a.tmps[29]?.getD undef = .int .i64 pr := gd (hl 29 (by decide))
        go_simp
        exact hK _ _ (Below.refl _ _) (by intro d hd; cases hd; exact rfl)
      · intro a w2 hb hl K Q hK
        have e27 : a.tmps[27]?.getD undef = .int .u8 ttl := gd (hl 27 (by decide))
        have e30 : a.tmps[30]?.getD undef = .int .u8 pr := gd (hl 30 (by decide))
        go_simp
        exact hK _ _ (by go_grown) (by intro d hd; cases hd; exact ⟨_, rfl, byt_new _ _ _ _⟩)
      · intro a w2 hb hl K Q hK
        obtain ⟨b31, hb31, hbyt31⟩ : ∃ b, a.tmps.getD 31 undef = .slice (some ⟨b, 0, none⟩) 2 2 ∧ Byt w2 b (ttl) (pr) := hl 31 (by decide)
        have e31 := gd hb31
        have hcv := byt_conv (ttl) (pr) w2 b31 hbyt31
        go_simp
        exact hK _ _ (Below.refl _ _) (by intro d hd; cases hd; exact rfl)
      · intro a w2 hb hl K Q hK
        have e24 : a.tmps[24]?.getD undef = .string (strOfNums [69, tos] ++ (w16 ((20 + ((bd).size : Int)))) ++ (w16 id) ++ (w16 16384)) := gd (hl 24 (by decide))
        have e32 : a.tmps[32]?.getD undef = .string (strOfNums [ttl, pr]) := gd (hl 32 (by decide))
        go_simp
        exact hK _ _ (Below.refl _ _) (by intro d hd; cases hd; exact rfl)
      · intro a w2 hb hl K Q hK
        go_simp
        refine (specWord16_c 0 _ ⟨by omega, by omega⟩).mono ?_
        rintro e w' ⟨rfl, hb'⟩
        exact hK _ _ hb' (by intro d hd; cases hd; exact rfl)
      · intro a w2 hb hl K Q hK
        have e33 : a.tmps[33]?.getD undef = .string (strOfNums [69, tos] ++ (w16 ((20 + ((bd).size : Int)))) ++ (w16 id) ++ (w16 16384) ++ (strOfNums [ttl, pr])) := gd (hl 33 (by decide))
        have e34 : a.tmps[34]?.getD undef = .string (w16 0) := gd (hl 34 (by decide))
        go_simp
        exact hK _ _ (Below.refl _ _) (by intro d hd; cases hd; exact rfl)
      · intro a w2 hb hl K Q hK
        have e1 : a.tmps[1]?.getD undef = .pointer (some ⟨w.heap.size, 0, none⟩) := gd (hl 1 (by decide))
        go_simp
        exact hK _ _ (Below.refl _ _) (by intro d hd; cases hd; exact rfl)
      · intro a w2 hb hl K Q hK
        have e36 : a.tmps[36]?.getD undef = .pointer (some ⟨w.heap.size, 4, none⟩) := gd (hl 36 (by decide))
        have hd4 := ccell hb _ _ _ hc4
        go_simp
        exact hK _ _ (Below.refl _ _) (by intro d hd; cases hd; exact rfl)
      · intro a w2 hb hl K Q hK
        have e37 : a.tmps[37]?.getD undef = .int .i64 si := gd (hl 37 (by decide))
        go_simp
        refine (specWord32_c si _ ⟨by omega, by omega⟩).mono ?_
        rintro e w' ⟨rfl, hb'⟩
        exact hK _ _ hb' (by intro d hd; cases hd; exact rfl)
      · intro a w2 hb hl K Q hK
        have e35 : a.tmps[35]?.getD undef = .string (strOfNums [69, tos] ++ (w16 ((20 + ((bd).size : Int)))) ++ (w16 id) ++ (w16 16384) ++ (strOfNums [ttl, pr]) ++ (w16 0)) := gd (hl 35 (by decide))
        have e38 : a.tmps[38]?.getD undef = .string (w32 si) := gd (hl 38 (by decide))
        go_simp
        exact hK _ _ (Below.refl _ _) (by intro d hd; cases hd; exact rfl)
      · intro a w2 hb hl K Q hK
        have e1 : a.tmps[1]?.getD undef = .pointer (some ⟨w.heap.size, 0, none⟩) := gd (hl 1 (by decide))
        go_simp
        exact hK _ _ (Below.refl _ _) (by intro d hd; cases hd; exact rfl)
      · intro a w2 hb hl K Q hK
        have e40 : a.tmps[40]?.getD undef = .pointer (some ⟨w.heap.size, 5, none⟩) := gd (hl 40 (by decide))
        have hd5 := ccell hb _ _ _ hc5
        go_simp
        exact hK _ _ (Below.refl _ _) (by intro d hd; cases hd; exact rfl)
      · intro a w2 hb hl K Q hK
        have e41 : a.tmps[41]?.getD undef = .int .i64 di := gd (hl 41 (by decide))
        go_simp
        refine (specWord32_c di _ ⟨by omega, by omega⟩).mono ?_
        rintro e w' ⟨rfl, hb'⟩
        exact hK _ _ hb' (by intro d hd; cases hd; exact rfl)
      · intro a w2 hb hl K Q hK
        have e39 : a.tmps[39]?.getD undef = .string (strOfNums [69, tos] ++ (w16 ((20 + ((bd).size : Int)))) ++ (w16 id) ++ (w16 16384) ++ (strOfNums [ttl, pr]) ++ (w16 0) ++ (w32 si)) := gd (hl 39 (by decide))
        have e42 : a.tmps[42]?.getD undef = .string (w32 di) := gd (hl 42 (by decide))
        go_simp
        exact hK _ _ (Below.refl _ _) (by intro d hd; cases hd; exact rfl)
      · intro a w2 hb hl K Q hK
        have e43 : a.tmps[43]?.getD undef = .string (strOfNums [69, tos] ++ (w16 ((20 + ((bd).size : Int)))) ++ (w16 id) ++ (w16 16384) ++ (strOfNums [ttl, pr]) ++ (w16 0) ++ (w32 si) ++ (w32 di)) := gd (hl 43 (by decide))
        go_simp
        exact hK _ _ (Below.refl _ _) (by intro d hd; cases hd; exact rfl)
    intro xT w3 hb hL
    have fx4 : xT 4 = .string (strOfNums [69, tos] ++ (w16 ((20 + ((bd).size : Int)))) ++ (w16 id) ++ (w16 16384) ++ (strOfNums [ttl, pr]) ++ (w16 0) ++ (w32 si) ++ (w32 di)) := hL _ (List.mem_of_getElem? (i := 36) rfl)
    simp only [List.map, putAll, fx4]
    clear hL fx4
    replace hk := ext_step hk (hk.size) hb
    replace hc0 := ccell hb _ _ _ hc0
    replace hc1 := ccell hb _ _ _ hc1
    replace hc2 := ccell hb _ _ _ hc2
    replace hc3 := ccell hb _ _ _ hc3
    replace hc4 := ccell hb _ _ _ hc4
    replace hc5 := ccell hb _ _ _ hc5
    replace hc6 := ccell hb _ _ _ hc6
    try replace hz0 := Nat.lt_of_lt_of_le hz0 hb.size
    clear hb
    rw [← hq]
    clear hq
    generalize hH : ipH0 tos id ttl pr si di bd.size = H at *
    go_wp2_with fail
    refine (specChecksum_c H _ (by omega)).mono ?_
    rintro e w4 ⟨rfl, hb⟩
    replace hk := ext_step hk hk.size hb

    clear hb
    have hcb := chk_bd H
    go_wp2_with fail
    refine (specWord16_c (chk H) _ ⟨by omega, by omega⟩).mono ?_
    rintro e w5 ⟨rfl, hb⟩
    replace hk := ext_step hk hk.size hb

    clear hb
    have z9 := w16_size (inBi hcb.1 hcb.2)
    go_wp2_with fail
    refine (specPutBytes_c H (w16 (chk H)) 10 _ (by omega) (by omega) ⟨by decide, by decide⟩).mono ?_
    rintro e w6 ⟨rfl, hb⟩
    replace hk := ext_step hk hk.size hb

    clear hb
    go_wp2
    refine bodyPost_ret (v := .tuple #[.string (ipH tos id ttl pr si di bd.size), .bool true]) (by simp [results, Try.results175, go_sem, ipH, hH]) rfl ?_
    exact ⟨rfl, hk⟩
end Go.Proofs.Ytifbfmafogmemaa
