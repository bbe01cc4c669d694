/- Contracts of Word16 and Word32: impl and spec. -/
import Derived.Test.YtkfekgmdjemkbaaIn
import Derived.Test.YtkfekgmdjemkbaaMem
namespace Go.Proofs.Ytkfekgmdjemkbaa
set_option linter.unusedSimpArgs false
set_option linter.unusedVariables false
open Go.RowKit Go.ChangeShapes Go.WideShapes
theorem bytesLit2 (W : World) (x0 x1 : Int) : (convert 22 9 (.slice (some ⟨W.heap.size, 0, none⟩) 2 2)).run Try.prog (W.alloc (.cells #[.int .u8 x0, .int .u8 x1] 5)) = .ok (.string (strOfNums [x0, x1])) (W.alloc (.cells #[.int .u8 x0, .int .u8 x1] 5)) :=
  run_convert_bytes_arg _ 22 5 Try.underlying22 Try.underlying5 W.heap.size 0 2 2 [x0, x1] rfl (fun i hi => by
    match i, hi with
    | 0, _ => simp [go_sem]
    | 1, _ => simp [go_sem]) 9 Try.underlying9
theorem bytesLit4 (W : World) (x0 x1 x2 x3 : Int) : (convert 22 9 (.slice (some ⟨W.heap.size, 0, none⟩) 4 4)).run Try.prog (W.alloc (.cells #[.int .u8 x0, .int .u8 x1, .int .u8 x2, .int .u8 x3] 5)) = .ok (.string (strOfNums [x0, x1, x2, x3])) (W.alloc (.cells #[.int .u8 x0, .int .u8 x1, .int .u8 x2, .int .u8 x3] 5)) :=
  run_convert_bytes_arg _ 22 5 Try.underlying22 Try.underlying5 W.heap.size 0 4 4 [x0, x1, x2, x3] rfl (fun i hi => by
    match i, hi with
    | 0, _ => simp [go_sem]
    | 1, _ => simp [go_sem]
    | 2, _ => simp [go_sem]
    | 3, _ => simp [go_sem]) 9 Try.underlying9
/-- Two bytes, the higher first; empty where the number does not fit. -/
def w16 (v : Int) : ByteArray := if inB v 0 65535 then strOfNums [v / 256, v % 256] else ByteArray.empty
/-- Four bytes, the highest first; empty where the number does not fit. -/
def w32 (v : Int) : ByteArray := if inB v 0 4294967295 then strOfNums [v / 16777216, v / 65536 % 256, v / 256 % 256, v % 256] else ByteArray.empty
set_option maxHeartbeats 1000000 in
theorem implWord16_c (v : Int) (w : World) (hv : I64 v) :
    Calls Try.prog 86 #[.int .i64 v] w fun e w' => e = .returned (.string (w16 v)) ∧ Below w.heap.size w w' := by
  have hcv := bytesLit2
  cases h : inB v 0 65535
  · go_enter Try.func86, Try.ntmps86
    go_wp2_with (go_at_call 28; refine (calls_bool (between_c _ _ _ _) h).mono ?_; rintro e w1 ⟨rfl, rfl⟩)
    go_ret
    exact ⟨ret_string (by simp [w16, h]; rfl), by go_grown⟩
  · obtain ⟨h1, h2⟩ := inB_t h
    go_enter Try.func86, Try.ntmps86
    go_wp2_with (go_at_call 28; refine (calls_bool (between_c _ _ _ _) h).mono ?_; rintro e w1 ⟨rfl, rfl⟩)
    go_ret
    exact ⟨ret_string (by simp [w16, h]), by go_grown⟩
set_option maxHeartbeats 1000000 in
theorem specWord16_c (v : Int) (w : World) (hv : I64 v) :
    Calls Try.prog 90 #[.int .i64 v] w fun e w' => e = .returned (.string (w16 v)) ∧ Below w.heap.size w w' := by
  have hcv := bytesLit2
  cases h : inB v 0 65535
  · go_enter Try.func90, Try.ntmps90
    go_wp2_with (go_at_call 60; refine (calls_bool (l01In_c _ _ _ _) h).mono ?_; rintro e w1 ⟨rfl, rfl⟩)
    go_ret
    exact ⟨ret_string (by simp [w16, h]; rfl), by go_grown⟩
  · obtain ⟨h1, h2⟩ := inB_t h
    go_enter Try.func90, Try.ntmps90
    go_wp2_with (go_at_call 60; refine (calls_bool (l01In_c _ _ _ _) h).mono ?_; rintro e w1 ⟨rfl, rfl⟩)
    go_ret
    exact ⟨ret_string (by simp [w16, h]), by go_grown⟩
set_option maxHeartbeats 1000000 in
theorem implWord32_c (v : Int) (w : World) (hv : I64 v) :
    Calls Try.prog 85 #[.int .i64 v] w fun e w' => e = .returned (.string (w32 v)) ∧ Below w.heap.size w w' := by
  have hcv := bytesLit4
  cases h : inB v 0 4294967295
  · go_enter Try.func85, Try.ntmps85
    go_wp2_with (go_at_call 28; refine (calls_bool (between_c _ _ _ _) h).mono ?_; rintro e w1 ⟨rfl, rfl⟩)
    go_ret
    exact ⟨ret_string (by simp [w32, h]; rfl), by go_grown⟩
  · obtain ⟨h1, h2⟩ := inB_t h
    go_enter Try.func85, Try.ntmps85
    go_wp2_with (go_at_call 28; refine (calls_bool (between_c _ _ _ _) h).mono ?_; rintro e w1 ⟨rfl, rfl⟩)
    go_ret
    exact ⟨ret_string (by simp [w32, h]), by go_grown⟩
set_option maxHeartbeats 1000000 in
theorem specWord32_c (v : Int) (w : World) (hv : I64 v) :
    Calls Try.prog 89 #[.int .i64 v] w fun e w' => e = .returned (.string (w32 v)) ∧ Below w.heap.size w w' := by
  have hcv := bytesLit4
  cases h : inB v 0 4294967295
  · go_enter Try.func89, Try.ntmps89
    go_wp2_with (go_at_call 60; refine (calls_bool (l01In_c _ _ _ _) h).mono ?_; rintro e w1 ⟨rfl, rfl⟩)
    go_ret
    exact ⟨ret_string (by simp [w32, h]; rfl), by go_grown⟩
  · obtain ⟨h1, h2⟩ := inB_t h
    go_enter Try.func89, Try.ntmps89
    go_wp2_with (go_at_call 60; refine (calls_bool (l01In_c _ _ _ _) h).mono ?_; rintro e w1 ⟨rfl, rfl⟩)
    go_ret
    exact ⟨ret_string (by simp [w32, h]), by go_grown⟩
theorem w16_size {v : Int} (h : inB v 0 65535 = true) : (w16 v).size = 2 := by unfold w16; rw [if_pos h]; rfl
theorem w32_size {v : Int} (h : inB v 0 4294967295 = true) : (w32 v).size = 4 := by unfold w32; rw [if_pos h]; rfl
end Go.Proofs.Ytkfekgmdjemkbaa
