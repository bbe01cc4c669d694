/- Contracts of CutPieces: impl and spec. -/
import Derived.Test.YteajedcoidljhaaRows2
import Derived.Test.YteajedcoidljhaaIn
import Derived.Test.YteajedcoidljhaaConvPiece
namespace Go.Proofs.Yteajedcoidljhaa
set_option linter.unusedSimpArgs false
set_option linter.unusedVariables false
open Go.RowKit Go.ChangeShapes Go.WideShapes
@[irreducible] def cutF : Nat := 4097
theorem cutF_eq : cutF = 4097 := by unfold cutF; rfl
def cutL : Nat → Int → Int → Int → Int → List Piece
  | 0, _, _, _, _ => []
  | f + 1, at_, n, size, fr => if fr < n then ⟨at_ + fr, if size ≤ n - fr then size else n - fr⟩ :: cutL f at_ n size (fr + size) else []
def cutOk (at_ n size : Int) : Bool := inB at_ 0 130944 && inB n 1 4096 && inB size 1 4096 && decide ((n + size - 1) / size ≤ 16)
def cutP (at_ n size : Int) : List Piece := if cutOk at_ n size then cutL cutF at_ n size 0 else []
theorem cutL_end {f : Nat} {at_ n size fr : Int} (h : ¬ fr < n) : cutL f at_ n size fr = [] := by
  cases f with
  | zero => rfl
  | succ f => rw [cutL, if_neg h]
theorem cutL_next {k : Nat} {at_ n size fr : Int} {xs : List Piece} (h : xs ++ cutL (cutF - k) at_ n size fr = cutL cutF at_ n size 0) (hf : fr < n) (hk : k < cutF) :
    (xs ++ [⟨at_ + fr, if size ≤ n - fr then size else n - fr⟩]) ++ cutL (cutF - (k + 1)) at_ n size (fr + size) = cutL cutF at_ n size 0 := by
  have e : cutF - k = (cutF - (k + 1)) + 1 := by omega
  rw [e, cutL, if_pos hf] at h
  rw [← h]
  simp
theorem cutP_ok {at_ n size : Int} (h1 : inB at_ 0 130944 = true) (h2 : inB n 1 4096 = true) (h3 : inB size 1 4096 = true) (h4 : (n + size - 1) / size ≤ 16) : cutP at_ n size = cutL cutF at_ n size 0 := by
  have hc : cutOk at_ n size = true := by rw [cutOk, h1, h2, h3]; exact decide_eq_true h4
  rw [cutP, hc, if_pos rfl]
theorem cutP_no {at_ n size : Int} (hc : cutOk at_ n size = false) : cutP at_ n size = [] := by
  rw [cutP, hc, if_neg (by decide)]
set_option maxRecDepth 100000 in
set_option maxHeartbeats 4000000 in
theorem implCutPieces_c (at_ n size : Int) (w : World) :
    Calls Try.prog 39 #[.int .i64 at_, .int .i64 n, .int .i64 size] w fun e w' => ∃ v, e = .returned v ∧ w'.ownsRow w.heap.size 60 2 v (cutP at_ n size).length ((cutP at_ n size).flatMap Piece.cells) ∧ Below w.heap.size w w' := by
  obtain ⟨i0, hi, hz0, hz1, hz2⟩ := info_parts info_Piece
  cases e1 : inB at_ 0 130944
  · go_enter Try.func39, Try.ntmps39
    go_wp2_with (go_at_call 62; refine (calls_bool (between_c _ _ _ _) (by assumption)).mono ?_; rintro e w1 ⟨rfl, rfl⟩)
    go_ret
    exact ⟨_, rfl, by rw [cutP_no (by simp [cutOk, e1])]; exact own_nil _ _ _ _, by go_grown⟩
  cases e2 : inB n 1 4096
  · go_enter Try.func39, Try.ntmps39
    go_wp2_with (go_at_call 62; refine (calls_bool (between_c _ _ _ _) (by assumption)).mono ?_; rintro e w1 ⟨rfl, rfl⟩)
    go_ret
    exact ⟨_, rfl, by rw [cutP_no (by simp [cutOk, e2])]; exact own_nil _ _ _ _, by go_grown⟩
  cases e3 : inB size 1 4096
  · go_enter Try.func39, Try.ntmps39
    go_wp2_with (go_at_call 62; refine (calls_bool (between_c _ _ _ _) (by assumption)).mono ?_; rintro e w1 ⟨rfl, rfl⟩)
    go_ret
    exact ⟨_, rfl, by rw [cutP_no (by simp [cutOk, e3])]; exact own_nil _ _ _ _, by go_grown⟩
  obtain ⟨b1, b2⟩ := inB_t e1
  obtain ⟨b3, b4⟩ := inB_t e2
  obtain ⟨b5, b6⟩ := inB_t e3
  by_cases e4 : 16 < (n + size - 1) / size
  · go_enter Try.func39, Try.ntmps39
    go_wp2_with (go_at_call 62; refine (calls_bool (between_c _ _ _ _) (by assumption)).mono ?_; rintro e w1 ⟨rfl, rfl⟩)
    go_ret
    exact ⟨_, rfl, by rw [cutP_no (by simp [cutOk, e1, e2, e3, e4])]; exact own_nil _ _ _ _, by go_grown⟩
  have HO := Lib.hid (cutP_ok e1 e2 e3 (by omega))
  go_enter Try.func39, Try.ntmps39
  go_wp2_with (go_at_call 62; refine (calls_bool (between_c _ _ _ _) (by assumption)).mono ?_; rintro e w1 ⟨rfl, rfl⟩)
  clear e1 e2 e3 e4
  go_loopw [7, 8] (fun v i wr => ∃ (k : Nat) (fr : Int) (xs : List Piece), i = .int .i64 fr ∧ (k : Int) ≤ fr ∧ 0 ≤ fr ∧ fr ≤ n + size ∧ Hid (xs ++ cutL (cutF - k) at_ n size fr = cutL cutF at_ n size 0) ∧ Hid (xs.length = k) ∧ k ≤ 4096 ∧ wr.ownsRow w.heap.size 60 2 v k (xs.flatMap Piece.cells) ∧ Below w.heap.size w wr) (fun _ i _ => (n + size - intOf i).toNat)
  case atStart => exact ⟨0, 0, [], rfl, by omega, by omega, by omega, rfl, rfl, by omega, own_empty (Blk.new _ _ []) (Nat.le_refl _), by go_grown⟩
  case round =>
    obtain ⟨k, fr, xs, rfl, hk, hf0, hf1, hcut, hxl, hk2, hown, hbw⟩ := hrel
    have hsz := hbw.size
    by_cases hlt : fr < n
    · by_cases hmin : size ≤ n - fr
      · have hcn := cutL_next hcut.out hlt (by rw [cutF_eq]; omega)
        rw [if_pos hmin] at hcn
        have HC := Lib.hid hcn
        clear hcn
        go_wp2_with (at_builtin; refine wpList_append_own _ rfl _ _ 48 rfl w.heap.size 60 i0 (.agg #[.int .i64 0, .int .i64 0]) 2 16 Try.underlying48 hi hz0 hz1 hz2 rfl (by decide) _ _ _ rfl (hown.alloc _) ⟨wr.heap.size, 0, none⟩ 1 1 [.int .i64 (at_ + fr), .int .i64 (size)] rfl rfl (cells_new _ _ _) ?c2 ?c3 ?c4 ?c5 ?_; (case c2 => (intro u hu; simp only [List.mem_cons, List.not_mem_nil, or_false] at hu; rcases hu with rfl | rfl <;> rfl)); (case c3 => (unfold maxLen; omega)); (case c4 => omega); (case c5 => go_size); intro v1 w1 hown1 hg1 hn1; have hb1 : Below w.heap.size w w1 := below_app (hbw.alloc hsz _) (hown.alloc _) hg1 (by go_size); clear hn1 hg1)
        go_roundw
        case rel => exact ⟨k + 1, fr + size, xs ++ [⟨at_ + fr, size⟩], rfl, by omega, by omega, by omega, HC, by rw [Hid, List.length_append, hxl.out]; rfl, by omega, by rw [List.flatMap_append]; exact hown1, hb1⟩
        case measure => simp [intOf]; omega
      · have hmin := Int.not_le.1 hmin
        have hcn := cutL_next hcut.out hlt (by rw [cutF_eq]; omega)
        rw [if_neg (by omega)] at hcn
        have HC := Lib.hid hcn
        clear hcn
        go_wp2_with (at_builtin; refine wpList_append_own _ rfl _ _ 48 rfl w.heap.size 60 i0 (.agg #[.int .i64 0, .int .i64 0]) 2 16 Try.underlying48 hi hz0 hz1 hz2 rfl (by decide) _ _ _ rfl (hown.alloc _) ⟨wr.heap.size, 0, none⟩ 1 1 [.int .i64 (at_ + fr), .int .i64 (n - fr)] rfl rfl (cells_new _ _ _) ?c2 ?c3 ?c4 ?c5 ?_; (case c2 => (intro u hu; simp only [List.mem_cons, List.not_mem_nil, or_false] at hu; rcases hu with rfl | rfl <;> rfl)); (case c3 => (unfold maxLen; omega)); (case c4 => omega); (case c5 => go_size); intro v1 w1 hown1 hg1 hn1; have hb1 : Below w.heap.size w w1 := below_app (hbw.alloc hsz _) (hown.alloc _) hg1 (by go_size); clear hn1 hg1)
        go_roundw
        case rel => exact ⟨k + 1, fr + size, xs ++ [⟨at_ + fr, n - fr⟩], rfl, by omega, by omega, by omega, HC, by rw [Hid, List.length_append, hxl.out]; rfl, by omega, by rw [List.flatMap_append]; exact hown1, hb1⟩
        case measure => simp [intOf]; omega
    · have h1 := hcut.out
      rw [cutL_end hlt, List.append_nil] at h1
      have h2 := hxl.out
      have H1 := Lib.hid (h1.trans HO.out.symm)
      have H2 := Lib.hid h2
      clear h1 h2 hcut hxl
      go_wp2
      go_ret
      exact ⟨_, rfl, by rw [← H1.out, H2.out]; exact hown, hbw⟩
set_option maxRecDepth 100000 in
set_option maxHeartbeats 4000000 in
theorem specCutPieces_c (at_ n size : Int) (w : World) :
    Calls Try.prog 38 #[.int .i64 at_, .int .i64 n, .int .i64 size] w fun e w' => ∃ v, e = .returned v ∧ w'.ownsRow w.heap.size 60 2 v (cutP at_ n size).length ((cutP at_ n size).flatMap Piece.cells) ∧ Below w.heap.size w w' := by
  obtain ⟨i0, hi, hz0, hz1, hz2⟩ := info_parts info_Piece
  cases e1 : inB at_ 0 130944
  · go_enter Try.func38, Try.ntmps38
    go_wp2_with (go_at_call 71; refine (calls_bool (l01In_c _ _ _ _) (by assumption)).mono ?_; rintro e w1 ⟨rfl, rfl⟩)
    go_ret
    exact ⟨_, rfl, by rw [cutP_no (by simp [cutOk, e1])]; exact own_empty (Blk.new _ _ []) (Nat.le_refl _), by go_grown⟩
  cases e2 : inB n 1 4096
  · go_enter Try.func38, Try.ntmps38
    go_wp2_with (go_at_call 71; refine (calls_bool (l01In_c _ _ _ _) (by assumption)).mono ?_; rintro e w1 ⟨rfl, rfl⟩)
    go_ret
    exact ⟨_, rfl, by rw [cutP_no (by simp [cutOk, e2])]; exact own_empty (Blk.new _ _ []) (Nat.le_refl _), by go_grown⟩
  cases e3 : inB size 1 4096
  · go_enter Try.func38, Try.ntmps38
    go_wp2_with (go_at_call 71; refine (calls_bool (l01In_c _ _ _ _) (by assumption)).mono ?_; rintro e w1 ⟨rfl, rfl⟩)
    go_ret
    exact ⟨_, rfl, by rw [cutP_no (by simp [cutOk, e3])]; exact own_empty (Blk.new _ _ []) (Nat.le_refl _), by go_grown⟩
  obtain ⟨b1, b2⟩ := inB_t e1
  obtain ⟨b3, b4⟩ := inB_t e2
  obtain ⟨b5, b6⟩ := inB_t e3
  by_cases e4 : 16 < (n + size - 1) / size
  · go_enter Try.func38, Try.ntmps38
    go_wp2_with (go_at_call 71; refine (calls_bool (l01In_c _ _ _ _) (by assumption)).mono ?_; rintro e w1 ⟨rfl, rfl⟩)
    go_ret
    exact ⟨_, rfl, by rw [cutP_no (by simp [cutOk, e1, e2, e3, e4])]; exact own_empty (Blk.new _ _ []) (Nat.le_refl _), by go_grown⟩
  have HO := Lib.hid (cutP_ok e1 e2 e3 (by omega))
  go_enter Try.func38, Try.ntmps38
  go_wp2_with (go_at_call 71; refine (calls_bool (l01In_c _ _ _ _) (by assumption)).mono ?_; rintro e w1 ⟨rfl, rfl⟩)
  clear e1 e2 e3 e4
  go_loopw [7, 8] (fun v i wr => ∃ (k : Nat) (fr : Int) (xs : List Piece), i = .int .i64 fr ∧ (k : Int) ≤ fr ∧ 0 ≤ fr ∧ fr ≤ n + size ∧ Hid (xs ++ cutL (cutF - k) at_ n size fr = cutL cutF at_ n size 0) ∧ Hid (xs.length = k) ∧ k ≤ 4096 ∧ wr.ownsRow w.heap.size 60 2 v k (xs.flatMap Piece.cells) ∧ Below w.heap.size w wr) (fun _ i _ => (n + size - intOf i).toNat)
  case atStart => exact ⟨0, 0, [], rfl, by omega, by omega, by omega, rfl, rfl, by omega, own_empty (Blk.new _ _ []) (Nat.le_refl _), by go_grown⟩
  case round =>
    obtain ⟨k, fr, xs, rfl, hk, hf0, hf1, hcut, hxl, hk2, hown, hbw⟩ := hrel
    have hsz := hbw.size
    by_cases hlt : fr < n
    · by_cases hmin : size ≤ n - fr
      · have hcn := cutL_next hcut.out hlt (by rw [cutF_eq]; omega)
        rw [if_pos hmin] at hcn
        have HC := Lib.hid hcn
        clear hcn
        go_wp2_with (at_builtin; refine wpList_append_own _ rfl _ _ 48 rfl w.heap.size 60 i0 (.agg #[.int .i64 0, .int .i64 0]) 2 16 Try.underlying48 hi hz0 hz1 hz2 rfl (by decide) _ _ _ rfl (hown.alloc _) ⟨wr.heap.size, 0, none⟩ 1 1 [.int .i64 (at_ + fr), .int .i64 (size)] rfl rfl (cells_new _ _ _) ?c2 ?c3 ?c4 ?c5 ?_; (case c2 => (intro u hu; simp only [List.mem_cons, List.not_mem_nil, or_false] at hu; rcases hu with rfl | rfl <;> rfl)); (case c3 => (unfold maxLen; omega)); (case c4 => omega); (case c5 => go_size); intro v1 w1 hown1 hg1 hn1; have hb1 : Below w.heap.size w w1 := below_app (hbw.alloc hsz _) (hown.alloc _) hg1 (by go_size); clear hn1 hg1)
        go_roundw
        case rel => exact ⟨k + 1, fr + size, xs ++ [⟨at_ + fr, size⟩], rfl, by omega, by omega, by omega, HC, by rw [Hid, List.length_append, hxl.out]; rfl, by omega, by rw [List.flatMap_append]; exact hown1, hb1⟩
        case measure => simp [intOf]; omega
      · have hmin := Int.not_le.1 hmin
        have hcn := cutL_next hcut.out hlt (by rw [cutF_eq]; omega)
        rw [if_neg (by omega)] at hcn
        have HC := Lib.hid hcn
        clear hcn
        go_wp2_with (at_builtin; refine wpList_append_own _ rfl _ _ 48 rfl w.heap.size 60 i0 (.agg #[.int .i64 0, .int .i64 0]) 2 16 Try.underlying48 hi hz0 hz1 hz2 rfl (by decide) _ _ _ rfl (hown.alloc _) ⟨wr.heap.size, 0, none⟩ 1 1 [.int .i64 (at_ + fr), .int .i64 (n - fr)] rfl rfl (cells_new _ _ _) ?c2 ?c3 ?c4 ?c5 ?_; (case c2 => (intro u hu; simp only [List.mem_cons, List.not_mem_nil, or_false] at hu; rcases hu with rfl | rfl <;> rfl)); (case c3 => (unfold maxLen; omega)); (case c4 => omega); (case c5 => go_size); intro v1 w1 hown1 hg1 hn1; have hb1 : Below w.heap.size w w1 := below_app (hbw.alloc hsz _) (hown.alloc _) hg1 (by go_size); clear hn1 hg1)
        go_roundw
        case rel => exact ⟨k + 1, fr + size, xs ++ [⟨at_ + fr, n - fr⟩], rfl, by omega, by omega, by omega, HC, by rw [Hid, List.length_append, hxl.out]; rfl, by omega, by rw [List.flatMap_append]; exact hown1, hb1⟩
        case measure => simp [intOf]; omega
    · have h1 := hcut.out
      rw [cutL_end hlt, List.append_nil] at h1
      have h2 := hxl.out
      have H1 := Lib.hid (h1.trans HO.out.symm)
      have H2 := Lib.hid h2
      clear h1 h2 hcut hxl
      go_wp2
      go_ret
      exact ⟨_, rfl, by rw [← H1.out, H2.out]; exact hown, hbw⟩
theorem cutL_len (at_ n size : Int) : ∀ (f : Nat) (fr : Int), (cutL f at_ n size fr).length ≤ f
  | 0, fr => by simp [cutL]
  | f + 1, fr => by
    rw [cutL]
    split
    · have := cutL_len at_ n size f (fr + size)
      simp; omega
    · simp
theorem cutP_len (at_ n size : Int) : (cutP at_ n size).length ≤ 4097 := by
  unfold cutP
  split
  · have := cutL_len at_ n size cutF 0
    rw [cutF_eq] at *
    exact this
  · simp
end Go.Proofs.Yteajedcoidljhaa
