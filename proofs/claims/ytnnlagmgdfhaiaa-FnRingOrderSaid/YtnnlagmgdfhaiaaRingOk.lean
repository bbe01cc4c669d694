/- Contracts of RingOk, RingFree, SlotAddress: impl and spec; of laws.toRing. -/
import Derived.Test.YtnnlagmgdfhaiaaRing
namespace Go.Proofs.Ytnnlagmgdfhaiaa
set_option linter.unusedSimpArgs false
set_option linter.unusedVariables false
open Go.RowKit Go.ChangeShapes Go.WideShapes
theorem szB_bd {n : Int} (h : szB n = true) : 2 ≤ n ∧ n ≤ 16 := by rcases (szB_iff n).1 h with rfl | rfl | rfl | rfl <;> omega
set_option maxHeartbeats 2000000 in
theorem implRingOk_c (base size head tail : Int) (w : World) (h1 : I64 head) (h2 : I64 tail) :
    Calls Try.prog 57 #[.agg #[.int .i64 base, .int .i64 size, .int .i64 head, .int .i64 tail]] w fun e w' => e = .returned (.bool (ringB base size head tail)) ∧ Below w.heap.size w w' := by
  obtain ⟨hd1, hd2⟩ := h1
  obtain ⟨ht1, ht2⟩ := h2
  have hx : ∀ t : Ext (w.alloc (.cells #[.int .i64 base, .int .i64 size, .int .i64 head, .int .i64 tail] 69)), t.wd.cell? ⟨w.heap.size, 0, none⟩ = some (.int .i64 base) ∧ t.wd.cell? ⟨w.heap.size, 1, none⟩ = some (.int .i64 size) ∧ t.wd.cell? ⟨w.heap.size, 2, none⟩ = some (.int .i64 head) ∧ t.wd.cell? ⟨w.heap.size, 3, none⟩ = some (.int .i64 tail) :=
    fun t => ⟨t.cell (by simp [go_sem]), t.cell (by simp [go_sem]), t.cell (by simp [go_sem]), t.cell (by simp [go_sem])⟩
  cases e1 : inB base 0 130944
  · go_enter Try.func57, Try.ntmps57
    go_wp2
    refine wp_region_ext_lit (by kernel_rfl) (by kernel_rfl) ?_
    repeat (go_big_quiet_step ((first | (go_at_call 78; exact ext_same (calls_bool (between_c _ _ _ _) (by assumption))) | (go_at_call 111; exact ext_same (calls_bool (ringSize_c _ _) (by assumption))) | (go_at_call 55; exact ext_call (implRingUsed_c _ _ _ _ _ ⟨by assumption, by assumption⟩ ⟨by assumption, by assumption⟩)))))
    refine wpQuiet_nil ?_
    intro _ hw'
    obtain ⟨tq, hw''⟩ := hw'
    subst hw''
    go_wp2
    go_ret
    exact ⟨ret_bool (by simp [ringB, e1]), ext_step (by go_grown) (by go_size) tq.below⟩
  · cases e2 : szB size
    · go_enter Try.func57, Try.ntmps57
      go_wp2
      refine wp_region_ext_lit (by kernel_rfl) (by kernel_rfl) ?_
      repeat (go_big_quiet_step ((first | (go_at_call 78; exact ext_same (calls_bool (between_c _ _ _ _) (by assumption))) | (go_at_call 111; exact ext_same (calls_bool (ringSize_c _ _) (by assumption))) | (go_at_call 55; exact ext_call (implRingUsed_c _ _ _ _ _ ⟨by assumption, by assumption⟩ ⟨by assumption, by assumption⟩)))))
      refine wpQuiet_nil ?_
      intro _ hw'
      obtain ⟨tq, hw''⟩ := hw'
      subst hw''
      go_wp2
      go_ret
      exact ⟨ret_bool (by simp [ringB, e1, e2]), ext_step (by go_grown) (by go_size) tq.below⟩
    · obtain ⟨b1, b2⟩ := szB_bd e2
      cases e3 : inB head 0 (2 * size - 1)
      · go_enter Try.func57, Try.ntmps57
        go_wp2
        refine wp_region_ext_lit (by kernel_rfl) (by kernel_rfl) ?_
        repeat (go_big_quiet_step ((first | (go_at_call 78; exact ext_same (calls_bool (between_c _ _ _ _) (by assumption))) | (go_at_call 111; exact ext_same (calls_bool (ringSize_c _ _) (by assumption))) | (go_at_call 55; exact ext_call (implRingUsed_c _ _ _ _ _ ⟨by assumption, by assumption⟩ ⟨by assumption, by assumption⟩)))))
        refine wpQuiet_nil ?_
        intro _ hw'
        obtain ⟨tq, hw''⟩ := hw'
        subst hw''
        go_wp2
        go_ret
        exact ⟨ret_bool (by simp [ringB, e1, e2, e3]), ext_step (by go_grown) (by go_size) tq.below⟩
      · cases e4 : inB tail 0 (2 * size - 1)
        · go_enter Try.func57, Try.ntmps57
          go_wp2
          refine wp_region_ext_lit (by kernel_rfl) (by kernel_rfl) ?_
          repeat (go_big_quiet_step ((first | (go_at_call 78; exact ext_same (calls_bool (between_c _ _ _ _) (by assumption))) | (go_at_call 111; exact ext_same (calls_bool (ringSize_c _ _) (by assumption))) | (go_at_call 55; exact ext_call (implRingUsed_c _ _ _ _ _ ⟨by assumption, by assumption⟩ ⟨by assumption, by assumption⟩)))))
          refine wpQuiet_nil ?_
          intro _ hw'
          obtain ⟨tq, hw''⟩ := hw'
          subst hw''
          go_wp2
          go_ret
          exact ⟨ret_bool (by simp [ringB, e1, e2, e3, e4]), ext_step (by go_grown) (by go_size) tq.below⟩
        · go_enter Try.func57, Try.ntmps57
          go_wp2
          refine wp_region_ext_lit (by kernel_rfl) (by kernel_rfl) ?_
          repeat (go_big_quiet_step ((first | (go_at_call 78; exact ext_same (calls_bool (between_c _ _ _ _) (by assumption))) | (go_at_call 111; exact ext_same (calls_bool (ringSize_c _ _) (by assumption))) | (go_at_call 55; exact ext_call (implRingUsed_c _ _ _ _ _ ⟨by assumption, by assumption⟩ ⟨by assumption, by assumption⟩)))))
          refine wpQuiet_nil ?_
          intro _ hw'
          obtain ⟨tq, hw''⟩ := hw'
          subst hw''
          go_wp2
          go_ret
          exact ⟨ret_bool (by simp [ringB, e1, e2, e3, e4]), ext_step (by go_grown) (by go_size) tq.below⟩
set_option maxHeartbeats 2000000 in
theorem specRingOk_c (base size head tail : Int) (w : World) (h1 : I64 head) (h2 : I64 tail) :
    Calls Try.prog 119 #[.agg #[.int .i64 base, .int .i64 size, .int .i64 head, .int .i64 tail]] w fun e w' => e = .returned (.bool (ringB base size head tail)) ∧ Below w.heap.size w w' := by
  obtain ⟨hd1, hd2⟩ := h1
  obtain ⟨ht1, ht2⟩ := h2
  have hx : ∀ t : Ext (w.alloc (.cells #[.int .i64 base, .int .i64 size, .int .i64 head, .int .i64 tail] 69)), t.wd.cell? ⟨w.heap.size, 0, none⟩ = some (.int .i64 base) ∧ t.wd.cell? ⟨w.heap.size, 1, none⟩ = some (.int .i64 size) ∧ t.wd.cell? ⟨w.heap.size, 2, none⟩ = some (.int .i64 head) ∧ t.wd.cell? ⟨w.heap.size, 3, none⟩ = some (.int .i64 tail) :=
    fun t => ⟨t.cell (by simp [go_sem]), t.cell (by simp [go_sem]), t.cell (by simp [go_sem]), t.cell (by simp [go_sem])⟩
  cases e1 : inB base 0 130944
  · go_enter Try.func119, Try.ntmps119
    go_wp2
    refine wp_region_ext_lit (by kernel_rfl) (by kernel_rfl) ?_
    repeat (go_big_quiet_step ((first | (go_at_call 121; exact ext_same (calls_bool (l01In_c _ _ _ _) (by assumption))) | (go_at_call 145; exact ext_same (calls_bool (l20Size_c _ _) (by assumption))) | (go_at_call 142; exact ext_call (specRingUsed_c _ _ _ _ _ ⟨by assumption, by assumption⟩ ⟨by assumption, by assumption⟩)))))
    refine wpQuiet_nil ?_
    intro _ hw'
    obtain ⟨tq, hw''⟩ := hw'
    subst hw''
    go_wp2
    go_ret
    exact ⟨ret_bool (by simp [ringB, e1]), ext_step (by go_grown) (by go_size) tq.below⟩
  · cases e2 : szB size
    · go_enter Try.func119, Try.ntmps119
      go_wp2
      refine wp_region_ext_lit (by kernel_rfl) (by kernel_rfl) ?_
      repeat (go_big_quiet_step ((first | (go_at_call 121; exact ext_same (calls_bool (l01In_c _ _ _ _) (by assumption))) | (go_at_call 145; exact ext_same (calls_bool (l20Size_c _ _) (by assumption))) | (go_at_call 142; exact ext_call (specRingUsed_c _ _ _ _ _ ⟨by assumption, by assumption⟩ ⟨by assumption, by assumption⟩)))))
      refine wpQuiet_nil ?_
      intro _ hw'
      obtain ⟨tq, hw''⟩ := hw'
      subst hw''
      go_wp2
      go_ret
      exact ⟨ret_bool (by simp [ringB, e1, e2]), ext_step (by go_grown) (by go_size) tq.below⟩
    · obtain ⟨b1, b2⟩ := szB_bd e2
      cases e3 : inB head 0 (2 * size - 1)
      · go_enter Try.func119, Try.ntmps119
        go_wp2
        refine wp_region_ext_lit (by kernel_rfl) (by kernel_rfl) ?_
        repeat (go_big_quiet_step ((first | (go_at_call 121; exact ext_same (calls_bool (l01In_c _ _ _ _) (by assumption))) | (go_at_call 145; exact ext_same (calls_bool (l20Size_c _ _) (by assumption))) | (go_at_call 142; exact ext_call (specRingUsed_c _ _ _ _ _ ⟨by assumption, by assumption⟩ ⟨by assumption, by assumption⟩)))))
        refine wpQuiet_nil ?_
        intro _ hw'
        obtain ⟨tq, hw''⟩ := hw'
        subst hw''
        go_wp2
        go_ret
        exact ⟨ret_bool (by simp [ringB, e1, e2, e3]), ext_step (by go_grown) (by go_size) tq.below⟩
      · cases e4 : inB tail 0 (2 * size - 1)
        · go_enter Try.func119, Try.ntmps119
          go_wp2
          refine wp_region_ext_lit (by kernel_rfl) (by kernel_rfl) ?_
          repeat (go_big_quiet_step ((first | (go_at_call 121; exact ext_same (calls_bool (l01In_c _ _ _ _) (by assumption))) | (go_at_call 145; exact ext_same (calls_bool (l20Size_c _ _) (by assumption))) | (go_at_call 142; exact ext_call (specRingUsed_c _ _ _ _ _ ⟨by assumption, by assumption⟩ ⟨by assumption, by assumption⟩)))))
          refine wpQuiet_nil ?_
          intro _ hw'
          obtain ⟨tq, hw''⟩ := hw'
          subst hw''
          go_wp2
          go_ret
          exact ⟨ret_bool (by simp [ringB, e1, e2, e3, e4]), ext_step (by go_grown) (by go_size) tq.below⟩
        · go_enter Try.func119, Try.ntmps119
          go_wp2
          refine wp_region_ext_lit (by kernel_rfl) (by kernel_rfl) ?_
          repeat (go_big_quiet_step ((first | (go_at_call 121; exact ext_same (calls_bool (l01In_c _ _ _ _) (by assumption))) | (go_at_call 145; exact ext_same (calls_bool (l20Size_c _ _) (by assumption))) | (go_at_call 142; exact ext_call (specRingUsed_c _ _ _ _ _ ⟨by assumption, by assumption⟩ ⟨by assumption, by assumption⟩)))))
          refine wpQuiet_nil ?_
          intro _ hw'
          obtain ⟨tq, hw''⟩ := hw'
          subst hw''
          go_wp2
          go_ret
          exact ⟨ret_bool (by simp [ringB, e1, e2, e3, e4]), ext_step (by go_grown) (by go_size) tq.below⟩
/-- How many entries a ring has room for. -/
def freeI (base size head tail : Int) : Int := if ringB base size head tail then size - usedI size head tail else 0
theorem ringB_size {base size head tail : Int} (h : ringB base size head tail = true) : 2 ≤ size ∧ size ≤ 16 ∧ 0 ≤ base ∧ base ≤ 130944 ∧ 0 ≤ head ∧ head < 32 ∧ 0 ≤ tail ∧ tail < 32 ∧ usedI size head tail ≤ size := by
  simp only [ringB, Bool.and_eq_true, inB, decide_eq_true_eq] at h
  obtain ⟨⟨⟨⟨h1, h2⟩, h3⟩, h4⟩, h5⟩ := h
  have := szB_bd h2
  omega
set_option maxHeartbeats 2000000 in
theorem implRingFree_c (base size head tail : Int) (w : World) (h1 : I64 head) (h2 : I64 tail) :
    Calls Try.prog 56 #[.agg #[.int .i64 base, .int .i64 size, .int .i64 head, .int .i64 tail]] w fun e w' => e = .returned (.int .i64 (freeI base size head tail)) ∧ Below w.heap.size w w' := by
  have hu := usedI_bd size head tail
  obtain ⟨hu1, hu2⟩ := hu
  cases hok : ringB base size head tail
  · go_enter Try.func56, Try.ntmps56
    go_wp2_with (go_at_call 57; refine (calls_bool (implRingOk_c _ _ _ _ _ h1 h2) hok).mono ?_; rintro e w1 ⟨rfl, hb⟩; have hk : Below w.heap.size w w1 := ext_step (by go_grown) (by go_size) hb; have hz : w.heap.size < w1.heap.size := Nat.lt_of_lt_of_le (by go_size) hb.size; have hcs : w1.cell? ⟨w.heap.size, 0, none⟩ = some (.int .i64 base) ∧ w1.cell? ⟨w.heap.size, 1, none⟩ = some (.int .i64 size) ∧ w1.cell? ⟨w.heap.size, 2, none⟩ = some (.int .i64 head) ∧ w1.cell? ⟨w.heap.size, 3, none⟩ = some (.int .i64 tail) := ⟨(hb.cell (by go_size)).trans (by first | assumption | simp [go_sem]), (hb.cell (by go_size)).trans (by first | assumption | simp [go_sem]), (hb.cell (by go_size)).trans (by first | assumption | simp [go_sem]), (hb.cell (by go_size)).trans (by first | assumption | simp [go_sem])⟩; obtain ⟨hc0, hc1, hc2, hc3⟩ := hcs; clear hb)
    go_ret
    exact ⟨ret_int (by simp [freeI, hok]), hk⟩
  · have hsz := ringB_size hok
    go_enter Try.func56, Try.ntmps56
    go_wp2_with (go_at_call 57; refine (calls_bool (implRingOk_c _ _ _ _ _ h1 h2) hok).mono ?_; rintro e w1 ⟨rfl, hb⟩; have hk : Below w.heap.size w w1 := ext_step (by go_grown) (by go_size) hb; have hz : w.heap.size < w1.heap.size := Nat.lt_of_lt_of_le (by go_size) hb.size; have hcs : w1.cell? ⟨w.heap.size, 0, none⟩ = some (.int .i64 base) ∧ w1.cell? ⟨w.heap.size, 1, none⟩ = some (.int .i64 size) ∧ w1.cell? ⟨w.heap.size, 2, none⟩ = some (.int .i64 head) ∧ w1.cell? ⟨w.heap.size, 3, none⟩ = some (.int .i64 tail) := ⟨(hb.cell (by go_size)).trans (by first | assumption | simp [go_sem]), (hb.cell (by go_size)).trans (by first | assumption | simp [go_sem]), (hb.cell (by go_size)).trans (by first | assumption | simp [go_sem]), (hb.cell (by go_size)).trans (by first | assumption | simp [go_sem])⟩; obtain ⟨hc0, hc1, hc2, hc3⟩ := hcs; clear hb; have hx : ∀ t : Ext w1, t.wd.cell? ⟨w.heap.size, 0, none⟩ = some (.int .i64 base) ∧ t.wd.cell? ⟨w.heap.size, 1, none⟩ = some (.int .i64 size) ∧ t.wd.cell? ⟨w.heap.size, 2, none⟩ = some (.int .i64 head) ∧ t.wd.cell? ⟨w.heap.size, 3, none⟩ = some (.int .i64 tail) := fun t => ⟨t.cell hc0, t.cell hc1, t.cell hc2, t.cell hc3⟩)
    refine wp_region_ext_lit (by kernel_rfl) (by kernel_rfl) ?_
    repeat (go_big_quiet_step ((go_at_call 55; exact ext_call (implRingUsed_c _ _ _ _ _ h1 h2))))
    refine wpQuiet_nil ?_
    intro _ hw'
    obtain ⟨tq, hw''⟩ := hw'
    subst hw''
    go_wp2
    go_ret
    exact ⟨ret_int (by simp [freeI, hok]), ext_step hk (by go_size) tq.below⟩
set_option maxHeartbeats 2000000 in
theorem specRingFree_c (base size head tail : Int) (w : World) (h1 : I64 head) (h2 : I64 tail) :
    Calls Try.prog 109 #[.agg #[.int .i64 base, .int .i64 size, .int .i64 head, .int .i64 tail]] w fun e w' => e = .returned (.int .i64 (freeI base size head tail)) ∧ Below w.heap.size w w' := by
  have hu := usedI_bd size head tail
  obtain ⟨hu1, hu2⟩ := hu
  cases hok : ringB base size head tail
  · go_enter Try.func109, Try.ntmps109
    go_wp2_with (go_at_call 119; refine (calls_bool (specRingOk_c _ _ _ _ _ h1 h2) hok).mono ?_; rintro e w1 ⟨rfl, hb⟩; have hk : Below w.heap.size w w1 := ext_step (by go_grown) (by go_size) hb; have hz : w.heap.size < w1.heap.size := Nat.lt_of_lt_of_le (by go_size) hb.size; have hcs : w1.cell? ⟨w.heap.size, 0, none⟩ = some (.int .i64 base) ∧ w1.cell? ⟨w.heap.size, 1, none⟩ = some (.int .i64 size) ∧ w1.cell? ⟨w.heap.size, 2, none⟩ = some (.int .i64 head) ∧ w1.cell? ⟨w.heap.size, 3, none⟩ = some (.int .i64 tail) := ⟨(hb.cell (by go_size)).trans (by first | assumption | simp [go_sem]), (hb.cell (by go_size)).trans (by first | assumption | simp [go_sem]), (hb.cell (by go_size)).trans (by first | assumption | simp [go_sem]), (hb.cell (by go_size)).trans (by first | assumption | simp [go_sem])⟩; obtain ⟨hc0, hc1, hc2, hc3⟩ := hcs; clear hb)
    go_ret
    exact ⟨ret_int (by simp [freeI, hok]), hk⟩
  · have hsz := ringB_size hok
    go_enter Try.func109, Try.ntmps109
    go_wp2_with (go_at_call 119; refine (calls_bool (specRingOk_c _ _ _ _ _ h1 h2) hok).mono ?_; rintro e w1 ⟨rfl, hb⟩; have hk : Below w.heap.size w w1 := ext_step (by go_grown) (by go_size) hb; have hz : w.heap.size < w1.heap.size := Nat.lt_of_lt_of_le (by go_size) hb.size; have hcs : w1.cell? ⟨w.heap.size, 0, none⟩ = some (.int .i64 base) ∧ w1.cell? ⟨w.heap.size, 1, none⟩ = some (.int .i64 size) ∧ w1.cell? ⟨w.heap.size, 2, none⟩ = some (.int .i64 head) ∧ w1.cell? ⟨w.heap.size, 3, none⟩ = some (.int .i64 tail) := ⟨(hb.cell (by go_size)).trans (by first | assumption | simp [go_sem]), (hb.cell (by go_size)).trans (by first | assumption | simp [go_sem]), (hb.cell (by go_size)).trans (by first | assumption | simp [go_sem]), (hb.cell (by go_size)).trans (by first | assumption | simp [go_sem])⟩; obtain ⟨hc0, hc1, hc2, hc3⟩ := hcs; clear hb; have hx : ∀ t : Ext w1, t.wd.cell? ⟨w.heap.size, 0, none⟩ = some (.int .i64 base) ∧ t.wd.cell? ⟨w.heap.size, 1, none⟩ = some (.int .i64 size) ∧ t.wd.cell? ⟨w.heap.size, 2, none⟩ = some (.int .i64 head) ∧ t.wd.cell? ⟨w.heap.size, 3, none⟩ = some (.int .i64 tail) := fun t => ⟨t.cell hc0, t.cell hc1, t.cell hc2, t.cell hc3⟩)
    refine wp_region_ext_lit (by kernel_rfl) (by kernel_rfl) ?_
    repeat (go_big_quiet_step ((go_at_call 142; exact ext_call (specRingUsed_c _ _ _ _ _ h1 h2))))
    refine wpQuiet_nil ?_
    intro _ hw'
    obtain ⟨tq, hw''⟩ := hw'
    subst hw''
    go_wp2
    go_ret
    exact ⟨ret_int (by simp [freeI, hok]), ext_step hk (by go_size) tq.below⟩
set_option maxHeartbeats 400000 in
theorem toRing_c (base size head tail : Int) (w : World) :
    Calls Try.prog 123 #[.agg #[.int .i64 base, .int .i64 size, .int .i64 head, .int .i64 tail]] w fun e w' => e = .returned (.agg #[.int .i64 base, .int .i64 size, .int .i64 head, .int .i64 tail]) ∧ Below w.heap.size w w' := by
  go_enter Try.func123, Try.ntmps123
  go_wp2
  go_returns
  exact ⟨rfl, by go_grown⟩
end Go.Proofs.Ytnnlagmgdfhaiaa
