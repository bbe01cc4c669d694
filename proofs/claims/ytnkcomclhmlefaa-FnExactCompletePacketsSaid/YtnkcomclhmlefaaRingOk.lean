/- Contracts of RingOk, RingFree, SlotAddress: impl and spec; of laws.toRing. -/
import Derived.Test.YtnkcomclhmlefaaRing
namespace Go.Proofs.Ytnkcomclhmlefaa
set_option linter.unusedSimpArgs false
set_option linter.unusedVariables false
open Go.RowKit Go.ChangeShapes Go.WideShapes
theorem szB_bd {n : Int} (h : szB n = true) : 2 ≤ n ∧ n ≤ 16 := by rcases (szB_iff n).1 h with rfl | rfl | rfl | rfl <;> omega
set_option maxHeartbeats 2000000 in
theorem implRingOk_c (base size head tail : Int) (w : World) (h1 : I64 head) (h2 : I64 tail) :
    Calls Try.prog 26 #[.agg #[.int .i64 base, .int .i64 size, .int .i64 head, .int .i64 tail]] w fun e w' => e = .returned (.bool (ringB base size head tail)) ∧ Below w.heap.size w w' := by
  obtain ⟨hd1, hd2⟩ := h1
  obtain ⟨ht1, ht2⟩ := h2
  have hx : ∀ t : Ext (w.alloc (.cells #[.int .i64 base, .int .i64 size, .int .i64 head, .int .i64 tail] 32)), t.wd.cell? ⟨w.heap.size, 0, none⟩ = some (.int .i64 base) ∧ t.wd.cell? ⟨w.heap.size, 1, none⟩ = some (.int .i64 size) ∧ t.wd.cell? ⟨w.heap.size, 2, none⟩ = some (.int .i64 head) ∧ t.wd.cell? ⟨w.heap.size, 3, none⟩ = some (.int .i64 tail) :=
    fun t => ⟨t.cell (by simp [go_sem]), t.cell (by simp [go_sem]), t.cell (by simp [go_sem]), t.cell (by simp [go_sem])⟩
  cases e1 : inB base 0 130944
  · go_enter Try.func26, Try.ntmps26
    go_wp2
    refine wp_region_ext_lit (by kernel_rfl) (by kernel_rfl) ?_
    repeat (go_big_quiet_step ((first | (go_at_call 28; exact ext_same (calls_bool (between_c _ _ _ _) (by assumption))) | (go_at_call 47; exact ext_same (calls_bool (ringSize_c _ _) (by assumption))) | (go_at_call 48; exact ext_call (implRingUsed_c _ _ _ _ _ ⟨by assumption, by assumption⟩ ⟨by assumption, by assumption⟩)))))
    refine wpQuiet_nil ?_
    intro _ hw'
    obtain ⟨tq, hw''⟩ := hw'
    subst hw''
    go_wp2
    go_ret
    exact ⟨ret_bool (by simp [ringB, e1]), ext_step (by go_grown) (by go_size) tq.below⟩
  · cases e2 : szB size
    · go_enter Try.func26, Try.ntmps26
      go_wp2
      refine wp_region_ext_lit (by kernel_rfl) (by kernel_rfl) ?_
      repeat (go_big_quiet_step ((first | (go_at_call 28; exact ext_same (calls_bool (between_c _ _ _ _) (by assumption))) | (go_at_call 47; exact ext_same (calls_bool (ringSize_c _ _) (by assumption))) | (go_at_call 48; exact ext_call (implRingUsed_c _ _ _ _ _ ⟨by assumption, by assumption⟩ ⟨by assumption, by assumption⟩)))))
      refine wpQuiet_nil ?_
      intro _ hw'
      obtain ⟨tq, hw''⟩ := hw'
      subst hw''
      go_wp2
      go_ret
      exact ⟨ret_bool (by simp [ringB, e1, e2]), ext_step (by go_grown) (by go_size) tq.below⟩
    · obtain ⟨b1, b2⟩ := szB_bd e2
      cases e3 : inB head 0 (2 * size - 1)
      · go_enter Try.func26, Try.ntmps26
        go_wp2
        refine wp_region_ext_lit (by kernel_rfl) (by kernel_rfl) ?_
        repeat (go_big_quiet_step ((first | (go_at_call 28; exact ext_same (calls_bool (between_c _ _ _ _) (by assumption))) | (go_at_call 47; exact ext_same (calls_bool (ringSize_c _ _) (by assumption))) | (go_at_call 48; exact ext_call (implRingUsed_c _ _ _ _ _ ⟨by assumption, by assumption⟩ ⟨by assumption, by assumption⟩)))))
        refine wpQuiet_nil ?_
        intro _ hw'
        obtain ⟨tq, hw''⟩ := hw'
        subst hw''
        go_wp2
        go_ret
        exact ⟨ret_bool (by simp [ringB, e1, e2, e3]), ext_step (by go_grown) (by go_size) tq.below⟩
      · cases e4 : inB tail 0 (2 * size - 1)
        · go_enter Try.func26, Try.ntmps26
          go_wp2
          refine wp_region_ext_lit (by kernel_rfl) (by kernel_rfl) ?_
          repeat (go_big_quiet_step ((first | (go_at_call 28; exact ext_same (calls_bool (between_c _ _ _ _) (by assumption))) | (go_at_call 47; exact ext_same (calls_bool (ringSize_c _ _) (by assumption))) | (go_at_call 48; exact ext_call (implRingUsed_c _ _ _ _ _ ⟨by assumption, by assumption⟩ ⟨by assumption, by assumption⟩)))))
          refine wpQuiet_nil ?_
          intro _ hw'
          obtain ⟨tq, hw''⟩ := hw'
          subst hw''
          go_wp2
          go_ret
          exact ⟨ret_bool (by simp [ringB, e1, e2, e3, e4]), ext_step (by go_grown) (by go_size) tq.below⟩
        · go_enter Try.func26, Try.ntmps26
          go_wp2
          refine wp_region_ext_lit (by kernel_rfl) (by kernel_rfl) ?_
          repeat (go_big_quiet_step ((first | (go_at_call 28; exact ext_same (calls_bool (between_c _ _ _ _) (by assumption))) | (go_at_call 47; exact ext_same (calls_bool (ringSize_c _ _) (by assumption))) | (go_at_call 48; exact ext_call (implRingUsed_c _ _ _ _ _ ⟨by assumption, by assumption⟩ ⟨by assumption, by assumption⟩)))))
          refine wpQuiet_nil ?_
          intro _ hw'
          obtain ⟨tq, hw''⟩ := hw'
          subst hw''
          go_wp2
          go_ret
          exact ⟨ret_bool (by simp [ringB, e1, e2, e3, e4]), ext_step (by go_grown) (by go_size) tq.below⟩
set_option maxHeartbeats 2000000 in
theorem specRingOk_c (base size head tail : Int) (w : World) (h1 : I64 head) (h2 : I64 tail) :
    Calls Try.prog 19 #[.agg #[.int .i64 base, .int .i64 size, .int .i64 head, .int .i64 tail]] w fun e w' => e = .returned (.bool (ringB base size head tail)) ∧ Below w.heap.size w w' := by
  obtain ⟨hd1, hd2⟩ := h1
  obtain ⟨ht1, ht2⟩ := h2
  have hx : ∀ t : Ext (w.alloc (.cells #[.int .i64 base, .int .i64 size, .int .i64 head, .int .i64 tail] 32)), t.wd.cell? ⟨w.heap.size, 0, none⟩ = some (.int .i64 base) ∧ t.wd.cell? ⟨w.heap.size, 1, none⟩ = some (.int .i64 size) ∧ t.wd.cell? ⟨w.heap.size, 2, none⟩ = some (.int .i64 head) ∧ t.wd.cell? ⟨w.heap.size, 3, none⟩ = some (.int .i64 tail) :=
    fun t => ⟨t.cell (by simp [go_sem]), t.cell (by simp [go_sem]), t.cell (by simp [go_sem]), t.cell (by simp [go_sem])⟩
  cases e1 : inB base 0 130944
  · go_enter Try.func19, Try.ntmps19
    go_wp2
    refine wp_region_ext_lit (by kernel_rfl) (by kernel_rfl) ?_
    repeat (go_big_quiet_step ((first | (go_at_call 21; exact ext_same (calls_bool (l01In_c _ _ _ _) (by assumption))) | (go_at_call 42; exact ext_same (calls_bool (l20Size_c _ _) (by assumption))) | (go_at_call 43; exact ext_call (specRingUsed_c _ _ _ _ _ ⟨by assumption, by assumption⟩ ⟨by assumption, by assumption⟩)))))
    refine wpQuiet_nil ?_
    intro _ hw'
    obtain ⟨tq, hw''⟩ := hw'
    subst hw''
    go_wp2
    go_ret
    exact ⟨ret_bool (by simp [ringB, e1]), ext_step (by go_grown) (by go_size) tq.below⟩
  · cases e2 : szB size
    · go_enter Try.func19, Try.ntmps19
      go_wp2
      refine wp_region_ext_lit (by kernel_rfl) (by kernel_rfl) ?_
      repeat (go_big_quiet_step ((first | (go_at_call 21; exact ext_same (calls_bool (l01In_c _ _ _ _) (by assumption))) | (go_at_call 42; exact ext_same (calls_bool (l20Size_c _ _) (by assumption))) | (go_at_call 43; exact ext_call (specRingUsed_c _ _ _ _ _ ⟨by assumption, by assumption⟩ ⟨by assumption, by assumption⟩)))))
      refine wpQuiet_nil ?_
      intro _ hw'
      obtain ⟨tq, hw''⟩ := hw'
      subst hw''
      go_wp2
      go_ret
      exact ⟨ret_bool (by simp [ringB, e1, e2]), ext_step (by go_grown) (by go_size) tq.below⟩
    · obtain ⟨b1, b2⟩ := szB_bd e2
      cases e3 : inB head 0 (2 * size - 1)
      · go_enter Try.func19, Try.ntmps19
        go_wp2
        refine wp_region_ext_lit (by kernel_rfl) (by kernel_rfl) ?_
        repeat (go_big_quiet_step ((first | (go_at_call 21; exact ext_same (calls_bool (l01In_c _ _ _ _) (by assumption))) | (go_at_call 42; exact ext_same (calls_bool (l20Size_c _ _) (by assumption))) | (go_at_call 43; exact ext_call (specRingUsed_c _ _ _ _ _ ⟨by assumption, by assumption⟩ ⟨by assumption, by assumption⟩)))))
        refine wpQuiet_nil ?_
        intro _ hw'
        obtain ⟨tq, hw''⟩ := hw'
        subst hw''
        go_wp2
        go_ret
        exact ⟨ret_bool (by simp [ringB, e1, e2, e3]), ext_step (by go_grown) (by go_size) tq.below⟩
      · cases e4 : inB tail 0 (2 * size - 1)
        · go_enter Try.func19, Try.ntmps19
          go_wp2
          refine wp_region_ext_lit (by kernel_rfl) (by kernel_rfl) ?_
          repeat (go_big_quiet_step ((first | (go_at_call 21; exact ext_same (calls_bool (l01In_c _ _ _ _) (by assumption))) | (go_at_call 42; exact ext_same (calls_bool (l20Size_c _ _) (by assumption))) | (go_at_call 43; exact ext_call (specRingUsed_c _ _ _ _ _ ⟨by assumption, by assumption⟩ ⟨by assumption, by assumption⟩)))))
          refine wpQuiet_nil ?_
          intro _ hw'
          obtain ⟨tq, hw''⟩ := hw'
          subst hw''
          go_wp2
          go_ret
          exact ⟨ret_bool (by simp [ringB, e1, e2, e3, e4]), ext_step (by go_grown) (by go_size) tq.below⟩
        · go_enter Try.func19, Try.ntmps19
          go_wp2
          refine wp_region_ext_lit (by kernel_rfl) (by kernel_rfl) ?_
          repeat (go_big_quiet_step ((first | (go_at_call 21; exact ext_same (calls_bool (l01In_c _ _ _ _) (by assumption))) | (go_at_call 42; exact ext_same (calls_bool (l20Size_c _ _) (by assumption))) | (go_at_call 43; exact ext_call (specRingUsed_c _ _ _ _ _ ⟨by assumption, by assumption⟩ ⟨by assumption, by assumption⟩)))))
          refine wpQuiet_nil ?_
          intro _ hw'
          obtain ⟨tq, hw''⟩ := hw'
          subst hw''
          go_wp2
          go_ret
          exact ⟨ret_bool (by simp [ringB, e1, e2, e3, e4]), ext_step (by go_grown) (by go_size) tq.below⟩
/-- How many entries a ring has room for. -/
def freeI (base size head tail : Int) : Int := if ringB base size head tail then size - usedI size head tail else 0
theorem ringB_size {base size head tail : Int} (h : ringB base size head tail = true) : 2 ≤ size ∧ size ≤ 16 ∧ 0 ≤ base ∧ base ≤ 130944 ∧ 0 ≤ head ∧ head < 32 ∧ 0 ≤ tail ∧ tail < 32 ∧ usedI size head tail ≤ size := by
  simp only [ringB, Bool.and_eq_true, inB, decide_eq_true_eq] at h
  obtain ⟨⟨⟨⟨h1, h2⟩, h3⟩, h4⟩, h5⟩ := h
  have := szB_bd h2
  omega
set_option maxHeartbeats 400000 in
theorem toRing_c (base size head tail : Int) (w : World) :
    Calls Try.prog 23 #[.agg #[.int .i64 base, .int .i64 size, .int .i64 head, .int .i64 tail]] w fun e w' => e = .returned (.agg #[.int .i64 base, .int .i64 size, .int .i64 head, .int .i64 tail]) ∧ Below w.heap.size w w' := by
  go_enter Try.func23, Try.ntmps23
  go_wp2
  go_returns
  exact ⟨rfl, by go_grown⟩
end Go.Proofs.Ytnkcomclhmlefaa
