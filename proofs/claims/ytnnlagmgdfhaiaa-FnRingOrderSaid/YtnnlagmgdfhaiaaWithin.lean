/- Contracts of impl.within, spec.l16Within. -/
import Derived.Test.YtnnlagmgdfhaiaaMemOk
namespace Go.Proofs.Ytnnlagmgdfhaiaa
set_option linter.unusedSimpArgs false
set_option linter.unusedVariables false
open Go.RowKit Go.ChangeShapes Go.WideShapes
/-- Whether n bytes from at on exist. -/
def withB (l : List ByteArray) (at_ n : Int) : Bool := memB l && (decide (0 ≤ n) && (decide (n ≤ 128 * (l.length : Int)) && (decide (0 ≤ at_) && decide (at_ ≤ 128 * (l.length : Int) - n))))
theorem memB_len {l : List ByteArray} (h : memB l = true) : l.length ≤ 64 := by
  simp only [memB, Bool.and_eq_true, decide_eq_true_eq] at h
  exact h.2
theorem memB_el {l : List ByteArray} (h : memB l = true) {k : Nat} {x : ByteArray} (hx : l[k]? = some x) : x.size = 128 := by
  simp only [memB, Bool.and_eq_true, List.all_eq_true, decide_eq_true_eq] at h
  exact h.1 x (List.mem_of_getElem? hx)
theorem withB_t {l : List ByteArray} {at_ n : Int} (h : withB l at_ n = true) : memB l = true ∧ 0 ≤ n ∧ 0 ≤ at_ ∧ at_ + n ≤ 128 * (l.length : Int) := by
  simp only [withB, Bool.and_eq_true, decide_eq_true_eq] at h
  obtain ⟨h1, h2, h3, h4, h5⟩ := h
  exact ⟨h1, h2, h4, by omega⟩
set_option maxHeartbeats 2000000 in
theorem implWithin_c (A : Option Addr) (n c : Nat) (l : List ByteArray) (w : World) (hn : l.length = n) (hm : n ≤ 140737488355328) (hr : Reads w w.heap.size 1 A n (l.flatMap fun x : ByteArray => [Value.string x])) (at_ x : Int) (h1 : I64 at_) (h2 : I64 x) :
    Calls Try.prog 86 #[.agg #[.slice A n c], .int .i64 at_, .int .i64 x] w fun e w' => e = .returned (.bool (withB l at_ x)) ∧ Below w.heap.size w w' := by
  cases e1 : memB l
  · go_enter Try.func86, Try.ntmps86
    go_wp2_with (go_at_call 28; refine (calls_bool (implMemoryOk_c _ _ _ l _ hn hm (hr.to (by go_grown))) (by assumption)).mono ?_; rintro e w1 ⟨rfl, hb⟩; obtain ⟨c0, f0, z0⟩ := own_cell hb (b := w.heap.size) (o := 0) (v := .slice A n c) (by simp [go_sem]) (by simp [go_sem]); have hk : Below w.heap.size w w1 := ext_step (by go_grown) (by go_size) hb; clear hb)
    all_goals go_ret
    all_goals exact ⟨ret_bool (by simp [withB, hn, e1]), hk⟩
  · by_cases e2 : 0 ≤ x
    · by_cases e3 : x ≤ 128 * (n : Int)
      · by_cases e4 : 0 ≤ at_
        · by_cases e5 : at_ ≤ 128 * (n : Int) - x
          · go_enter Try.func86, Try.ntmps86
            go_wp2_with (go_at_call 28; refine (calls_bool (implMemoryOk_c _ _ _ l _ hn hm (hr.to (by go_grown))) (by assumption)).mono ?_; rintro e w1 ⟨rfl, hb⟩; obtain ⟨c0, f0, z0⟩ := own_cell hb (b := w.heap.size) (o := 0) (v := .slice A n c) (by simp [go_sem]) (by simp [go_sem]); have hk : Below w.heap.size w w1 := ext_step (by go_grown) (by go_size) hb; clear hb)
            all_goals go_ret
            all_goals exact ⟨ret_bool (by rw [withB, hn, e1]; apply Bool.eq_iff_iff.2; simp only [Bool.true_and, Bool.and_eq_true, decide_eq_true_eq, Bool.false_eq_true, false_iff, true_iff, eq_self]; omega), hk⟩
          · go_enter Try.func86, Try.ntmps86
            go_wp2_with (go_at_call 28; refine (calls_bool (implMemoryOk_c _ _ _ l _ hn hm (hr.to (by go_grown))) (by assumption)).mono ?_; rintro e w1 ⟨rfl, hb⟩; obtain ⟨c0, f0, z0⟩ := own_cell hb (b := w.heap.size) (o := 0) (v := .slice A n c) (by simp [go_sem]) (by simp [go_sem]); have hk : Below w.heap.size w w1 := ext_step (by go_grown) (by go_size) hb; clear hb)
            all_goals go_ret
            all_goals exact ⟨ret_bool (by rw [withB, hn, e1]; apply Bool.eq_iff_iff.2; simp only [Bool.true_and, Bool.and_eq_true, decide_eq_true_eq, Bool.false_eq_true, false_iff, true_iff, eq_self]; omega), hk⟩
        · go_enter Try.func86, Try.ntmps86
          go_wp2_with (go_at_call 28; refine (calls_bool (implMemoryOk_c _ _ _ l _ hn hm (hr.to (by go_grown))) (by assumption)).mono ?_; rintro e w1 ⟨rfl, hb⟩; obtain ⟨c0, f0, z0⟩ := own_cell hb (b := w.heap.size) (o := 0) (v := .slice A n c) (by simp [go_sem]) (by simp [go_sem]); have hk : Below w.heap.size w w1 := ext_step (by go_grown) (by go_size) hb; clear hb)
          all_goals go_ret
          all_goals exact ⟨ret_bool (by rw [withB, hn, e1]; apply Bool.eq_iff_iff.2; simp only [Bool.true_and, Bool.and_eq_true, decide_eq_true_eq, Bool.false_eq_true, false_iff, true_iff, eq_self]; omega), hk⟩
      · go_enter Try.func86, Try.ntmps86
        go_wp2_with (go_at_call 28; refine (calls_bool (implMemoryOk_c _ _ _ l _ hn hm (hr.to (by go_grown))) (by assumption)).mono ?_; rintro e w1 ⟨rfl, hb⟩; obtain ⟨c0, f0, z0⟩ := own_cell hb (b := w.heap.size) (o := 0) (v := .slice A n c) (by simp [go_sem]) (by simp [go_sem]); have hk : Below w.heap.size w w1 := ext_step (by go_grown) (by go_size) hb; clear hb)
        all_goals go_ret
        all_goals exact ⟨ret_bool (by rw [withB, hn, e1]; apply Bool.eq_iff_iff.2; simp only [Bool.true_and, Bool.and_eq_true, decide_eq_true_eq, Bool.false_eq_true, false_iff, true_iff, eq_self]; omega), hk⟩
    · go_enter Try.func86, Try.ntmps86
      go_wp2_with (go_at_call 28; refine (calls_bool (implMemoryOk_c _ _ _ l _ hn hm (hr.to (by go_grown))) (by assumption)).mono ?_; rintro e w1 ⟨rfl, hb⟩; obtain ⟨c0, f0, z0⟩ := own_cell hb (b := w.heap.size) (o := 0) (v := .slice A n c) (by simp [go_sem]) (by simp [go_sem]); have hk : Below w.heap.size w w1 := ext_step (by go_grown) (by go_size) hb; clear hb)
      all_goals go_ret
      all_goals exact ⟨ret_bool (by rw [withB, hn, e1]; apply Bool.eq_iff_iff.2; simp only [Bool.true_and, Bool.and_eq_true, decide_eq_true_eq, Bool.false_eq_true, false_iff, true_iff, eq_self]; omega), hk⟩
set_option maxHeartbeats 2000000 in
theorem specWithin_c (A : Option Addr) (n c : Nat) (l : List ByteArray) (w : World) (hn : l.length = n) (hm : n ≤ 140737488355328) (hr : Reads w w.heap.size 1 A n (l.flatMap fun x : ByteArray => [Value.string x])) (at_ x : Int) (h1 : I64 at_) (h2 : I64 x) :
    Calls Try.prog 88 #[.agg #[.slice A n c], .int .i64 at_, .int .i64 x] w fun e w' => e = .returned (.bool (withB l at_ x)) ∧ Below w.heap.size w w' := by
  cases e1 : memB l
  · go_enter Try.func88, Try.ntmps88
    go_wp2_with (go_at_call 138; refine (calls_bool (specMemoryOk_c _ _ _ l _ hn hm (hr.to (by go_grown))) (by assumption)).mono ?_; rintro e w1 ⟨rfl, hb⟩; obtain ⟨c0, f0, z0⟩ := own_cell hb (b := w.heap.size) (o := 0) (v := .slice A n c) (by simp [go_sem]) (by simp [go_sem]); have hk : Below w.heap.size w w1 := ext_step (by go_grown) (by go_size) hb; clear hb)
    all_goals go_ret
    all_goals exact ⟨ret_bool (by simp [withB, hn, e1]), hk⟩
  · by_cases e2 : 0 ≤ x
    · by_cases e3 : x ≤ 128 * (n : Int)
      · by_cases e4 : 0 ≤ at_
        · by_cases e5 : at_ ≤ 128 * (n : Int) - x
          · go_enter Try.func88, Try.ntmps88
            go_wp2_with (go_at_call 138; refine (calls_bool (specMemoryOk_c _ _ _ l _ hn hm (hr.to (by go_grown))) (by assumption)).mono ?_; rintro e w1 ⟨rfl, hb⟩; obtain ⟨c0, f0, z0⟩ := own_cell hb (b := w.heap.size) (o := 0) (v := .slice A n c) (by simp [go_sem]) (by simp [go_sem]); have hk : Below w.heap.size w w1 := ext_step (by go_grown) (by go_size) hb; clear hb)
            all_goals go_ret
            all_goals exact ⟨ret_bool (by rw [withB, hn, e1]; apply Bool.eq_iff_iff.2; simp only [Bool.true_and, Bool.and_eq_true, decide_eq_true_eq, Bool.false_eq_true, false_iff, true_iff, eq_self]; omega), hk⟩
          · go_enter Try.func88, Try.ntmps88
            go_wp2_with (go_at_call 138; refine (calls_bool (specMemoryOk_c _ _ _ l _ hn hm (hr.to (by go_grown))) (by assumption)).mono ?_; rintro e w1 ⟨rfl, hb⟩; obtain ⟨c0, f0, z0⟩ := own_cell hb (b := w.heap.size) (o := 0) (v := .slice A n c) (by simp [go_sem]) (by simp [go_sem]); have hk : Below w.heap.size w w1 := ext_step (by go_grown) (by go_size) hb; clear hb)
            all_goals go_ret
            all_goals exact ⟨ret_bool (by rw [withB, hn, e1]; apply Bool.eq_iff_iff.2; simp only [Bool.true_and, Bool.and_eq_true, decide_eq_true_eq, Bool.false_eq_true, false_iff, true_iff, eq_self]; omega), hk⟩
        · go_enter Try.func88, Try.ntmps88
          go_wp2_with (go_at_call 138; refine (calls_bool (specMemoryOk_c _ _ _ l _ hn hm (hr.to (by go_grown))) (by assumption)).mono ?_; rintro e w1 ⟨rfl, hb⟩; obtain ⟨c0, f0, z0⟩ := own_cell hb (b := w.heap.size) (o := 0) (v := .slice A n c) (by simp [go_sem]) (by simp [go_sem]); have hk : Below w.heap.size w w1 := ext_step (by go_grown) (by go_size) hb; clear hb)
          all_goals go_ret
          all_goals exact ⟨ret_bool (by rw [withB, hn, e1]; apply Bool.eq_iff_iff.2; simp only [Bool.true_and, Bool.and_eq_true, decide_eq_true_eq, Bool.false_eq_true, false_iff, true_iff, eq_self]; omega), hk⟩
      · go_enter Try.func88, Try.ntmps88
        go_wp2_with (go_at_call 138; refine (calls_bool (specMemoryOk_c _ _ _ l _ hn hm (hr.to (by go_grown))) (by assumption)).mono ?_; rintro e w1 ⟨rfl, hb⟩; obtain ⟨c0, f0, z0⟩ := own_cell hb (b := w.heap.size) (o := 0) (v := .slice A n c) (by simp [go_sem]) (by simp [go_sem]); have hk : Below w.heap.size w w1 := ext_step (by go_grown) (by go_size) hb; clear hb)
        all_goals go_ret
        all_goals exact ⟨ret_bool (by rw [withB, hn, e1]; apply Bool.eq_iff_iff.2; simp only [Bool.true_and, Bool.and_eq_true, decide_eq_true_eq, Bool.false_eq_true, false_iff, true_iff, eq_self]; omega), hk⟩
    · go_enter Try.func88, Try.ntmps88
      go_wp2_with (go_at_call 138; refine (calls_bool (specMemoryOk_c _ _ _ l _ hn hm (hr.to (by go_grown))) (by assumption)).mono ?_; rintro e w1 ⟨rfl, hb⟩; obtain ⟨c0, f0, z0⟩ := own_cell hb (b := w.heap.size) (o := 0) (v := .slice A n c) (by simp [go_sem]) (by simp [go_sem]); have hk : Below w.heap.size w w1 := ext_step (by go_grown) (by go_size) hb; clear hb)
      all_goals go_ret
      all_goals exact ⟨ret_bool (by rw [withB, hn, e1]; apply Bool.eq_iff_iff.2; simp only [Bool.true_and, Bool.and_eq_true, decide_eq_true_eq, Bool.false_eq_true, false_iff, true_iff, eq_self]; omega), hk⟩
end Go.Proofs.Ytnnlagmgdfhaiaa
