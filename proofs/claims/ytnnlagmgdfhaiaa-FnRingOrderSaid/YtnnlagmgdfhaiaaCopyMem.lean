/- Contracts of copyStrings, copyMemory, spec.l16Copy. -/
import Derived.Test.YtnnlagmgdfhaiaaApp
import Derived.Test.YtnnlagmgdfhaiaaConvStr
namespace Go.Proofs.Ytnnlagmgdfhaiaa
set_option linter.unusedSimpArgs false
set_option linter.unusedVariables false
open Go.RowKit Go.ChangeShapes Go.WideShapes
set_option maxHeartbeats 2000000 in
/-- A copy of a slice is a row of the call's own. -/
theorem copyStrings_c (A : Option Addr) (n c : Nat) (l : List ByteArray) (w : World) (hn : l.length = n) (hm : n ≤ 2097152) (hr : Reads w w.heap.size 1 A n (l.flatMap (fun x : ByteArray => [Value.string x]))) :
    Calls Try.prog 137 #[.slice A n c] w fun e w' => ∃ v, e = .returned v ∧ w'.ownsRow w.heap.size 9 1 v n (l.flatMap (fun x : ByteArray => [Value.string x])) ∧ Below w.heap.size w w' := by
  obtain ⟨i0, hi, hz0, hz1, hz2⟩ := info_parts info_string
  have hr1 := hr.alloc (Nat.le_refl _) (.cells #[] 9)
  have ho1 := own_empty (Blk.new w 9 []) (Nat.le_refl _) (size := 1)
  go_enter Try.func137, Try.ntmps137
  go_wp2_with (at_builtin; refine wpList_append_any _ rfl _ _ 37 rfl w.heap.size 9 i0 (.string ByteArray.empty) 1 16 Try.underlying37 hi hz0 hz1 hz2 rfl (by decide) _ _ _ rfl ho1 _ A n _ ((l.flatMap (fun x : ByteArray => [Value.string x]))) rfl hr1 (one_flat fun x u hu => by simp [] at hu; subst hu; rfl) (by unfold maxLen; omega) (by omega) (by go_size) ?_; intro v1 w1 hown1 hg1 hat1)
  have hb1 : Below w.heap.size w w1 := below_app ((Below.refl _ _).alloc (Nat.le_refl _) _) ho1 hg1 (by go_size)
  go_wp2
  go_ret
  exact ⟨_, rfl, by simpa using hown1, hb1⟩
set_option maxHeartbeats 2000000 in
theorem copyMemory_c (A : Option Addr) (n c : Nat) (l : List ByteArray) (w : World) (hn : l.length = n) (hm : n ≤ 2097152) (hr : Reads w w.heap.size 1 A n (l.flatMap fun x : ByteArray => [Value.string x])) :
    Calls Try.prog 85 #[.agg #[.slice A n c]] w fun e w' => ∃ A' c', e = .returned (.agg #[.slice A' n c']) ∧ w'.ownsRow w.heap.size 9 1 (.slice A' n c') n (l.flatMap fun x : ByteArray => [Value.string x]) ∧ Below w.heap.size w w' := by
  go_enter Try.func85, Try.ntmps85
  go_wp2_with fail
  refine (copyStrings_c _ _ _ l _ hn hm (hr.to (by go_grown))).mono ?_
  rintro e w1 ⟨v, rfl, ho, hb⟩
  obtain ⟨d0, f0, z0⟩ := own_cell hb (b := w.heap.size + 1) (o := 0) (v := .slice none 0 0) (by simp [go_sem]) (by simp [go_sem])
  have k1 : Below w.heap.size w w1 := ext_step (by go_grown) (by go_size) hb
  obtain ⟨A', c', rfl, _, _, _⟩ := own_form ho
  clear hb
  go_wp2
  refine bodyPost_ret (v := .agg #[.slice A' n c']) (by simp [results, Try.results85, go_sem, d0]) rfl ?_
  exact ⟨A', c', rfl, own_base (ownsRow_setCell_below ho (by simp) _) (by simp; omega), by go_grown⟩
set_option maxHeartbeats 2000000 in
theorem l16Copy_c (A : Option Addr) (n c : Nat) (l : List ByteArray) (w : World) (hn : l.length = n) (hm : n ≤ 2097152) (hr : Reads w w.heap.size 1 A n (l.flatMap fun x : ByteArray => [Value.string x])) :
    Calls Try.prog 87 #[.agg #[.slice A n c]] w fun e w' => ∃ A' c', e = .returned (.agg #[.slice A' n c']) ∧ w'.ownsRow w.heap.size 9 1 (.slice A' n c') n (l.flatMap fun x : ByteArray => [Value.string x]) ∧ Below w.heap.size w w' := by
  obtain ⟨i0, hi, hz0, hz1, hz2⟩ := info_parts info_string
  have q2 : (((w.alloc (.cells #[.slice A n c] 39)).alloc (.cells #[.slice none 0 0] 39)).alloc (.cells #[] 9)).cell? ⟨w.heap.size + 1, 0, none⟩ = some (.slice none 0 0) := by simp [go_sem]
  have q3 : (((w.alloc (.cells #[.slice A n c] 39)).alloc (.cells #[.slice none 0 0] 39)).alloc (.cells #[] 9)).frozen? ⟨w.heap.size + 1, 0, none⟩ = false := by simp [go_sem]
  have ho1 := own_empty (Blk.new ((w.alloc (.cells #[.slice A n c] 39)).alloc (.cells #[.slice none 0 0] 39)) 9 []) (Nat.le_refl _) (size := 1)
  simp only [World.size_alloc] at ho1
  have hr1 : Reads (((w.alloc (.cells #[.slice A n c] 39)).alloc (.cells #[.slice none 0 0] 39)).alloc (.cells #[] 9)) w.heap.size 1 A n (l.flatMap fun x : ByteArray => [Value.string x]) := hr.below (by go_grown)
  have k3 : Below w.heap.size w (((w.alloc (.cells #[.slice A n c] 39)).alloc (.cells #[.slice none 0 0] 39)).alloc (.cells #[] 9)) := by go_grown
  go_enter Try.func87, Try.ntmps87
  go_wp2_with (at_builtin; refine wpList_append_any _ rfl _ _ 37 rfl (w.heap.size + 1 + 1) 9 i0 (.string ByteArray.empty) 1 16 Try.underlying37 hi hz0 hz1 hz2 rfl (by decide) _ _ _ rfl ho1 _ A n _ ((l.flatMap fun x : ByteArray => [Value.string x])) rfl hr1 (one_flat fun x u hu => by simp [] at hu; subst hu; rfl) (by unfold maxLen; omega) (by omega) (by go_size) ?_; intro v1 w1 hown1 hg1 hat1; have d0 := cell_far (b := w.heap.size + 1) hg1 q2 (fun g h1 => by have := (ho1.lt g h1).1; omega); have f0 := (World.frozen?_of_block (a := ⟨w.heap.size + 1, 0, none⟩) (hg1.block (w.heap.size + 1) (by simp) (fun h1 => by have := (ho1.lt _ h1.symm).1; omega))).trans q3; have k1 : Below w.heap.size w w1 := below_app k3 (own_base ho1 (by omega)) hg1 (by go_size); have z0 : w.heap.size + 1 < w1.heap.size := Nat.lt_of_lt_of_le (by simp) hg1.size; obtain ⟨A', c', rfl, _, _, _⟩ := own_form hown1; clear hg1 hat1 ho1 hr1 q2 q3)
  refine bodyPost_ret (v := .agg #[.slice A' (0 + n) c']) (by simp [results, Try.results87, go_sem, d0]) rfl ?_
  rw [Nat.zero_add] at *
  exact ⟨A', c', rfl, own_base (ownsRow_setCell_below (by simpa using hown1) (by simp) _) (by omega), by go_grown⟩
end Go.Proofs.Ytnnlagmgdfhaiaa
