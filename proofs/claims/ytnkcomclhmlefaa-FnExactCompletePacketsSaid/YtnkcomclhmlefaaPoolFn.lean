/- Contracts of BufferAddress, NewPool, copyPool: impl and spec. -/
import Derived.Test.YtnkcomclhmlefaaPoolOk
import Derived.Test.YtnkcomclhmlefaaApp
import Derived.Test.YtnkcomclhmlefaaConvIntT
import Derived.Deep.RegionHeld3
namespace Go.Proofs.Ytnkcomclhmlefaa
set_option linter.unusedSimpArgs false
set_option linter.unusedVariables false
open Go.RowKit Go.ChangeShapes Go.WideShapes
def bufA (base size count : Int) (l : List Int) (k : Int) : Int := if poolB base size count l && inB k 0 (count - 1) then base + k * size else -1
set_option maxHeartbeats 2000000 in
/-- A copy of a slice is a row of the call's own. -/
theorem copyInts_c (A : Option Addr) (n c : Nat) (l : List Int) (w : World) (hn : l.length = n) (hm : n ≤ 2097152) (hr : Reads w w.heap.size 1 A n (l.flatMap (fun x : Int => [Value.int .i64 x]))) :
    Calls Try.prog 51 #[.slice A n c] w fun e w' => ∃ v, e = .returned v ∧ w'.ownsRow w.heap.size 3 1 v n (l.flatMap (fun x : Int => [Value.int .i64 x])) ∧ Below w.heap.size w w' := by
  obtain ⟨i0, hi, hz0, hz1, hz2⟩ := info_parts info_int
  have hr1 := hr.alloc (Nat.le_refl _) (.cells #[] 3)
  have ho1 := own_empty (Blk.new w 3 []) (Nat.le_refl _) (size := 1)
  go_enter Try.func51, Try.ntmps51
  go_wp2_with (at_builtin; refine wpList_append_any _ rfl _ _ 24 rfl w.heap.size 3 i0 (.int .i64 0) 1 8 Try.underlying24 hi hz0 hz1 hz2 rfl (by decide) _ _ _ rfl ho1 _ A n _ ((l.flatMap (fun x : Int => [Value.int .i64 x]))) rfl hr1 (one_flat fun x u hu => by simp [] at hu; subst hu; rfl) (by unfold maxLen; omega) (by omega) (by go_size) ?_; intro v1 w1 hown1 hg1 hat1)
  have hb1 : Below w.heap.size w w1 := below_app ((Below.refl _ _).alloc (Nat.le_refl _) _) ho1 hg1 (by go_size)
  go_wp2
  go_ret
  exact ⟨_, rfl, by simpa using hown1, hb1⟩
set_option maxHeartbeats 2000000 in
theorem copyPool_c (base size count : Int) (A : Option Addr) (n c : Nat) (l : List Int) (w : World) (hn : l.length = n) (hm : n ≤ 1048576) (hr : Reads w w.heap.size 1 A n (l.flatMap fun x : Int => [Value.int .i64 x])) :
    Calls Try.prog 49 #[.agg #[.int .i64 base, .int .i64 size, .int .i64 count, .slice A n c]] w fun e w' => ∃ A' c', e = .returned (.agg #[.int .i64 base, .int .i64 size, .int .i64 count, .slice A' n c']) ∧ w'.ownsRow w.heap.size 3 1 (.slice A' n c') n (l.flatMap (fun x : Int => [Value.int .i64 x])) ∧ Below w.heap.size w w' := by
  go_enter Try.func49, Try.ntmps49
  go_wp2_with fail
  refine (copyInts_c _ _ _ l _ hn (by omega) (hr.to (by go_grown))).mono ?_
  rintro e w1 ⟨v, rfl, ho, hb⟩
  obtain ⟨c0, fc0, zc0⟩ := own_cell hb (b := w.heap.size) (o := 0) (v := .int .i64 base) (by first | assumption | (simp [go_sem]; done) | (simp [go_sem, *]; done)) (by first | assumption | (simp [go_sem]; done) | (simp [go_sem, *]; done))
  obtain ⟨c1, fc1, zc1⟩ := own_cell hb (b := w.heap.size) (o := 1) (v := .int .i64 size) (by first | assumption | (simp [go_sem]; done) | (simp [go_sem, *]; done)) (by first | assumption | (simp [go_sem]; done) | (simp [go_sem, *]; done))
  obtain ⟨c2, fc2, zc2⟩ := own_cell hb (b := w.heap.size) (o := 2) (v := .int .i64 count) (by first | assumption | (simp [go_sem]; done) | (simp [go_sem, *]; done)) (by first | assumption | (simp [go_sem]; done) | (simp [go_sem, *]; done))
  obtain ⟨c3, fc3, zc3⟩ := own_cell hb (b := w.heap.size) (o := 3) (v := .slice A n c) (by first | assumption | (simp [go_sem]; done) | (simp [go_sem, *]; done)) (by first | assumption | (simp [go_sem]; done) | (simp [go_sem, *]; done))
  obtain ⟨d0, fd0, zd0⟩ := own_cell hb (b := w.heap.size + 1) (o := 0) (v := .int .i64 0) (by first | assumption | (simp [go_sem]; done) | (simp [go_sem, *]; done)) (by first | assumption | (simp [go_sem]; done) | (simp [go_sem, *]; done))
  obtain ⟨d1, fd1, zd1⟩ := own_cell hb (b := w.heap.size + 1) (o := 1) (v := .int .i64 0) (by first | assumption | (simp [go_sem]; done) | (simp [go_sem, *]; done)) (by first | assumption | (simp [go_sem]; done) | (simp [go_sem, *]; done))
  obtain ⟨d2, fd2, zd2⟩ := own_cell hb (b := w.heap.size + 1) (o := 2) (v := .int .i64 0) (by first | assumption | (simp [go_sem]; done) | (simp [go_sem, *]; done)) (by first | assumption | (simp [go_sem]; done) | (simp [go_sem, *]; done))
  obtain ⟨d3, fd3, zd3⟩ := own_cell hb (b := w.heap.size + 1) (o := 3) (v := .slice none 0 0) (by first | assumption | (simp [go_sem]; done) | (simp [go_sem, *]; done)) (by first | assumption | (simp [go_sem]; done) | (simp [go_sem, *]; done))
  have k1 : Below w.heap.size w w1 := ext_step (by go_grown) (by go_size) hb
  obtain ⟨A', c', rfl, _, _, _⟩ := own_form ho
  have q1 : ∀ k, (Value.slice A' n c').ownBlock = some k → w.heap.size + 1 < k := fun k hk => by have := (ho.lt k hk).1; simp at this; omega
  have ho := own_base ho (base' := w.heap.size) (by simp; omega)
  clear hb
  go_wp2
  refine bodyPost_ret (v := .agg #[.int .i64 base, .int .i64 size, .int .i64 count, .slice A' n c']) (by simp [results, Try.results49, go_sem, c0, c1, c2, c3, d0, d1, d2, d3]) rfl ?_
  exact ⟨A', c', rfl, by repeat (first | (with_reducible exact ho) | refine own_set_ne ?_ (fun e => by have := q1 _ e; (try dsimp only at this); omega) _), by go_grown⟩
theorem blk_dr {w : World} {o1 o2 : Obj} {e : TypeId} {cs : List Value} : Blk ((((w.alloc o1).alloc o2).drew).alloc (.cells cs.toArray e)) (w.heap.size + 1 + 1) e cs := by
  have := Blk.new (((w.alloc o1).alloc o2).drew) e cs
  simpa using this
theorem info_int9 : (Try.prog.info? 3).map (fun i => (i.zero, i.size, i.bytes)) = some (some (.int .i64 0), 1, 8) := by kernel_rfl
set_option maxRecDepth 100000 in
set_option maxHeartbeats 2000000 in
theorem l21Copy_c (base size count : Int) (A : Option Addr) (n c : Nat) (l : List Int) (w : World) (hn : l.length = n) (hm : n ≤ 1048576) (hr : Reads w w.heap.size 1 A n (l.flatMap fun x : Int => [Value.int .i64 x])) :
    Calls Try.prog 44 #[.agg #[.int .i64 base, .int .i64 size, .int .i64 count, .slice A n c]] w fun e w' => ∃ A' c', e = .returned (.agg #[.int .i64 base, .int .i64 size, .int .i64 count, .slice A' n c']) ∧ w'.ownsRow w.heap.size 3 1 (.slice A' n c') n (l.flatMap (fun x : Int => [Value.int .i64 x])) ∧ Below w.heap.size w w' := by
  obtain ⟨i0, hi, hz0, hz1, hz2⟩ := info_parts info_int9
  have s0 : (w.alloc (.cells #[.int .i64 base, .int .i64 size, .int .i64 count, .slice A n c] 33)).heap.size = w.heap.size + 1 := by simp
  have hr1 : Reads w w.heap.size 1 A n (l.flatMap (fun x : Int => [Value.int .i64 x])) := hr
  go_enter Try.func44, Try.ntmps44
  go_wp2_with fail
  go_region_held3 (fun w' => w'.cell? ⟨w.heap.size, 0, none⟩ = some (.int .i64 base) ∧ w'.cell? ⟨w.heap.size, 1, none⟩ = some (.int .i64 size) ∧ w'.cell? ⟨w.heap.size, 2, none⟩ = some (.int .i64 count) ∧ w'.cell? ⟨w.heap.size, 3, none⟩ = some (.slice A n c)) (first | (exact ⟨d0, d1, d2, d3⟩) | (refine ⟨?_, ?_, ?_, ?_⟩ <;> simp [go_sem]; done) | (refine ⟨?_, ?_, ?_, ?_⟩ <;> simp [go_sem, d0, d1, d2, d3]))
    ((refine step_append_any _ (by rfl) _ _ 24 (by rfl) (w.heap.size + 1 + 1) 3 i0 (.int .i64 0) 1 8 Try.underlying24 hi hz0 hz1 hz2 rfl (by decide) _ _ _ (by rfl) (own_empty blk_dr (Nat.le_refl _)) w.heap.size A n c (l.flatMap (fun x : Int => [Value.int .i64 x])) (by rfl) (hr1.below (by go_grown)) (one_flat fun x u hu => by simp [] at hu; subst hu; rfl) (by unfold maxLen; omega) (by omega) (by go_size) ?_; intro v1 w1 hown1 hg1 hat1; have d0 := cell_off (b := w.heap.size) (o := 0) (v := .int .i64 base) hg1 (by simp [go_sem]) (fun g h1 => by simp [Value.ownBlock] at h1; omega); have d1 := cell_off (b := w.heap.size) (o := 1) (v := .int .i64 size) hg1 (by simp [go_sem]) (fun g h1 => by simp [Value.ownBlock] at h1; omega); have d2 := cell_off (b := w.heap.size) (o := 2) (v := .int .i64 count) hg1 (by simp [go_sem]) (fun g h1 => by simp [Value.ownBlock] at h1; omega); have d3 := cell_off (b := w.heap.size) (o := 3) (v := .slice A n c) hg1 (by simp [go_sem]) (fun g h1 => by simp [Value.ownBlock] at h1; omega); have e0 := cell_off (b := w.heap.size + 1) (o := 0) (v := .int .i64 0) hg1 (by simp [go_sem]) (fun g h1 => by simp [Value.ownBlock] at h1; omega); have ef0 := frozen_ne (b := w.heap.size + 1) (o := 0) hg1 (by go_size) (by simp [go_sem]) (by simp [Value.ownBlock]); have e1 := cell_off (b := w.heap.size + 1) (o := 1) (v := .int .i64 0) hg1 (by simp [go_sem]) (fun g h1 => by simp [Value.ownBlock] at h1; omega); have ef1 := frozen_ne (b := w.heap.size + 1) (o := 1) hg1 (by go_size) (by simp [go_sem]) (by simp [Value.ownBlock]); have e2 := cell_off (b := w.heap.size + 1) (o := 2) (v := .int .i64 0) hg1 (by simp [go_sem]) (fun g h1 => by simp [Value.ownBlock] at h1; omega); have ef2 := frozen_ne (b := w.heap.size + 1) (o := 2) hg1 (by go_size) (by simp [go_sem]) (by simp [Value.ownBlock]); have e3 := cell_off (b := w.heap.size + 1) (o := 3) (v := .slice none 0 0) hg1 (by simp [go_sem]) (fun g h1 => by simp [Value.ownBlock] at h1; omega); have ef3 := frozen_ne (b := w.heap.size + 1) (o := 3) hg1 (by go_size) (by simp [go_sem]) (by simp [Value.ownBlock]); rw [Nat.zero_add, List.nil_append] at hown1; have k1 : Below w.heap.size w w1 := Below.grown (by go_grown) hg1 (by go_size) (fun k hk => by simp [Value.ownBlock] at hk; omega); obtain ⟨A', c', rfl, _, _, _⟩ := own_form hown1; have q1 := fun k hk => (hown1.lt k hk).1; have ho := own_base hown1 (base' := w.heap.size) (by omega); have z9 : w.heap.size + 1 + 1 ≤ w1.heap.size := by have := hg1.size; simp at this; omega))
  go_wp2
  refine bodyPost_ret (v := .agg #[.int .i64 base, .int .i64 size, .int .i64 count, .slice A' n c']) (by simp [results, Try.results44, go_sem, e0, e1, e2, e3]) rfl ?_
  exact ⟨A', c', rfl, by repeat (first | (with_reducible exact ho) | refine own_set_ne ?_ (fun e => by have := q1 _ e; (try dsimp only at this); omega) _), by go_grown⟩
end Go.Proofs.Ytnkcomclhmlefaa
