/- Contracts of NewPool: impl and spec. -/
import Derived.Test.YtnnlagmgdfhaiaaPoolFn
import Derived.Deep.RegionLaw
namespace Go.Proofs.Ytnnlagmgdfhaiaa
set_option linter.unusedSimpArgs false
set_option linter.unusedVariables false
open Go.RowKit Go.ChangeShapes Go.WideShapes
/-- The numbers below k. -/
def upto (k : Nat) : List Int := (List.range k).map fun i : Nat => (i : Int)
theorem upto_len (k : Nat) : (upto k).length = k := by simp [upto]
theorem upto_next (k : Nat) : upto (k + 1) = upto k ++ [(k : Int)] := by simp [upto, List.range_succ]
theorem upto_flat (k : Nat) : (upto (k + 1)).flatMap (fun x : Int => [Value.int .i64 x]) = (upto k).flatMap (fun x : Int => [Value.int .i64 x]) ++ [.int .i64 (k : Int)] := by rw [upto_next, List.flatMap_append]; rfl
theorem upto_nodup (k : Nat) : (upto k).Nodup := by
  rw [upto, List.nodup_iff_pairwise_ne, List.pairwise_map]
  have := List.nodup_range (n := k)
  rw [List.nodup_iff_pairwise_ne] at this
  exact this.imp fun h => by omega
theorem upto_free (k : Nat) : freeR k (upto k) (upto k).length = true := by
  rw [freeR, List.take_length]
  simp only [Bool.and_eq_true, decide_eq_true_eq, List.all_eq_true]
  refine ⟨fun x hx => ?_, upto_nodup k⟩
  obtain ⟨i, hi, rfl⟩ := List.mem_map.1 hx
  have := List.mem_range.1 hi
  simp [inB]; omega
theorem upto_pool {base size count : Int} {k : Nat} (h : poolH base size count = true) (hk : count = k) : poolB base size count (upto k) = true := by
  rw [poolB, h, hk, upto_free]; rfl
/-- What a new pool holds. -/
def nbase (base size count : Int) : Int := if poolH base size count then base else 0
def nsize (base size count : Int) : Int := if poolH base size count then size else 0
def ncount (base size count : Int) : Int := if poolH base size count then count else 0
def nfree (base size count : Int) : List Int := if poolH base size count then upto count.toNat else []
theorem poolB_nil {base size count : Int} : poolB base size count [] = poolH base size count := by simp [poolB, freeR]
theorem poolB_upto {base size : Int} (m : Nat) : poolB base size m (upto m) = poolH base size m := by
  cases h : poolH base size m
  · rw [poolB, h]; rfl
  · exact upto_pool h rfl
set_option maxRecDepth 100000 in
set_option maxHeartbeats 4000000 in
theorem implNewPool_c (base size count : Int) (w : World) :
    Calls Try.prog 16 #[.int .i64 base, .int .i64 size, .int .i64 count] w fun e w' => ∃ A' c', e = .returned (.tuple #[.agg #[.int .i64 (nbase base size count), .int .i64 (nsize base size count), .int .i64 (ncount base size count), .slice A' (nfree base size count).length c'], .bool (poolH base size count)]) ∧ w'.ownsRow w.heap.size 3 1 (.slice A' (nfree base size count).length c') (nfree base size count).length ((nfree base size count).flatMap (fun x : Int => [Value.int .i64 x])) ∧ Below w.heap.size w w' := by
  obtain ⟨i0, hi, hz0, hz1, hz2⟩ := info_parts info_int9
  cases e1 : poolH base size count
  · have e2 : poolB base size count [] = false := by rw [poolB_nil, e1]
    simp only [nbase, nsize, ncount, nfree, e1, Bool.false_eq_true, if_false, List.length_nil]
    go_enter Try.func16, Try.ntmps16
    go_wp2_with fail
    refine (calls_bool (implPoolOk_c _ _ _ none 0 0 [] _ rfl (by omega) Reads.none_) e2).mono ?_
    rintro e w1 ⟨rfl, hb⟩
    obtain ⟨d0, fd0, zd0⟩ := own_cell hb (b := w.heap.size) (o := 0) (v := .int .i64 0) (by first | assumption | (simp [go_sem]; done) | (simp [go_sem, *]; done)) (by first | assumption | (simp [go_sem]; done) | (simp [go_sem, *]; done))
    obtain ⟨d1, fd1, zd1⟩ := own_cell hb (b := w.heap.size) (o := 1) (v := .int .i64 0) (by first | assumption | (simp [go_sem]; done) | (simp [go_sem, *]; done)) (by first | assumption | (simp [go_sem]; done) | (simp [go_sem, *]; done))
    obtain ⟨d2, fd2, zd2⟩ := own_cell hb (b := w.heap.size) (o := 2) (v := .int .i64 0) (by first | assumption | (simp [go_sem]; done) | (simp [go_sem, *]; done)) (by first | assumption | (simp [go_sem]; done) | (simp [go_sem, *]; done))
    obtain ⟨d3, fd3, zd3⟩ := own_cell hb (b := w.heap.size) (o := 3) (v := .slice none 0 0) (by first | assumption | (simp [go_sem]; done) | (simp [go_sem, *]; done)) (by first | assumption | (simp [go_sem]; done) | (simp [go_sem, *]; done))
    have k1 : Below w.heap.size w w1 := ext_step (by go_grown) (by go_size) hb
    clear hb
    go_wp2
    refine bodyPost_ret (v := .tuple #[.agg #[.int .i64 0, .int .i64 0, .int .i64 0, .slice none 0 0], .bool false]) (by simp [results, Try.results16, go_sem, d0, d1, d2, d3]) rfl ?_
    exact ⟨none, 0, rfl, own_nil _ _ _ _, by go_grown⟩
  · have e2 : poolB base size count [] = true := by rw [poolB_nil, e1]
    obtain ⟨b1, b2, b3, b4, b5, b6⟩ := poolH_t e1
    obtain ⟨m, rfl⟩ := Int.eq_ofNat_of_zero_le b5
    simp only [nbase, nsize, ncount, nfree, e1, if_true, Int.toNat_natCast, upto_len]
    go_enter Try.func16, Try.ntmps16
    go_wp2_with fail
    refine (calls_bool (implPoolOk_c _ _ _ none 0 0 [] _ rfl (by omega) Reads.none_) e2).mono ?_
    rintro e w1 ⟨rfl, hb⟩
    obtain ⟨d0, fd0, zd0⟩ := own_cell hb (b := w.heap.size) (o := 0) (v := .int .i64 0) (by first | assumption | (simp [go_sem]; done) | (simp [go_sem, *]; done)) (by first | assumption | (simp [go_sem]; done) | (simp [go_sem, *]; done))
    obtain ⟨d1, fd1, zd1⟩ := own_cell hb (b := w.heap.size) (o := 1) (v := .int .i64 0) (by first | assumption | (simp [go_sem]; done) | (simp [go_sem, *]; done)) (by first | assumption | (simp [go_sem]; done) | (simp [go_sem, *]; done))
    obtain ⟨d2, fd2, zd2⟩ := own_cell hb (b := w.heap.size) (o := 2) (v := .int .i64 0) (by first | assumption | (simp [go_sem]; done) | (simp [go_sem, *]; done)) (by first | assumption | (simp [go_sem]; done) | (simp [go_sem, *]; done))
    obtain ⟨d3, fd3, zd3⟩ := own_cell hb (b := w.heap.size) (o := 3) (v := .slice none 0 0) (by first | assumption | (simp [go_sem]; done) | (simp [go_sem, *]; done)) (by first | assumption | (simp [go_sem]; done) | (simp [go_sem, *]; done))
    obtain ⟨c0, fc0, zc0⟩ := own_cell hb (b := w.heap.size + 1) (o := 0) (v := .int .i64 base) (by first | assumption | (simp [go_sem]; done) | (simp [go_sem, *]; done)) (by first | assumption | (simp [go_sem]; done) | (simp [go_sem, *]; done))
    obtain ⟨c1, fc1, zc1⟩ := own_cell hb (b := w.heap.size + 1) (o := 1) (v := .int .i64 size) (by first | assumption | (simp [go_sem]; done) | (simp [go_sem, *]; done)) (by first | assumption | (simp [go_sem]; done) | (simp [go_sem, *]; done))
    obtain ⟨c2, fc2, zc2⟩ := own_cell hb (b := w.heap.size + 1) (o := 2) (v := .int .i64 (m : Int)) (by first | assumption | (simp [go_sem]; done) | (simp [go_sem, *]; done)) (by first | assumption | (simp [go_sem]; done) | (simp [go_sem, *]; done))
    obtain ⟨c3, fc3, zc3⟩ := own_cell hb (b := w.heap.size + 1) (o := 3) (v := .slice none 0 0) (by first | assumption | (simp [go_sem]; done) | (simp [go_sem, *]; done)) (by first | assumption | (simp [go_sem]; done) | (simp [go_sem, *]; done))
    have k1 : Below w.heap.size w w1 := ext_step (by go_grown) (by go_size) hb
    clear hb e1 e2
    go_wp2_with fail
    go_loopw [9] (fun i wr => ∃ (k : Nat) (v : Value), k ≤ m ∧ i = .int .i64 (k : Int) ∧ Below w.heap.size w wr ∧ wr.ownsRow (w.heap.size + 1 + 1) 3 1 v k ((upto k).flatMap (fun x : Int => [Value.int .i64 x])) ∧ wr.cell? ⟨w.heap.size + 1, 0, none⟩ = some (.int .i64 base) ∧ wr.frozen? ⟨w.heap.size + 1, 0, none⟩ = false ∧ wr.cell? ⟨w.heap.size + 1, 1, none⟩ = some (.int .i64 size) ∧ wr.frozen? ⟨w.heap.size + 1, 1, none⟩ = false ∧ wr.cell? ⟨w.heap.size + 1, 2, none⟩ = some (.int .i64 (m : Int)) ∧ wr.frozen? ⟨w.heap.size + 1, 2, none⟩ = false ∧ wr.cell? ⟨w.heap.size + 1, 3, none⟩ = some (v) ∧ wr.frozen? ⟨w.heap.size + 1, 3, none⟩ = false ∧ w.heap.size + 1 < wr.heap.size ∧ wr.cell? ⟨w.heap.size, 0, none⟩ = some (.int .i64 0) ∧ wr.frozen? ⟨w.heap.size, 0, none⟩ = false ∧ wr.cell? ⟨w.heap.size, 1, none⟩ = some (.int .i64 0) ∧ wr.frozen? ⟨w.heap.size, 1, none⟩ = false ∧ wr.cell? ⟨w.heap.size, 2, none⟩ = some (.int .i64 0) ∧ wr.frozen? ⟨w.heap.size, 2, none⟩ = false ∧ wr.cell? ⟨w.heap.size, 3, none⟩ = some (.slice none 0 0) ∧ wr.frozen? ⟨w.heap.size, 3, none⟩ = false ∧ w.heap.size < wr.heap.size) (fun i _ => m - (intOf i).toNat)
    case atStart => exact ⟨0, .slice none 0 0, Nat.zero_le _, rfl, k1, own_nil _ _ _ _, c0, fc0, c1, fc1, c2, fc2, c3, fc3, zc3, d0, fd0, d1, fd1, d2, fd2, d3, fd3, zd3⟩
    case round =>
      obtain ⟨k, v, hk, rfl, hbw, hown, c0, fc0, c1, fc1, c2, fc2, c3, fc3, zc3, d0, fd0, d1, fd1, d2, fd2, d3, fd3, zd3⟩ := hrel
      have hsz := hbw.size
      by_cases hlt : k < m
      · go_wp2_with (at_builtin; refine wpList_append_own _ rfl _ _ 25 rfl (w.heap.size + 1 + 1) 3 i0 (.int .i64 0) 1 8 Try.underlying25 hi hz0 hz1 hz2 rfl (by decide) _ _ _ rfl (hown.alloc _) ⟨wr.heap.size, 0, none⟩ 1 1 [.int .i64 (k : Int)] rfl rfl (cells_new _ _ _) ?c2 ?c3 ?c4 ?c5 ?_; (case c2 => (intro u hu; simp at hu; subst hu; rfl)); (case c3 => (unfold maxLen; omega)); (case c4 => omega); (case c5 => (simp only [World.size_alloc]; omega)); intro v2 w2 hown2 hg2 hat2; have hba : Below wr.heap.size wr (wr.alloc (.cells #[.int .i64 (k : Int)] 3)) := (Below.refl _ _).alloc (Nat.le_refl _) _; have hn0 : v.ownBlock ≠ some w.heap.size := (fun e => by have := (hown.lt _ e).1; omega); have hn1 : v.ownBlock ≠ some (w.heap.size + 1) := (fun e => by have := (hown.lt _ e).1; omega); have hb2 : Below w.heap.size w w2 := below_app (hbw.alloc hsz _) (own_base (hown.alloc _) (by omega)) hg2 (by simp only [World.size_alloc]; omega); have c0 := cell_ne hg2 (ccell hba _ _ _ c0) hn1; have fc0 := frozen_ne (o := 0) hg2 (Nat.lt_of_lt_of_le zc3 hba.size) ((hba.frozen (p := ⟨_, 0, none⟩) zc3).trans fc0) hn1; have c1 := cell_ne hg2 (ccell hba _ _ _ c1) hn1; have fc1 := frozen_ne (o := 1) hg2 (Nat.lt_of_lt_of_le zc3 hba.size) ((hba.frozen (p := ⟨_, 1, none⟩) zc3).trans fc1) hn1; have c2 := cell_ne hg2 (ccell hba _ _ _ c2) hn1; have fc2 := frozen_ne (o := 2) hg2 (Nat.lt_of_lt_of_le zc3 hba.size) ((hba.frozen (p := ⟨_, 2, none⟩) zc3).trans fc2) hn1; have c3 := cell_ne hg2 (ccell hba _ _ _ c3) hn1; have fc3 := frozen_ne (o := 3) hg2 (Nat.lt_of_lt_of_le zc3 hba.size) ((hba.frozen (p := ⟨_, 3, none⟩) zc3).trans fc3) hn1; have d0 := cell_ne hg2 (ccell hba _ _ _ d0) hn0; have fd0 := frozen_ne (o := 0) hg2 (Nat.lt_of_lt_of_le zd3 hba.size) ((hba.frozen (p := ⟨_, 0, none⟩) zd3).trans fd0) hn0; have d1 := cell_ne hg2 (ccell hba _ _ _ d1) hn0; have fd1 := frozen_ne (o := 1) hg2 (Nat.lt_of_lt_of_le zd3 hba.size) ((hba.frozen (p := ⟨_, 1, none⟩) zd3).trans fd1) hn0; have d2 := cell_ne hg2 (ccell hba _ _ _ d2) hn0; have fd2 := frozen_ne (o := 2) hg2 (Nat.lt_of_lt_of_le zd3 hba.size) ((hba.frozen (p := ⟨_, 2, none⟩) zd3).trans fd2) hn0; have d3 := cell_ne hg2 (ccell hba _ _ _ d3) hn0; have fd3 := frozen_ne (o := 3) hg2 (Nat.lt_of_lt_of_le zd3 hba.size) ((hba.frozen (p := ⟨_, 3, none⟩) zd3).trans fd3) hn0; have hz2 : w.heap.size + 1 + 1 ≤ w2.heap.size := (by have h1 := hg2.size; have h2 := hba.size; omega); obtain ⟨A2, c2x, rfl, _, _, _⟩ := own_form hown2; clear hba hat2 hg2)
        go_roundw
        case rel => exact ⟨k + 1, _, by omega, by go_num, hb2.setCell (by show w.heap.size ≤ w.heap.size + 1; omega) _, own_set_ne (by rw [upto_flat]; exact hown2) (fun e => by have := (hown2.lt _ e).1; (try dsimp only at this); omega) _, by simp [go_sem, c0], by simpa [go_sem] using fc0, by simp [go_sem, c1], by simpa [go_sem] using fc1, by simp [go_sem, c2], by simpa [go_sem] using fc2, by simp [go_sem, c3], by simpa [go_sem] using fc3, by simpa [go_sem] using (show w.heap.size + 1 < w2.heap.size by omega), by simp [go_sem, d0], by simpa [go_sem] using fd0, by simp [go_sem, d1], by simpa [go_sem] using fd1, by simp [go_sem, d2], by simpa [go_sem] using fd2, by simp [go_sem, d3], by simpa [go_sem] using fd3, by simpa [go_sem] using (show w.heap.size < w2.heap.size by omega)⟩
        case measure => simp [intOf]; omega
      · have hkm : k = m := by omega
        subst hkm
        obtain ⟨A2, c2x, rfl, _, _, _⟩ := own_form hown
        have q1 := fun g hg => (hown.lt g hg).1
        have hown := own_base hown (base' := w.heap.size) (by omega)
        go_wp2
        refine bodyPost_ret (v := .tuple #[.agg #[.int .i64 base, .int .i64 size, .int .i64 (k : Int), .slice A2 k c2x], .bool true]) (by simp [results, Try.results16, go_sem, d0, d1, d2, d3]) rfl ?_
        exact ⟨A2, c2x, rfl, by repeat (first | (with_reducible exact hown) | refine own_set_ne ?_ (fun e => by have := q1 _ e; (try dsimp only at this); omega) _), by go_grown⟩
end Go.Proofs.Ytnnlagmgdfhaiaa
