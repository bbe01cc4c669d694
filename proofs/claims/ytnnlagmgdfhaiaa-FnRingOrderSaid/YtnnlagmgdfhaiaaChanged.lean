/- Contracts of ChangedPages: impl and spec. -/
import Derived.Test.YtnnlagmgdfhaiaaApp
import Derived.Test.YtnnlagmgdfhaiaaIn
namespace Go.Proofs.Ytnnlagmgdfhaiaa
set_option linter.unusedSimpArgs false
set_option linter.unusedVariables false
open Go.RowKit Go.ChangeShapes Go.WideShapes
/-- The numbers below k of the pages that differ. -/
def chgK (la lb : List ByteArray) (k : Nat) : List Int := ((List.range k).filter (fun i : Nat => decide (la[i]? ≠ lb[i]?))).map (fun i : Nat => (i : Int))
theorem chgK_yes {la lb : List ByteArray} {k : Nat} (h : la[k]? ≠ lb[k]?) : chgK la lb (k + 1) = chgK la lb k ++ [(k : Int)] := by
  simp [chgK, List.range_succ, List.filter_append, h]
theorem chgK_no {la lb : List ByteArray} {k : Nat} (h : la[k]? = lb[k]?) : chgK la lb (k + 1) = chgK la lb k := by
  simp [chgK, List.range_succ, List.filter_append, h]
theorem chgK_len (la lb : List ByteArray) (k : Nat) : (chgK la lb k).length ≤ k := by
  have := List.length_filter_le (fun i => decide (la[i]? ≠ lb[i]?)) (List.range k)
  simpa [chgK] using this
theorem blk_third {w : World} {o1 o2 : Obj} {e : TypeId} {cs : List Value} : Blk (((w.alloc o1).alloc o2).alloc (.cells cs.toArray e)) (w.heap.size + 1 + 1) e cs := by
  have := Blk.new ((w.alloc o1).alloc o2) e cs
  simpa using this
theorem info_int' : (Try.prog.info? 3).map (fun i => (i.zero, i.size, i.bytes)) = some (some (.int .i64 0), 1, 8) := by kernel_rfl
set_option maxRecDepth 100000 in
set_option maxHeartbeats 4000000 in
theorem implChangedPages_c (A A' : Option Addr) (n n' c c' : Nat) (l l' : List ByteArray) (w : World) (hn : l.length = n) (hn' : l'.length = n') (hm : n ≤ 1048576) (hm' : n' ≤ 1048576) (hr : Reads w w.heap.size 1 A n (l.flatMap fun x : ByteArray => [Value.string x])) (hr' : Reads w w.heap.size 1 A' n' (l'.flatMap fun x : ByteArray => [Value.string x])) :
    Calls Try.prog 26 #[.agg #[.slice A n c], .agg #[.slice A' n' c']] w fun e w' => ∃ B d, e = .returned (.slice B (chgK l l' n').length d) ∧ w'.ownsRow w.heap.size 3 1 (.slice B (chgK l l' n').length d) (chgK l l' n').length ((chgK l l' n').flatMap (fun x : Int => [Value.int .i64 x])) ∧ Below w.heap.size w w' := by
  obtain ⟨i0, hi, hz0, hz1, hz2⟩ := info_parts info_int'
  have HN := Lib.hid hn
  have HN' := Lib.hid hn'
  clear hn hn'
  go_enter Try.func26, Try.ntmps26
  go_wp2
  go_loopw [5, 12] (fun v i wr => ∃ (k j : Nat) (xs : List Int), k ≤ n' ∧ i = .int .i64 k ∧ Hid (xs = chgK l l' k) ∧ Hid (xs.length = j) ∧ j ≤ k ∧ wr.ownsRow (w.heap.size + 1 + 1) 3 1 v j (xs.flatMap (fun x : Int => [Value.int .i64 x])) ∧ Below w.heap.size w wr ∧ wr.cell? ⟨w.heap.size, 0, none⟩ = some (.slice A n c) ∧ wr.cell? ⟨w.heap.size + 1, 0, none⟩ = some (.slice A' n' c')) (fun v i _ => n' - (intOf i).toNat)
  case atStart => exact ⟨0, 0, [], Nat.zero_le _, rfl, by simp [Hid, chgK], rfl, Nat.le_refl _, own_empty (blk_third (cs := [])) (Nat.le_refl _), by go_grown, by simp [go_sem], by simp [go_sem]⟩
  case round =>
    obtain ⟨k, j, xs, hk, rfl, hxs, hxl, hjk, hown, hbw, c0, c1⟩ := hrel
    have hsz := hbw.size
    have hsz2 : w.heap.size + 1 + 1 ≤ wr.heap.size := cell_block_lt c1
    by_cases hlt : k < n'
    · obtain ⟨b', o', y, rfl, hb', hyy, hcy⟩ := hr'.el (fun _ => rfl) (by decide) HN'.out hlt
      have e0 := (hbw.cell (p := ⟨b', o' + k, none⟩) hb').trans (by simpa using hcy 0 _ rfl)
      have HY := Lib.hid hyy
      clear hyy hcy
      by_cases hka : k < n
      · obtain ⟨b, o, x, rfl, hb, hxx, hcx⟩ := hr.el (fun _ => rfl) (by decide) HN.out hka
        have e1 := (hbw.cell (p := ⟨b, o + k, none⟩) hb).trans (by simpa using hcx 0 _ rfl)
        have HX := Lib.hid hxx
        clear hxx hcx
        by_cases hxy : x = y
        · have HK := Lib.hid (chgK_no (la := l) (lb := l') (k := k) (by rw [HX.out, HY.out, hxy]))
          
          go_wp2
          go_roundw
          case rel => exact ⟨k + 1, j, xs, by omega, by go_num, hxs.out.trans HK.out.symm, hxl, by omega, hown, hbw, c0, c1⟩
          case measure => simp [intOf]; omega
        · have HK := Lib.hid (chgK_yes (la := l) (lb := l') (k := k) (by rw [HX.out, HY.out]; intro e; injection e with e; exact hxy e))
          have hbq := strNe hxy
          
          go_wp2_with (at_builtin; refine wpList_append_own _ rfl _ _ 25 rfl (w.heap.size + 1 + 1) 3 i0 (.int .i64 0) 1 8 Try.underlying25 hi hz0 hz1 hz2 rfl (by decide) _ _ _ rfl (hown.alloc _) ⟨wr.heap.size, 0, none⟩ 1 1 [.int .i64 k] rfl rfl (cells_new _ _ _) ?c2 ?c3 ?c4 ?c5 ?_; (case c2 => (intro u hu; simp at hu; subst hu; rfl)); (case c3 => (unfold maxLen; omega)); (case c4 => omega); (case c5 => go_size); intro v1 w1 hown1 hg1 hn1; have hb1 : Below w.heap.size w w1 := below_app (hbw.alloc hsz _) (own_base (hown.alloc _) (by omega)) hg1 (by go_size); have hg2 := grown_alloc hg1; have d0 := cell_off hg2 c0 (fun g h1 => by have := (hown.lt g h1).1; omega); have d1 := cell_off hg2 c1 (fun g h1 => by have := (hown.lt g h1).1; omega); clear hn1 hg1 hg2)
          go_roundw
          case rel => exact ⟨k + 1, j + 1, xs ++ [(k : Int)], by omega, by go_num, by rw [Hid, HK.out, ← hxs.out], by rw [Hid, List.length_append, hxl.out]; rfl, by omega, by rw [List.flatMap_append]; exact hown1, hb1, d0, d1⟩
          case measure => simp [intOf]; omega
      · have HK := Lib.hid (chgK_yes (la := l) (lb := l') (k := k) (by rw [HY.out, List.getElem?_eq_none (by rw [HN.out]; omega)]; intro e; cases e))
        
        go_wp2_with (at_builtin; refine wpList_append_own _ rfl _ _ 25 rfl (w.heap.size + 1 + 1) 3 i0 (.int .i64 0) 1 8 Try.underlying25 hi hz0 hz1 hz2 rfl (by decide) _ _ _ rfl (hown.alloc _) ⟨wr.heap.size, 0, none⟩ 1 1 [.int .i64 k] rfl rfl (cells_new _ _ _) ?c2 ?c3 ?c4 ?c5 ?_; (case c2 => (intro u hu; simp at hu; subst hu; rfl)); (case c3 => (unfold maxLen; omega)); (case c4 => omega); (case c5 => go_size); intro v1 w1 hown1 hg1 hn1; have hb1 : Below w.heap.size w w1 := below_app (hbw.alloc hsz _) (own_base (hown.alloc _) (by omega)) hg1 (by go_size); have hg2 := grown_alloc hg1; have d0 := cell_off hg2 c0 (fun g h1 => by have := (hown.lt g h1).1; omega); have d1 := cell_off hg2 c1 (fun g h1 => by have := (hown.lt g h1).1; omega); clear hn1 hg1 hg2)
        go_roundw
        case rel => exact ⟨k + 1, j + 1, xs ++ [(k : Int)], by omega, by go_num, by rw [Hid, HK.out, ← hxs.out], by rw [Hid, List.length_append, hxl.out]; rfl, by omega, by rw [List.flatMap_append]; exact hown1, hb1, d0, d1⟩
        case measure => simp [intOf]; omega
    · have hkn : k = n' := by omega
      subst hkn
      have h1 := hxs.out
      have h2 := hxl.out
      subst h1
      subst h2
      obtain ⟨B, d, rfl, _, _, _⟩ := own_form hown
      clear hxs hxl
      go_wp2
      go_ret
      exact ⟨B, d, rfl, own_base hown (by omega), hbw⟩
set_option maxRecDepth 100000 in
set_option maxHeartbeats 4000000 in
theorem specChangedPages_c (A A' : Option Addr) (n n' c c' : Nat) (l l' : List ByteArray) (w : World) (hn : l.length = n) (hn' : l'.length = n') (hm : n ≤ 1048576) (hm' : n' ≤ 1048576) (hr : Reads w w.heap.size 1 A n (l.flatMap fun x : ByteArray => [Value.string x])) (hr' : Reads w w.heap.size 1 A' n' (l'.flatMap fun x : ByteArray => [Value.string x])) :
    Calls Try.prog 37 #[.agg #[.slice A n c], .agg #[.slice A' n' c']] w fun e w' => ∃ B d, e = .returned (.slice B (chgK l l' n').length d) ∧ w'.ownsRow w.heap.size 3 1 (.slice B (chgK l l' n').length d) (chgK l l' n').length ((chgK l l' n').flatMap (fun x : Int => [Value.int .i64 x])) ∧ Below w.heap.size w w' := by
  obtain ⟨i0, hi, hz0, hz1, hz2⟩ := info_parts info_int'
  have HN := Lib.hid hn
  have HN' := Lib.hid hn'
  clear hn hn'
  go_enter Try.func37, Try.ntmps37
  go_wp2
  go_loopw [5, 6] (fun v i wr => ∃ (k j : Nat) (xs : List Int), k ≤ n' ∧ i = .int .i64 k ∧ Hid (xs = chgK l l' k) ∧ Hid (xs.length = j) ∧ j ≤ k ∧ wr.ownsRow (w.heap.size + 1 + 1) 3 1 v j (xs.flatMap (fun x : Int => [Value.int .i64 x])) ∧ Below w.heap.size w wr ∧ wr.cell? ⟨w.heap.size, 0, none⟩ = some (.slice A n c) ∧ wr.cell? ⟨w.heap.size + 1, 0, none⟩ = some (.slice A' n' c')) (fun v i _ => n' - (intOf i).toNat)
  case atStart => exact ⟨0, 0, [], Nat.zero_le _, rfl, by simp [Hid, chgK], rfl, Nat.le_refl _, own_empty (blk_third (cs := [])) (Nat.le_refl _), by go_grown, by simp [go_sem], by simp [go_sem]⟩
  case round =>
    obtain ⟨k, j, xs, hk, rfl, hxs, hxl, hjk, hown, hbw, c0, c1⟩ := hrel
    have hsz := hbw.size
    have hsz2 : w.heap.size + 1 + 1 ≤ wr.heap.size := cell_block_lt c1
    by_cases hlt : k < n'
    · obtain ⟨b', o', y, rfl, hb', hyy, hcy⟩ := hr'.el (fun _ => rfl) (by decide) HN'.out hlt
      have e0 := (hbw.cell (p := ⟨b', o' + k, none⟩) hb').trans (by simpa using hcy 0 _ rfl)
      have HY := Lib.hid hyy
      clear hyy hcy
      by_cases hka : k < n
      · obtain ⟨b, o, x, rfl, hb, hxx, hcx⟩ := hr.el (fun _ => rfl) (by decide) HN.out hka
        have e1 := (hbw.cell (p := ⟨b, o + k, none⟩) hb).trans (by simpa using hcx 0 _ rfl)
        have HX := Lib.hid hxx
        clear hxx hcx
        by_cases hxy : x = y
        · have HK := Lib.hid (chgK_no (la := l) (lb := l') (k := k) (by rw [HX.out, HY.out, hxy]))
          go_wp2_with fail
          go_quiet (fail)
          have hbd : Below wr.heap.size wr (wr.drewN nq) := below_drewN (Below.refl _ _) _
          have hown := own_ext hown hbd
          have hbw := ext_step hbw hsz hbd
          have c0 := ccell hbd _ _ _ c0
          have c1 := ccell hbd _ _ _ c1
          have hsz := hbw.size
          have hsz2 : w.heap.size + 1 + 1 ≤ (wr.drewN nq).heap.size := cell_block_lt c1
          clear hbd
          generalize hwq : wr.drewN nq = wq at *
          clear hwq
          go_wp2
          go_roundw
          case rel => exact ⟨k + 1, j, xs, by omega, by go_num, hxs.out.trans HK.out.symm, hxl, by omega, hown, hbw, c0, c1⟩
          case measure => simp [intOf]; omega
        · have HK := Lib.hid (chgK_yes (la := l) (lb := l') (k := k) (by rw [HX.out, HY.out]; intro e; injection e with e; exact hxy e))
          have hbq := strNe hxy
          go_wp2_with fail
          go_quiet (fail)
          have hbd : Below wr.heap.size wr (wr.drewN nq) := below_drewN (Below.refl _ _) _
          have hown := own_ext hown hbd
          have hbw := ext_step hbw hsz hbd
          have c0 := ccell hbd _ _ _ c0
          have c1 := ccell hbd _ _ _ c1
          have hsz := hbw.size
          have hsz2 : w.heap.size + 1 + 1 ≤ (wr.drewN nq).heap.size := cell_block_lt c1
          clear hbd
          generalize hwq : wr.drewN nq = wq at *
          clear hwq
          go_wp2_with (at_builtin; refine wpList_append_own _ rfl _ _ 25 rfl (w.heap.size + 1 + 1) 3 i0 (.int .i64 0) 1 8 Try.underlying25 hi hz0 hz1 hz2 rfl (by decide) _ _ _ rfl (hown.alloc _) ⟨wq.heap.size, 0, none⟩ 1 1 [.int .i64 k] rfl rfl (cells_new _ _ _) ?c2 ?c3 ?c4 ?c5 ?_; (case c2 => (intro u hu; simp at hu; subst hu; rfl)); (case c3 => (unfold maxLen; omega)); (case c4 => omega); (case c5 => go_size); intro v1 w1 hown1 hg1 hn1; have hb1 : Below w.heap.size w w1 := below_app (hbw.alloc hsz _) (own_base (hown.alloc _) (by omega)) hg1 (by go_size); have hg2 := grown_alloc hg1; have d0 := cell_off hg2 c0 (fun g h1 => by have := (hown.lt g h1).1; omega); have d1 := cell_off hg2 c1 (fun g h1 => by have := (hown.lt g h1).1; omega); clear hn1 hg1 hg2)
          go_roundw
          case rel => exact ⟨k + 1, j + 1, xs ++ [(k : Int)], by omega, by go_num, by rw [Hid, HK.out, ← hxs.out], by rw [Hid, List.length_append, hxl.out]; rfl, by omega, by rw [List.flatMap_append]; exact hown1, hb1, d0, d1⟩
          case measure => simp [intOf]; omega
      · have HK := Lib.hid (chgK_yes (la := l) (lb := l') (k := k) (by rw [HY.out, List.getElem?_eq_none (by rw [HN.out]; omega)]; intro e; cases e))
        go_wp2_with fail
        go_quiet (fail)
        have hbd : Below wr.heap.size wr (wr.drewN nq) := below_drewN (Below.refl _ _) _
        have hown := own_ext hown hbd
        have hbw := ext_step hbw hsz hbd
        have c0 := ccell hbd _ _ _ c0
        have c1 := ccell hbd _ _ _ c1
        have hsz := hbw.size
        have hsz2 : w.heap.size + 1 + 1 ≤ (wr.drewN nq).heap.size := cell_block_lt c1
        clear hbd
        generalize hwq : wr.drewN nq = wq at *
        clear hwq
        go_wp2_with (at_builtin; refine wpList_append_own _ rfl _ _ 25 rfl (w.heap.size + 1 + 1) 3 i0 (.int .i64 0) 1 8 Try.underlying25 hi hz0 hz1 hz2 rfl (by decide) _ _ _ rfl (hown.alloc _) ⟨wq.heap.size, 0, none⟩ 1 1 [.int .i64 k] rfl rfl (cells_new _ _ _) ?c2 ?c3 ?c4 ?c5 ?_; (case c2 => (intro u hu; simp at hu; subst hu; rfl)); (case c3 => (unfold maxLen; omega)); (case c4 => omega); (case c5 => go_size); intro v1 w1 hown1 hg1 hn1; have hb1 : Below w.heap.size w w1 := below_app (hbw.alloc hsz _) (own_base (hown.alloc _) (by omega)) hg1 (by go_size); have hg2 := grown_alloc hg1; have d0 := cell_off hg2 c0 (fun g h1 => by have := (hown.lt g h1).1; omega); have d1 := cell_off hg2 c1 (fun g h1 => by have := (hown.lt g h1).1; omega); clear hn1 hg1 hg2)
        go_roundw
        case rel => exact ⟨k + 1, j + 1, xs ++ [(k : Int)], by omega, by go_num, by rw [Hid, HK.out, ← hxs.out], by rw [Hid, List.length_append, hxl.out]; rfl, by omega, by rw [List.flatMap_append]; exact hown1, hb1, d0, d1⟩
        case measure => simp [intOf]; omega
    · have hkn : k = n' := by omega
      subst hkn
      have h1 := hxs.out
      have h2 := hxl.out
      subst h1
      subst h2
      obtain ⟨B, d, rfl, _, _, _⟩ := own_form hown
      clear hxs hxl
      go_wp2
      go_ret
      exact ⟨B, d, rfl, own_base hown (by omega), hbw⟩
end Go.Proofs.Ytnnlagmgdfhaiaa
