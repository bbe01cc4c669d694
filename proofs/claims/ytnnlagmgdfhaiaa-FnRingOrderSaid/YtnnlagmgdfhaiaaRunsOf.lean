/- Contract of runsOf: impl. -/
import Derived.Test.YtnnlagmgdfhaiaaRunsP
import Derived.Test.YtnnlagmgdfhaiaaTrans
import Derived.Test.YtnnlagmgdfhaiaaApp
namespace Go.Proofs.Ytnnlagmgdfhaiaa
set_option linter.unusedSimpArgs false
set_option linter.unusedVariables false
open Go.RowKit Go.ChangeShapes Go.WideShapes
theorem info_run : (Try.prog.info? 128).map (fun i => (i.zero, i.size, i.bytes)) = some (some (.agg #[.int .i64 0, .int .i64 0]), 2, 16) := by kernel_rfl
theorem kk_min {a x : Int} : (if 128 - a % 128 < x then 128 - a % 128 else x) = kk a x := by
  unfold kk; split <;> split <;> omega
set_option maxRecDepth 100000 in
set_option maxHeartbeats 4000000 in
theorem implRunsOf_c (A A' : Option Addr) (n c n' c' : Nat) (l : List Mapping) (pg : List ByteArray) (w : World) (hn : l.length = n) (hn' : pg.length = n') (hm : n ≤ 1048576) (hm' : n' ≤ 1048576) (hr : Reads w w.heap.size 4 A n (l.flatMap Mapping.cells)) (hr' : Reads w w.heap.size 1 A' n' (pg.flatMap fun x : ByteArray => [Value.string x])) (d at_ x : Int) (wb : Bool) (ha : I64 at_) (hx : I64 x) :
    Calls Try.prog 93 #[.slice A n c, .agg #[.slice A' n' c'], .int .i64 d, .int .i64 at_, .int .i64 x, .bool wb] w fun e w' => ∃ v, e = .returned (.tuple #[v, .bool (dmaOk l pg d at_ x wb)]) ∧ w'.ownsRow w.heap.size 128 2 v (runsD l pg d at_ x wb).length ((runsD l pg d at_ x wb).flatMap Run.cells) ∧ Below w.heap.size w w' := by
  obtain ⟨i0, hi, hz0, hz1, hz2⟩ := info_parts info_run
  cases e1 : mapsB l
  · have hR : runsI l pg d at_ x wb = none := by simp [runsI, e1]
    rw [runsD_no hR, dmaOk_no hR]
    clear hR
    go_enter Try.func93, Try.ntmps93
    go_wp2_with (first | (go_at_call 38; refine (calls_bool (implMappingsOk_c _ _ _ l _ hn (by omega) (hr.to (by go_grown))) e1).mono ?_; rintro e w1 ⟨rfl, hb⟩; obtain ⟨c0, f0, z0⟩ := own_cell hb (b := w.heap.size) (o := 0) (v := .slice A' n' c') (by simp [go_sem]) (by simp [go_sem]); have k1 : Below w.heap.size w w1 := ext_step (by go_grown) (by go_size) hb; clear hb) | (go_at_call 28; refine (calls_bool (implMemoryOk_c _ _ _ pg _ hn' (by omega) (hr'.to k1)) e2).mono ?_; rintro e w2 ⟨rfl, hb⟩; obtain ⟨c0, f0, z0⟩ := own_cell hb c0 f0; have k1 := ext_step k1 k1.size hb; clear hb) | (go_at_call 78; refine (calls_bool (between_c _ _ _ _) e3).mono ?_; rintro e w9 ⟨rfl, rfl⟩))
    go_ret2
    exact ⟨_, rfl, own_nil _ _ _ _, by first | exact k1 | go_grown⟩
  · cases e2 : memB pg
    · have hR : runsI l pg d at_ x wb = none := by simp [runsI, e1, e2]
      rw [runsD_no hR, dmaOk_no hR]
      clear hR
      go_enter Try.func93, Try.ntmps93
      go_wp2_with (first | (go_at_call 38; refine (calls_bool (implMappingsOk_c _ _ _ l _ hn (by omega) (hr.to (by go_grown))) e1).mono ?_; rintro e w1 ⟨rfl, hb⟩; obtain ⟨c0, f0, z0⟩ := own_cell hb (b := w.heap.size) (o := 0) (v := .slice A' n' c') (by simp [go_sem]) (by simp [go_sem]); have k1 : Below w.heap.size w w1 := ext_step (by go_grown) (by go_size) hb; clear hb) | (go_at_call 28; refine (calls_bool (implMemoryOk_c _ _ _ pg _ hn' (by omega) (hr'.to k1)) e2).mono ?_; rintro e w2 ⟨rfl, hb⟩; obtain ⟨c0, f0, z0⟩ := own_cell hb c0 f0; have k1 := ext_step k1 k1.size hb; clear hb) | (go_at_call 78; refine (calls_bool (between_c _ _ _ _) e3).mono ?_; rintro e w9 ⟨rfl, rfl⟩))
      go_ret2
      exact ⟨_, rfl, own_nil _ _ _ _, by first | exact k1 | go_grown⟩
    · cases e3 : inB x 0 4096
      · have hR : runsI l pg d at_ x wb = none := by simp [runsI, e1, e2, e3]
        rw [runsD_no hR, dmaOk_no hR]
        clear hR
        go_enter Try.func93, Try.ntmps93
        go_wp2_with (first | (go_at_call 38; refine (calls_bool (implMappingsOk_c _ _ _ l _ hn (by omega) (hr.to (by go_grown))) e1).mono ?_; rintro e w1 ⟨rfl, hb⟩; obtain ⟨c0, f0, z0⟩ := own_cell hb (b := w.heap.size) (o := 0) (v := .slice A' n' c') (by simp [go_sem]) (by simp [go_sem]); have k1 : Below w.heap.size w w1 := ext_step (by go_grown) (by go_size) hb; clear hb) | (go_at_call 28; refine (calls_bool (implMemoryOk_c _ _ _ pg _ hn' (by omega) (hr'.to k1)) e2).mono ?_; rintro e w2 ⟨rfl, hb⟩; obtain ⟨c0, f0, z0⟩ := own_cell hb c0 f0; have k1 := ext_step k1 k1.size hb; clear hb) | (go_at_call 78; refine (calls_bool (between_c _ _ _ _) e3).mono ?_; rintro e w9 ⟨rfl, rfl⟩))
        go_ret2
        exact ⟨_, rfl, own_nil _ _ _ _, by first | exact k1 | go_grown⟩
      · obtain ⟨x0, x1⟩ := inB_t e3
        have hR0 : runsI l pg d at_ x wb = runsG l pg.length d wb 4097 at_ x := by simp [runsI, e1, e2, e3]
        by_cases hx0 : x = 0
        · subst hx0
          have hR : runsI l pg d at_ 0 wb = some [] := by rw [hR0, runsG_zero (by omega)]
          rw [runsD_yes hR, dmaOk_yes hR]
          clear hR hR0
          go_enter Try.func93, Try.ntmps93
          go_wp2_with (first | (go_at_call 38; refine (calls_bool (implMappingsOk_c _ _ _ l _ hn (by omega) (hr.to (by go_grown))) e1).mono ?_; rintro e w1 ⟨rfl, hb⟩; obtain ⟨c0, f0, z0⟩ := own_cell hb (b := w.heap.size) (o := 0) (v := .slice A' n' c') (by simp [go_sem]) (by simp [go_sem]); have k1 : Below w.heap.size w w1 := ext_step (by go_grown) (by go_size) hb; clear hb) | (go_at_call 28; refine (calls_bool (implMemoryOk_c _ _ _ pg _ hn' (by omega) (hr'.to k1)) e2).mono ?_; rintro e w2 ⟨rfl, hb⟩; obtain ⟨c0, f0, z0⟩ := own_cell hb c0 f0; have k1 := ext_step k1 k1.size hb; clear hb) | (go_at_call 78; refine (calls_bool (between_c _ _ _ _) e3).mono ?_; rintro e w9 ⟨rfl, rfl⟩))
          go_ret2
          exact ⟨_, rfl, own_nil _ _ _ _, by first | exact k1 | go_grown⟩
        · have hxp : 0 < x := by omega
          have bx : (x == 0) = false := by simpa using hx0
          by_cases ha0 : at_ < 0
          · have hR : runsI l pg d at_ x wb = none := by rw [hR0, runsG_no hxp (by rw [runOk, placeI_neg ha0]; rfl)]
            rw [runsD_no hR, dmaOk_no hR]
            clear hR hR0
            go_enter Try.func93, Try.ntmps93
            go_wp2_with (first | (go_at_call 38; refine (calls_bool (implMappingsOk_c _ _ _ l _ hn (by omega) (hr.to (by go_grown))) e1).mono ?_; rintro e w1 ⟨rfl, hb⟩; obtain ⟨c0, f0, z0⟩ := own_cell hb (b := w.heap.size) (o := 0) (v := .slice A' n' c') (by simp [go_sem]) (by simp [go_sem]); have k1 : Below w.heap.size w w1 := ext_step (by go_grown) (by go_size) hb; clear hb) | (go_at_call 28; refine (calls_bool (implMemoryOk_c _ _ _ pg _ hn' (by omega) (hr'.to k1)) e2).mono ?_; rintro e w2 ⟨rfl, hb⟩; obtain ⟨c0, f0, z0⟩ := own_cell hb c0 f0; have k1 := ext_step k1 k1.size hb; clear hb) | (go_at_call 78; refine (calls_bool (between_c _ _ _ _) e3).mono ?_; rintro e w9 ⟨rfl, rfl⟩))
            go_ret2
            exact ⟨_, rfl, own_nil _ _ _ _, by first | exact k1 | go_grown⟩
          · have ha1 : at_ ≤ 9223372036854775807 := ha.2
            have HR0 := Lib.hid hR0
            clear hR0
            go_enter Try.func93, Try.ntmps93
            go_wp2_with (first | (go_at_call 38; refine (calls_bool (implMappingsOk_c _ _ _ l _ hn (by omega) (hr.to (by go_grown))) e1).mono ?_; rintro e w1 ⟨rfl, hb⟩; obtain ⟨c0, f0, z0⟩ := own_cell hb (b := w.heap.size) (o := 0) (v := .slice A' n' c') (by simp [go_sem]) (by simp [go_sem]); have k1 : Below w.heap.size w w1 := ext_step (by go_grown) (by go_size) hb; clear hb) | (go_at_call 28; refine (calls_bool (implMemoryOk_c _ _ _ pg _ hn' (by omega) (hr'.to k1)) e2).mono ?_; rintro e w2 ⟨rfl, hb⟩; obtain ⟨c0, f0, z0⟩ := own_cell hb c0 f0; have k1 := ext_step k1 k1.size hb; clear hb) | (go_at_call 78; refine (calls_bool (between_c _ _ _ _) e3).mono ?_; rintro e w9 ⟨rfl, rfl⟩))
            have HB1 := Lib.hid e2
            have hz1' : w.heap.size + 1 ≤ w2.heap.size := cell_block_lt c0
            clear e2 e3 bx hx0
            go_loopw [3, 4, 14] (fun av nv ov wr' => ∃ (f j : Nat) (a y : Int) (xs : List Run) (u : Value), av = .int .i64 a ∧ nv = .int .i64 y ∧ ov = u ∧ 0 ≤ a ∧ a ≤ 9223372036854775807 ∧ 0 ≤ y ∧ y ≤ f ∧ j + f = 4097 ∧ Hid (xs.length = j) ∧ Hid (preR xs (runsG l pg.length d wb f a y) = runsG l pg.length d wb 4097 at_ x) ∧ wr'.ownsRow (w.heap.size + 1) 128 2 u j (xs.flatMap Run.cells) ∧ Below w.heap.size w wr' ∧ wr'.cell? ⟨w.heap.size, 0, none⟩ = some (.slice A' n' c')) (fun _ nv _ _ => (intOf nv).toNat)
            case atStart => exact ⟨4097, 0, at_, x, [], _, rfl, rfl, rfl, by omega, ha1, x0, by omega, rfl, rfl, preR_nil _, own_empty (Blk.new _ _ []) hz1', k1.alloc k1.size _, by rw [World.cell?_alloc_lt _ _ _ z0]; exact c0⟩
            case round =>
              obtain ⟨f, j, a, y, xs, u, rfl, rfl, hu, a0, a1, y0, yf, hjf, hxl, hpre, hown, hbw, c0⟩ := hrel
              have hu := hu.symm
              subst hu
              have hsz := hbw.size
              have hIa : I64 a := ⟨by omega, a1⟩
              by_cases hlt : 0 < y
              · obtain ⟨f, rfl⟩ : ∃ f', f = f' + 1 := ⟨f - 1, by omega⟩
                obtain ⟨k0, k1', k2'⟩ := kk_bd (at_ := a) hlt a0
                obtain ⟨p0, p1⟩ := placeI_bd e1 d a wb
                have hkk := kk_min (a := a) (x := y)
                have hIp : I64 (placeI l d a wb) := ⟨by omega, by omega⟩
                have hIk : I64 (kk a y) := ⟨by omega, by omega⟩
                have q0 := Int.emod_nonneg a (show (128 : Int) ≠ 0 by omega)
                have kb : kk a y ≤ 4097 := by omega
                cases hro : runOk l pg.length d wb a
                · have hnone := preR_no xs (f := f) hlt hro
                  rw [hpre.out] at hnone
                  have HNo := Lib.hid hnone
                  clear hnone hpre
                  by_cases hp : placeI l d a wb < 0
                  · go_wp2_with (go_at_call 91; refine (implPlace_c _ _ _ l _ hn (by omega) (hr.to hbw) _ _ _ hIa e1).mono ?_; rintro e w3 ⟨rfl, hb⟩; have c0 := ccell hb _ _ _ c0; have hbw := ext_step hbw hsz hb; have hsz := hbw.size; have hown := own_ext hown hb; clear hb)
                    go_ret2
                    rw [runsD_no (HR0.out.trans HNo.out), dmaOk_no (HR0.out.trans HNo.out)]
                    exact ⟨_, rfl, own_nil _ _ _ _, hbw⟩
                  · have eW := runOk_f (n := y) e1 HB1.out hlt hro (by omega)
                    go_wp2_with (first | (go_at_call 91; refine (implPlace_c _ _ _ l _ hn (by omega) (hr.to hbw) _ _ _ hIa e1).mono ?_; rintro e w3 ⟨rfl, hb⟩; have c0 := ccell hb _ _ _ c0; have hbw := ext_step hbw hsz hb; have hsz := hbw.size; have hown := own_ext hown hb; clear hb) | (go_at_call 86; refine (calls_bool (implWithin_c _ _ _ pg _ hn' (by omega) (hr'.to hbw) _ _ hIp hIk) eW).mono ?_; rintro e w4 ⟨rfl, hb⟩; have c0 := ccell hb _ _ _ c0; have hbw := ext_step hbw hsz hb; have hsz := hbw.size; have hown := own_ext hown hb; have hzb : w.heap.size + 1 ≤ w4.heap.size := cell_block_lt c0; clear hb))
                    go_ret2
                    rw [runsD_no (HR0.out.trans HNo.out), dmaOk_no (HR0.out.trans HNo.out)]
                    exact ⟨_, rfl, own_nil _ _ _ _, hbw⟩
                · obtain ⟨b0, b1, b2, b3, b4, eW⟩ := runOk_t (n := y) e1 HB1.out hlt hro
                  have hst := preR_step xs (f := f) hlt hro
                  rw [hpre.out] at hst
                  have HS := Lib.hid hst
                  have hp : ¬ placeI l d a wb < 0 := by omega
                  have hs0 : ¬ a + kk a y < 0 := by omega
                  clear hst hpre hro
                  go_wp2_with (first | (go_at_call 91; refine (implPlace_c _ _ _ l _ hn (by omega) (hr.to hbw) _ _ _ hIa e1).mono ?_; rintro e w3 ⟨rfl, hb⟩; have c0 := ccell hb _ _ _ c0; have hbw := ext_step hbw hsz hb; have hsz := hbw.size; have hown := own_ext hown hb; clear hb) | (go_at_call 86; refine (calls_bool (implWithin_c _ _ _ pg _ hn' (by omega) (hr'.to hbw) _ _ hIp hIk) eW).mono ?_; rintro e w4 ⟨rfl, hb⟩; have c0 := ccell hb _ _ _ c0; have hbw := ext_step hbw hsz hb; have hsz := hbw.size; have hown := own_ext hown hb; have hzb : w.heap.size + 1 ≤ w4.heap.size := cell_block_lt c0; clear hb) | (at_builtin; refine wpList_append_own _ rfl _ _ 124 rfl (w.heap.size + 1) 128 i0 (.agg #[.int .i64 0, .int .i64 0]) 2 16 Try.underlying124 hi hz0 hz1 hz2 rfl (by decide) _ _ _ rfl (hown.alloc _) ⟨w4.heap.size, 0, none⟩ 1 1 [.int .i64 (placeI l d a wb), .int .i64 (kk a y)] rfl rfl (cells_new _ _ _) ?c2 ?c3 ?c4 ?c5 ?_; (case c2 => (intro u hu; simp only [List.mem_cons, List.not_mem_nil, or_false] at hu; rcases hu with rfl | rfl <;> rfl)); (case c3 => (unfold maxLen; omega)); (case c4 => omega); (case c5 => (simp only [World.size_alloc]; omega)); intro v1 w5 hown1 hg1 hn1; have hb1 : Below w.heap.size w w5 := below_app (hbw.alloc hsz _) (own_base (hown.alloc _) (by omega)) hg1 (by simp only [World.size_alloc]; omega); have c0 := cell_off hg1 (ccell ((Below.refl _ _).alloc (Nat.le_refl _) _) _ _ _ c0) (fun g h1 => by have := (hown.lt g h1).1; omega); clear hn1 hg1))
                  go_roundw
                  case rel => exact ⟨f, j + 1, a + kk a y, y - kk a y, xs ++ [⟨placeI l d a wb, kk a y⟩], v1, rfl, rfl, rfl, by omega, by omega, by omega, by omega, by omega, by rw [Hid, List.length_append, hxl.out]; rfl, HS, by rw [List.flatMap_append]; exact hown1, hb1, c0⟩
                  case measure => simp [intOf]; omega
              · have hfin := hpre.out
                rw [runsG_zero hlt] at hfin
                have HF := Lib.hid hfin
                clear hfin hpre
                go_wp2
                go_ret2
                have hy : runsI l pg d at_ x wb = some xs := by rw [HR0.out, ← HF.out]; simp [preR]
                rw [runsD_yes hy, dmaOk_yes hy]
                exact ⟨_, rfl, by rw [hxl.out]; exact own_base hown (by omega), hbw⟩
end Go.Proofs.Ytnnlagmgdfhaiaa
