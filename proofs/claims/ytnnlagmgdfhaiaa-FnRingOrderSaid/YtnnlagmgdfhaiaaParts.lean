/- Contract of l17Parts: spec. -/
import Derived.Test.YtnnlagmgdfhaiaaRunsP
import Derived.Test.YtnnlagmgdfhaiaaTrans
import Derived.Test.YtnnlagmgdfhaiaaApp
namespace Go.Proofs.Ytnnlagmgdfhaiaa
set_option linter.unusedSimpArgs false
set_option linter.unusedVariables false
open Go.RowKit Go.ChangeShapes Go.WideShapes
theorem kk_min' {a x : Int} : (if 128 - a % 128 < x then 128 - a % 128 else x) = kk a x := by
  unfold kk; split <;> split <;> omega
theorem runOk_pg {l : List Mapping} {np : Nat} {d a : Int} {wb : Bool} (h0 : 0 ≤ a) : runOk l np d wb a = (decide (0 ≤ pgI l d (a / 128) wb) && decide (pgI l d (a / 128) wb < (np : Int))) := by
  have hm := Int.emod_nonneg a (show (128 : Int) ≠ 0 by omega)
  have hm2 := Int.emod_lt_of_pos a (show (0 : Int) < 128 by omega)
  rw [runOk, placeI, if_neg (by omega)]
  by_cases hg : pgI l d (a / 128) wb < 0
  · rw [if_pos hg]
    have : ¬ 0 ≤ pgI l d (a / 128) wb := by omega
    simp [this]
  · rw [if_neg hg]
    generalize pgI l d (a / 128) wb = g at *
    have e1 : (g * 128 + a % 128) / 128 = g := by omega
    have e2 : 0 ≤ g * 128 + a % 128 := by omega
    have e3 : 0 ≤ g := by omega
    rw [e1]; simp [e2, e3]
theorem with128 {pg : List ByteArray} {g : Int} (hp : memB pg = true) (h0 : 0 ≤ g) : withB pg (g * 128) 128 = decide (g < (pg.length : Int)) := by
  rw [withB, hp, Bool.true_and]
  apply Bool.eq_iff_iff.2
  simp only [Bool.and_eq_true, decide_eq_true_eq]
  omega
theorem placeI_at {l : List Mapping} {d a : Int} {wb : Bool} (h0 : 0 ≤ a) (hg : 0 ≤ pgI l d (a / 128) wb) : placeI l d a wb = pgI l d (a / 128) wb * 128 + a % 128 := by
  rw [placeI, if_neg (by omega), if_neg (by omega)]
theorem info_int7 : (Try.prog.info? 3).map (fun i => (i.zero, i.size, i.bytes)) = some (some (.int .i64 0), 1, 8) := by kernel_rfl
/-- Two rows of the call's own, in different blocks. -/
def Apart (u v : Value) : Prop := ∀ g, u.ownBlock = some g → v.ownBlock = some g → False
theorem blk_2nd {w : World} {o1 o2 : Obj} {e : TypeId} {cs : List Value} : Blk (((w.alloc o1).alloc o2).alloc (.cells cs.toArray e)) (w.heap.size + 1 + 1) e cs := by
  have := Blk.new ((w.alloc o1).alloc o2) e cs
  simpa using this
set_option maxRecDepth 100000 in
set_option maxHeartbeats 8000000 in
theorem specParts_c (A A' : Option Addr) (n c n' c' : Nat) (l : List Mapping) (pg : List ByteArray) (w : World) (hn : l.length = n) (hn' : pg.length = n') (hm : n ≤ 1048576) (hm' : n' ≤ 1048576) (hr : Reads w w.heap.size 4 A n (l.flatMap Mapping.cells)) (hr' : Reads w w.heap.size 1 A' n' (pg.flatMap fun x : ByteArray => [Value.string x])) (d at_ x : Int) (wb : Bool) (ha : I64 at_) (hx : I64 x) :
    Calls Try.prog 95 #[.slice A n c, .agg #[.slice A' n' c'], .int .i64 d, .int .i64 at_, .int .i64 x, .bool wb] w fun e w' => ∃ v1 v2, e = .returned (.tuple #[v1, v2, .bool (dmaOk l pg d at_ x wb)]) ∧ w'.ownsRow w.heap.size 3 1 v1 (runsD l pg d at_ x wb).length ((runsD l pg d at_ x wb).flatMap fun r : Run => [Value.int .i64 r.at_]) ∧ w'.ownsRow w.heap.size 3 1 v2 (runsD l pg d at_ x wb).length ((runsD l pg d at_ x wb).flatMap fun r : Run => [Value.int .i64 r.ln]) ∧ Below w.heap.size w w' := by
  obtain ⟨i0, hi, hz0, hz1, hz2⟩ := info_parts info_int7
  cases e1 : mapsB l
  · have hR : runsI l pg d at_ x wb = none := by simp [runsI, e1]
    rw [runsD_no hR, dmaOk_no hR]
    clear hR
    have oe1 : (((w.alloc (.cells #[.slice A' n' c'] 39)).alloc (.cells #[] 3)).alloc (.cells #[] 3)).ownsRow (w.heap.size + 1) 3 1 (.slice (some ⟨w.heap.size + 1, 0, none⟩) 0 0) 0 [] := own_empty ((blk_after (cs := [])).alloc _) (Nat.le_refl _)
    have oe2 : (((w.alloc (.cells #[.slice A' n' c'] 39)).alloc (.cells #[] 3)).alloc (.cells #[] 3)).ownsRow (w.heap.size + 1) 3 1 (.slice (some ⟨w.heap.size + 1 + 1, 0, none⟩) 0 0) 0 [] := own_empty (blk_2nd (cs := [])) (by omega)
    go_enter Try.func95, Try.ntmps95
    go_wp2_with (first | (go_at_call 96; refine (calls_bool (specMappingsOk_c _ _ _ l _ hn (by omega) (hr.to (by go_grown))) e1).mono ?_; rintro e w1 ⟨rfl, hb⟩; obtain ⟨c0, f0, z0⟩ := own_cell hb (b := w.heap.size) (o := 0) (v := .slice A' n' c') (by simp [go_sem]) (by simp [go_sem]); have k1 : Below w.heap.size w w1 := ext_step (by go_grown) (by go_size) hb; have oe1 := own_ext oe1 hb; have oe2 := own_ext oe2 hb; clear hb) | (go_at_call 138; refine (calls_bool (specMemoryOk_c _ _ _ pg _ hn' (by omega) (hr'.to k1)) e2).mono ?_; rintro e w2 ⟨rfl, hb⟩; obtain ⟨c0, f0, z0⟩ := own_cell hb c0 f0; have k1 := ext_step k1 k1.size hb; have oe1 := own_ext oe1 hb; have oe2 := own_ext oe2 hb; clear hb) | (go_at_call 121; refine (calls_bool (l01In_c _ _ _ _) e3).mono ?_; rintro e w9 ⟨rfl, rfl⟩))
    go_ret3
    exact ⟨_, _, rfl, own_base oe1 (by omega), own_base oe2 (by omega), k1⟩
  · cases e2 : memB pg
    · have hR : runsI l pg d at_ x wb = none := by simp [runsI, e1, e2]
      rw [runsD_no hR, dmaOk_no hR]
      clear hR
      have oe1 : (((w.alloc (.cells #[.slice A' n' c'] 39)).alloc (.cells #[] 3)).alloc (.cells #[] 3)).ownsRow (w.heap.size + 1) 3 1 (.slice (some ⟨w.heap.size + 1, 0, none⟩) 0 0) 0 [] := own_empty ((blk_after (cs := [])).alloc _) (Nat.le_refl _)
      have oe2 : (((w.alloc (.cells #[.slice A' n' c'] 39)).alloc (.cells #[] 3)).alloc (.cells #[] 3)).ownsRow (w.heap.size + 1) 3 1 (.slice (some ⟨w.heap.size + 1 + 1, 0, none⟩) 0 0) 0 [] := own_empty (blk_2nd (cs := [])) (by omega)
      go_enter Try.func95, Try.ntmps95
      go_wp2_with (first | (go_at_call 96; refine (calls_bool (specMappingsOk_c _ _ _ l _ hn (by omega) (hr.to (by go_grown))) e1).mono ?_; rintro e w1 ⟨rfl, hb⟩; obtain ⟨c0, f0, z0⟩ := own_cell hb (b := w.heap.size) (o := 0) (v := .slice A' n' c') (by simp [go_sem]) (by simp [go_sem]); have k1 : Below w.heap.size w w1 := ext_step (by go_grown) (by go_size) hb; have oe1 := own_ext oe1 hb; have oe2 := own_ext oe2 hb; clear hb) | (go_at_call 138; refine (calls_bool (specMemoryOk_c _ _ _ pg _ hn' (by omega) (hr'.to k1)) e2).mono ?_; rintro e w2 ⟨rfl, hb⟩; obtain ⟨c0, f0, z0⟩ := own_cell hb c0 f0; have k1 := ext_step k1 k1.size hb; have oe1 := own_ext oe1 hb; have oe2 := own_ext oe2 hb; clear hb) | (go_at_call 121; refine (calls_bool (l01In_c _ _ _ _) e3).mono ?_; rintro e w9 ⟨rfl, rfl⟩))
      go_ret3
      exact ⟨_, _, rfl, own_base oe1 (by omega), own_base oe2 (by omega), k1⟩
    · cases e3 : inB x 0 4096
      · have hR : runsI l pg d at_ x wb = none := by simp [runsI, e1, e2, e3]
        rw [runsD_no hR, dmaOk_no hR]
        clear hR
        have oe1 : (((w.alloc (.cells #[.slice A' n' c'] 39)).alloc (.cells #[] 3)).alloc (.cells #[] 3)).ownsRow (w.heap.size + 1) 3 1 (.slice (some ⟨w.heap.size + 1, 0, none⟩) 0 0) 0 [] := own_empty ((blk_after (cs := [])).alloc _) (Nat.le_refl _)
        have oe2 : (((w.alloc (.cells #[.slice A' n' c'] 39)).alloc (.cells #[] 3)).alloc (.cells #[] 3)).ownsRow (w.heap.size + 1) 3 1 (.slice (some ⟨w.heap.size + 1 + 1, 0, none⟩) 0 0) 0 [] := own_empty (blk_2nd (cs := [])) (by omega)
        go_enter Try.func95, Try.ntmps95
        go_wp2_with (first | (go_at_call 96; refine (calls_bool (specMappingsOk_c _ _ _ l _ hn (by omega) (hr.to (by go_grown))) e1).mono ?_; rintro e w1 ⟨rfl, hb⟩; obtain ⟨c0, f0, z0⟩ := own_cell hb (b := w.heap.size) (o := 0) (v := .slice A' n' c') (by simp [go_sem]) (by simp [go_sem]); have k1 : Below w.heap.size w w1 := ext_step (by go_grown) (by go_size) hb; have oe1 := own_ext oe1 hb; have oe2 := own_ext oe2 hb; clear hb) | (go_at_call 138; refine (calls_bool (specMemoryOk_c _ _ _ pg _ hn' (by omega) (hr'.to k1)) e2).mono ?_; rintro e w2 ⟨rfl, hb⟩; obtain ⟨c0, f0, z0⟩ := own_cell hb c0 f0; have k1 := ext_step k1 k1.size hb; have oe1 := own_ext oe1 hb; have oe2 := own_ext oe2 hb; clear hb) | (go_at_call 121; refine (calls_bool (l01In_c _ _ _ _) e3).mono ?_; rintro e w9 ⟨rfl, rfl⟩))
        go_ret3
        exact ⟨_, _, rfl, own_base oe1 (by omega), own_base oe2 (by omega), k1⟩
      · obtain ⟨x0, x1⟩ := inB_t e3
        have hR0 : runsI l pg d at_ x wb = runsG l pg.length d wb 4097 at_ x := by simp [runsI, e1, e2, e3]
        have HR0 := Lib.hid hR0
        clear hR0
        obtain ⟨ha1, ha2⟩ := ha
        have oe1 : (((w.alloc (.cells #[.slice A' n' c'] 39)).alloc (.cells #[] 3)).alloc (.cells #[] 3)).ownsRow (w.heap.size + 1) 3 1 (.slice (some ⟨w.heap.size + 1, 0, none⟩) 0 0) 0 [] := own_empty ((blk_after (cs := [])).alloc _) (Nat.le_refl _)
        have oe2 : (((w.alloc (.cells #[.slice A' n' c'] 39)).alloc (.cells #[] 3)).alloc (.cells #[] 3)).ownsRow (w.heap.size + 1) 3 1 (.slice (some ⟨w.heap.size + 1 + 1, 0, none⟩) 0 0) 0 [] := own_empty (blk_2nd (cs := [])) (by omega)
        go_enter Try.func95, Try.ntmps95
        go_wp2_with (first | (go_at_call 96; refine (calls_bool (specMappingsOk_c _ _ _ l _ hn (by omega) (hr.to (by go_grown))) e1).mono ?_; rintro e w1 ⟨rfl, hb⟩; obtain ⟨c0, f0, z0⟩ := own_cell hb (b := w.heap.size) (o := 0) (v := .slice A' n' c') (by simp [go_sem]) (by simp [go_sem]); have k1 : Below w.heap.size w w1 := ext_step (by go_grown) (by go_size) hb; have oe1 := own_ext oe1 hb; have oe2 := own_ext oe2 hb; clear hb) | (go_at_call 138; refine (calls_bool (specMemoryOk_c _ _ _ pg _ hn' (by omega) (hr'.to k1)) e2).mono ?_; rintro e w2 ⟨rfl, hb⟩; obtain ⟨c0, f0, z0⟩ := own_cell hb c0 f0; have k1 := ext_step k1 k1.size hb; have oe1 := own_ext oe1 hb; have oe2 := own_ext oe2 hb; clear hb) | (go_at_call 121; refine (calls_bool (l01In_c _ _ _ _) e3).mono ?_; rintro e w9 ⟨rfl, rfl⟩))
        have HB1 := Lib.hid e2
        have hz1' : w.heap.size + 1 ≤ w2.heap.size := cell_block_lt c0
        clear e2 e3
        go_loopw [3, 4, 15, 16] (fun av nv s1 s2 wr => ∃ (f j : Nat) (a y : Int) (xs : List Run) (u1 u2 : Value), av = .int .i64 a ∧ nv = .int .i64 y ∧ s1 = u1 ∧ s2 = u2 ∧ -9223372036854775808 ≤ a ∧ a ≤ 9223372036854775807 ∧ 0 ≤ y ∧ y ≤ f ∧ j + f = 4097 ∧ Hid (xs.length = j) ∧ Hid (preR xs (runsG l pg.length d wb f a y) = runsG l pg.length d wb 4097 at_ x) ∧ wr.ownsRow (w.heap.size + 1) 3 1 u1 j (xs.flatMap fun r : Run => [Value.int .i64 r.at_]) ∧ wr.ownsRow (w.heap.size + 1) 3 1 u2 j (xs.flatMap fun r : Run => [Value.int .i64 r.ln]) ∧ Apart u1 u2 ∧ Below w.heap.size w wr ∧ wr.cell? ⟨w.heap.size, 0, none⟩ = some (.slice A' n' c')) (fun _ nv _ _ _ => (intOf nv).toNat)
        case atStart => exact ⟨4097, 0, at_, x, [], _, _, rfl, rfl, rfl, rfl, ha1, ha2, x0, by omega, rfl, rfl, preR_nil _, oe1, oe2, (fun g h1 h2 => by simp [Value.ownBlock] at h1 h2; omega), k1, c0⟩
        case round =>
          obtain ⟨f, j, a, y, xs, u1, u2, rfl, rfl, hu1, hu2, a0, a1, y0, yf, hjf, hxl, hpre, o1, o2, hap, hbw, c0⟩ := hrel
          have hu1 := hu1.symm
          have hu2 := hu2.symm
          subst hu1
          subst hu2
          have hsz := hbw.size
          by_cases hlt : 0 < y
          · obtain ⟨f, rfl⟩ : ∃ f', f = f' + 1 := ⟨f - 1, by omega⟩
            by_cases han : a < 0
            · have hnone := preR_no xs (f := f) (l := l) (np := pg.length) (d := d) (wr := wb) hlt (by rw [runOk, placeI_neg han]; rfl)
              rw [hpre.out] at hnone
              have HNo := Lib.hid hnone
              clear hnone hpre
              go_wp2
              go_ret3
              rw [runsD_no (HR0.out.trans HNo.out), dmaOk_no (HR0.out.trans HNo.out)]
              exact ⟨_, _, rfl, own_base (own_empty ((Blk.new _ _ []).alloc _) hsz) (Nat.le_refl _), own_base (own_empty (blk_after (cs := [])) (by omega)) (Nat.le_refl _), by go_grown⟩
            · have han2 : 0 ≤ a := by omega
              have hrg := runOk_pg (l := l) (np := pg.length) (d := d) (a := a) (wb := wb) han2
              obtain ⟨g0, g1⟩ := pgI_bd e1 d (a / 128) wb
              have HG := Lib.hid (l17G_pg e1 d (a / 128) wb)
              have q0 := Int.emod_nonneg a (show (128 : Int) ≠ 0 by omega)
              have q1 := Int.emod_lt_of_pos a (show (0 : Int) < 128 by omega)
              obtain ⟨k0, k1', k2'⟩ := kk_bd (at_ := a) hlt han2
              have hkk := kk_min' (a := a) (x := y)
              have hIk : I64 (128 : Int) := ⟨by omega, by omega⟩
              have hIp : I64 (pgI l d (a / 128) wb * 128) := ⟨by omega, by omega⟩
              by_cases hg : pgI l d (a / 128) wb < 0
              · have hnone := preR_no xs (f := f) (l := l) (np := pg.length) (d := d) (wr := wb) hlt (by rw [hrg, show decide (0 ≤ pgI l d (a / 128) wb) = false from decide_eq_false (by omega)]; rfl)
                rw [hpre.out] at hnone
                have HNo := Lib.hid hnone
                clear hnone hpre hrg
                go_wp2_with (go_at_call 97; refine (specPage_c _ _ _ l _ hn (by omega) (hr.to hbw) _ _ _).mono ?_; rintro e w3 ⟨rfl, rfl⟩; rw [HG.out])
                go_ret3
                rw [runsD_no (HR0.out.trans HNo.out), dmaOk_no (HR0.out.trans HNo.out)]
                exact ⟨_, _, rfl, own_base (own_empty ((Blk.new _ _ []).alloc _) hsz) (Nat.le_refl _), own_base (own_empty (blk_after (cs := [])) (by omega)) (Nat.le_refl _), by go_grown⟩
              · have hg2 : 0 ≤ pgI l d (a / 128) wb := by omega
                have hw := with128 HB1.out hg2
                cases hwi : withB pg (pgI l d (a / 128) wb * 128) 128
                · have hnone := preR_no xs (f := f) (l := l) (np := pg.length) (d := d) (wr := wb) hlt (by rw [hrg, ← hw, hwi]; simp)
                  rw [hpre.out] at hnone
                  have HNo := Lib.hid hnone
                  clear hnone hpre hrg hw
                  go_wp2_with (first | (go_at_call 97; refine (specPage_c _ _ _ l _ hn (by omega) (hr.to hbw) _ _ _).mono ?_; rintro e w3 ⟨rfl, rfl⟩; rw [HG.out]) | (go_at_call 88; refine (calls_bool (specWithin_c _ _ _ pg _ hn' (by omega) (hr'.to hbw) _ _ hIp hIk) hwi).mono ?_; rintro e w4 ⟨rfl, hb⟩; have c0 := ccell hb _ _ _ c0; have hbw := ext_step hbw hsz hb; have hsz := hbw.size; have o1 := own_ext o1 hb; have o2 := own_ext o2 hb; have hzb : w.heap.size + 1 ≤ w4.heap.size := cell_block_lt c0; clear hb))
                  go_ret3
                  rw [runsD_no (HR0.out.trans HNo.out), dmaOk_no (HR0.out.trans HNo.out)]
                  exact ⟨_, _, rfl, own_base (own_empty ((Blk.new _ _ []).alloc _) hsz) (Nat.le_refl _), own_base (own_empty (blk_after (cs := [])) (by omega)) (Nat.le_refl _), by go_grown⟩
                · have hst := preR_step xs (f := f) (l := l) (np := pg.length) (d := d) (wr := wb) hlt (by rw [hrg, ← hw, hwi]; simp [hg2])
                  rw [hpre.out, placeI_at han2 hg2] at hst
                  have HS := Lib.hid hst
                  have hab := pgI_vir e1 hg2
                  clear hst hpre hrg hw
                  go_wp2_with (first | (go_at_call 97; refine (specPage_c _ _ _ l _ hn (by omega) (hr.to hbw) _ _ _).mono ?_; rintro e w3 ⟨rfl, rfl⟩; rw [HG.out]) | (go_at_call 88; refine (calls_bool (specWithin_c _ _ _ pg _ hn' (by omega) (hr'.to hbw) _ _ hIp hIk) hwi).mono ?_; rintro e w4 ⟨rfl, hb⟩; have c0 := ccell hb _ _ _ c0; have hbw := ext_step hbw hsz hb; have hsz := hbw.size; have o1 := own_ext o1 hb; have o2 := own_ext o2 hb; have hzb : w.heap.size + 1 ≤ w4.heap.size := cell_block_lt c0; clear hb) | (at_builtin; refine wpList_append_any _ rfl _ _ 25 rfl (w.heap.size + 1) 3 i0 (.int .i64 0) 1 8 Try.underlying25 hi hz0 hz1 hz2 rfl (by decide) _ j (xs.flatMap fun r : Run => [Value.int .i64 r.ln]) rfl (oA2.alloc _) (wA.heap.size + 1) (some ⟨wA.heap.size, 0, none⟩) 1 1 [.int .i64 (kk a y)] rfl (new_reads _ _ _) (by intro u hu; simp at hu; subst hu; rfl) (by unfold maxLen; omega) (by omega) (by simp only [World.size_alloc]; omega) ?_; intro v2 wB oB2 hgB hatB; have kB : Below w.heap.size w wB := below_app (kA.alloc (by omega) _) (own_base (oA2.alloc _) (by omega)) hgB (by simp only [World.size_alloc]; omega); have oB1 := own_far (oA1.alloc _) hgB (fun g h1 h2 => apA g h1 h2); have c0 := cell_off hgB (ccell ((Below.refl _ _).alloc (Nat.le_refl _) _) _ _ _ c0) (fun g h1 => by have := (oA2.lt g h1).1; omega); have apB : Apart v1 v2 := (fun g h1 h2 => by (rcases hatB with h | h); (· (rw [h] at h2; exact apA g h1 h2)); (· (rw [h] at h2; injection h2 with h2; simp only [World.size_alloc] at h2; have := (oA1.lt g h1).2; omega))); clear hgB hatB) | (at_builtin; refine wpList_append_any _ rfl _ _ 25 rfl (w.heap.size + 1) 3 i0 (.int .i64 0) 1 8 Try.underlying25 hi hz0 hz1 hz2 rfl (by decide) _ j (xs.flatMap fun r : Run => [Value.int .i64 r.at_]) rfl (o1.alloc _) (w4.heap.size + 1) (some ⟨w4.heap.size, 0, none⟩) 1 1 [.int .i64 (pgI l d (a / 128) wb * 128 + a % 128)] rfl (new_reads _ _ _) (by intro u hu; simp at hu; subst hu; rfl) (by unfold maxLen; omega) (by omega) (by simp only [World.size_alloc]; omega) ?_; intro v1 wA oA1 hgA hatA; have kA : Below w.heap.size w wA := below_app (hbw.alloc hsz _) (own_base (o1.alloc _) (by omega)) hgA (by simp only [World.size_alloc]; omega); have oA2 := own_far (o2.alloc _) hgA (fun g h1 h2 => hap g h2 h1); have c0 := cell_off hgA (ccell ((Below.refl _ _).alloc (Nat.le_refl _) _) _ _ _ c0) (fun g h1 => by have := (o1.lt g h1).1; omega); have zA : w4.heap.size + 1 ≤ wA.heap.size := (by have := hgA.size; simpa using this); have apA : Apart v1 u2 := (fun g h1 h2 => by (rcases hatA with h | h); (· (rw [h] at h1; exact hap g h1 h2)); (· (rw [h] at h1; injection h1 with h1; simp only [World.size_alloc] at h1; have := (o2.lt g h2).2; omega))); clear hgA hatA))
                  go_roundw
                  case rel => exact ⟨f, j + 1, a + kk a y, y - kk a y, xs ++ [⟨pgI l d (a / 128) wb * 128 + a % 128, kk a y⟩], v1, v2, rfl, rfl, rfl, rfl, by omega, by omega, by omega, by omega, by omega, by rw [Hid, List.length_append, hxl.out]; rfl, HS, by rw [List.flatMap_append]; exact oB1, by rw [List.flatMap_append]; exact oB2, apB, kB, c0⟩
                  case measure => simp [intOf]; omega
          · have hfin := hpre.out
            rw [runsG_zero hlt] at hfin
            have HF := Lib.hid hfin
            clear hfin hpre
            go_wp2
            go_ret3
            have hy : runsI l pg d at_ x wb = some xs := by rw [HR0.out, ← HF.out]; simp [preR]
            rw [runsD_yes hy, dmaOk_yes hy, hxl.out]
            exact ⟨_, _, rfl, own_base o1 (by omega), own_base o2 (by omega), hbw⟩
end Go.Proofs.Ytnnlagmgdfhaiaa
