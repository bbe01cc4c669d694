/- The walk of laws.FnUnmapped. -/
import Derived.Test.YtnnlagmgdfhaiaaDrawMap
import Derived.Test.YtnnlagmgdfhaiaaDmaP
import Derived.Test.YtnnlagmgdfhaiaaDmaRead
import Derived.Test.YtnnlagmgdfhaiaaLawAt
namespace Go.Proofs.Ytnnlagmgdfhaiaa
set_option linter.unusedSimpArgs false
set_option linter.unusedVariables false
open Go.RowKit Go.ChangeShapes Go.WideShapes
set_option maxRecDepth 100000 in
set_option maxHeartbeats 4000000 in
theorem fnUnmapped_walk (A : Option Addr) (n c : Nat) (l : List Int) (w : World) (hs : SlBytes w A n c l) :
    Calls Try.prog 5 #[.slice A n c] w fun e w' => e = .returned (.bool true) ∧ Below w.heap.size w w' := by
  obtain ⟨⟨hn, hnc, hc, hr⟩, hok⟩ := hs
  have hm : n ≤ 9223372036854775807 := by omega
  by_cases hbig : (1048576 : Int) < n
  · go_enter Try.func5, Try.ntmps5
    go_wp2_with fail
    refine (big_c _ _ _ _).mono ?_
    rintro e wq ⟨rfl, rfl⟩
    go_wp2
    go_ret
    exact ⟨rfl, Below.refl _ _⟩
  · have hm2 : n ≤ 1048576 := by omega
    go_enter Try.func5, Try.ntmps5
    go_wp2_with fail
    refine (big_c _ _ _ _).mono ?_
    rintro e wq ⟨rfl, rfl⟩
    have k0 : Below w.heap.size w w := Below.refl _ _
    have p0 : w.heap.size ≤ w.heap.size := Nat.le_refl _
    have r_u := hr
    have hn_u := hn
    go_wp2_with fail
    refine (drawMapped_c A n c l _ hn_u hm2 (r_u.more (by omega)) hok).mono ?_
    rintro e w1 ⟨ml, pg, A_m, c_m, A_p, c_p, d, at_, s, ⟨hml, hl13, hpg, hp1, hp6, d0, d1, a0, a1, hsz⟩, rfl, o_m, o_p, hb⟩
    have k1 : Below w.heap.size w w1 := ext_step k0 (by omega) hb
    have p1 := hb.size
    replace r_u := r_u.below (hb.mono (by omega))
    obtain ⟨jm, hn_m⟩ : ∃ j, ml.length = j := ⟨_, rfl⟩
    obtain ⟨jp, hn_p⟩ : ∃ j, pg.length = j := ⟨_, rfl⟩
    rw [hn_m] at hl13 o_m ⊢
    rw [hn_p] at hp1 hp6 o_p ⊢
    have r_m := Reads.of_own o_m
    have u_m := fun k hk => (o_m.lt k hk).2
    have r_p := Reads.of_own o_p
    have u_p := fun k hk => (o_p.lt k hk).2
    clear hb
    have HM := Lib.hid hn_m
    have HP := Lib.hid hn_p
    clear hn_m hn_p
    by_cases hj0 : jm = 0
    · skip
      go_wp2_with fail
      have hb : Below w1.heap.size w1 (w1.alloc (.cells #[.slice A_p jp c_p] 39)) := by go_grown
      have bx0_0 : (w1.alloc (.cells #[.slice A_p jp c_p] 39)).cell? ⟨w1.heap.size, 0, none⟩ = some (.slice A_p jp c_p) := by simp [go_sem]
      have bl0 : w1.heap.size < (w1.alloc (.cells #[.slice A_p jp c_p] 39)).heap.size := by go_size
      generalize hW0 : (w1.alloc (.cells #[.slice A_p jp c_p] 39)) = w2 at *
      clear hW0
      have k2 : Below w.heap.size w w2 := ext_step k1 (by omega) hb
      have p2 := hb.size
      replace r_u := r_u.below (hb.mono (by omega))
      replace r_m := r_m.below (hb.mono (by omega))
      replace o_m := own_ext o_m hb
      replace r_p := r_p.below (hb.mono (by omega))
      replace o_p := own_ext o_p hb
      skip
      clear hb
      have hml0 : ml = [] := List.eq_nil_of_length_eq_zero (by rw [HM.out]; exact hj0)
      subst hml0
      subst hj0
      obtain ⟨E1, E2, E3⟩ := unmapped0
      refine (implMapPage_c A_m 0 c_m [] _ HM.out (by omega) (r_m.more (by omega)) ⟨0, 3, 0, false⟩).mono ?_
      rintro e w3 ⟨A_x, c_x, rfl, o_x, hb⟩
      have k3 : Below w.heap.size w w3 := ext_step k2 (by omega) hb
      have p3 := hb.size
      replace bx0_0 := ccell hb _ _ _ bx0_0
      have bl0 := Nat.lt_of_lt_of_le bl0 hb.size
      replace r_u := r_u.below (hb.mono (by omega))
      replace r_m := r_m.below (hb.mono (by omega))
      replace o_m := own_ext o_m hb
      replace r_p := r_p.below (hb.mono (by omega))
      replace o_p := own_ext o_p hb
      rw [E1]
      rw [E2] at o_x ⊢
      have o_x : w3.ownsRow w2.heap.size 51 4 (.slice A_x 1 c_x) 1 _ := o_x
      simp only [List.length_cons, List.length_nil, Nat.zero_add]
      have r_x := Reads.of_own o_x
      have u_x := fun k hk => (o_x.lt k hk).2
      clear hb
      go_wp2_with fail
      refine (implTranslate_c A_x 1 c_x _ _ rfl (by omega) (r_x.more (by omega)) 0 385 false ⟨by omega, by omega⟩).mono ?_
      rintro e w4 ⟨rfl, hb⟩
      have k4 : Below w.heap.size w w4 := ext_step k3 (by omega) hb
      have p4 := hb.size
      replace bx0_0 := ccell hb _ _ _ bx0_0
      have bl0 := Nat.lt_of_lt_of_le bl0 hb.size
      replace r_u := r_u.below (hb.mono (by omega))
      replace r_m := r_m.below (hb.mono (by omega))
      replace o_m := own_ext o_m hb
      replace r_p := r_p.below (hb.mono (by omega))
      replace o_p := own_ext o_p hb
      replace r_x := r_x.below (hb.mono (by omega))
      replace o_x := own_ext o_x hb
      rw [E3]
      clear hb
      go_wp2
      go_ret
      exact ⟨rfl, k4⟩
    · skip
      have hj1 : ((jm : Int) == 0) = false := by simp; omega
      go_wp2_with fail
      have hb : Below w1.heap.size w1 (w1.alloc (.cells #[.slice A_p jp c_p] 39)) := by go_grown
      have bx0_0 : (w1.alloc (.cells #[.slice A_p jp c_p] 39)).cell? ⟨w1.heap.size, 0, none⟩ = some (.slice A_p jp c_p) := by simp [go_sem]
      have bl0 : w1.heap.size < (w1.alloc (.cells #[.slice A_p jp c_p] 39)).heap.size := by go_size
      generalize hW0 : (w1.alloc (.cells #[.slice A_p jp c_p] 39)) = w2 at *
      clear hW0
      have k2 : Below w.heap.size w w2 := ext_step k1 (by omega) hb
      have p2 := hb.size
      replace r_u := r_u.below (hb.mono (by omega))
      replace r_m := r_m.below (hb.mono (by omega))
      replace o_m := own_ext o_m hb
      replace r_p := r_p.below (hb.mono (by omega))
      replace o_p := own_ext o_p hb
      skip
      clear hb
      obtain ⟨p0_, q0_⟩ := atI_bd hok 0
      obtain ⟨p1_, q1_⟩ := atI_bd hok 1
      refine (at_c A n c l 0 _ (by omega) hn_u hm (r_u.more (by omega)) hok).mono ?_
      rintro e w3 ⟨rfl, hb⟩
      have k3 : Below w.heap.size w w3 := ext_step k2 (by omega) hb
      have p3 := hb.size
      replace bx0_0 := ccell hb _ _ _ bx0_0
      have bl0 := Nat.lt_of_lt_of_le bl0 hb.size
      replace r_u := r_u.below (hb.mono (by omega))
      replace r_m := r_m.below (hb.mono (by omega))
      replace o_m := own_ext o_m hb
      replace r_p := r_p.below (hb.mono (by omega))
      replace o_p := own_ext o_p hb
      clear hb
      have HAT := fun w hr => at_q A n c l 1 w (by omega) hn_u hm hr hok
      obtain ⟨z0, hz0⟩ := Int.eq_ofNat_of_zero_le p0_
      rw [hz0]
      clear hz0 p0_ q0_
      generalize atI l 1 = z1 at *
      have hlt := Nat.mod_lt z0 (Nat.pos_of_ne_zero hj0)
      obtain ⟨b, o, x, rfl, hbb, hx, hcc⟩ := r_m.el (fun _ => rfl) (by decide) HM.out hlt
      have e0 : w3.cell? ⟨b, o + z0 % jm * 4, none⟩ = some (.int .i64 x.dom) := by simpa using hcc 0 _ rfl
      have e1 : w3.cell? ⟨b, o + z0 % jm * 4 + 1, none⟩ = some (.int .i64 x.vir) := by simpa using hcc 1 _ rfl
      have e2 : w3.cell? ⟨b, o + z0 % jm * 4 + 2, none⟩ = some (.int .i64 x.phy) := by simpa using hcc 2 _ rfl
      have e3 : w3.cell? ⟨b, o + z0 % jm * 4 + 3, none⟩ = some (.bool x.wr) := by simpa using hcc 3 _ rfl
      have hzb : 0 ≤ z1 % 128 ∧ z1 % 128 ≤ 127 := by omega
      have hbd := mapIn_bd (mapsB_el hml hx).1
      have HU := fun pg => unmapped hml hx (z1 % 128) hzb pg
      clear hcc
      have hne : ((jm : Int) == 0) = false := by simp; omega
      have m1 := Int.emod_nonneg (z0 : Int) (show (jm : Int) ≠ 0 by omega)
      have m2 := Int.emod_lt_of_pos (z0 : Int) (show 0 < (jm : Int) by omega)
      go_wp2_with fail
      have hb : Below w3.heap.size w3 (w3.alloc (.cells #[.int .i64 x.dom, .int .i64 x.vir, .int .i64 x.phy, .bool x.wr] 51)) := by go_grown
      have bx1_0 : (w3.alloc (.cells #[.int .i64 x.dom, .int .i64 x.vir, .int .i64 x.phy, .bool x.wr] 51)).cell? ⟨w3.heap.size, 0, none⟩ = some (.int .i64 x.dom) := by simp [go_sem]
      have bx1_1 : (w3.alloc (.cells #[.int .i64 x.dom, .int .i64 x.vir, .int .i64 x.phy, .bool x.wr] 51)).cell? ⟨w3.heap.size, 1, none⟩ = some (.int .i64 x.vir) := by simp [go_sem]
      have bx1_2 : (w3.alloc (.cells #[.int .i64 x.dom, .int .i64 x.vir, .int .i64 x.phy, .bool x.wr] 51)).cell? ⟨w3.heap.size, 2, none⟩ = some (.int .i64 x.phy) := by simp [go_sem]
      have bx1_3 : (w3.alloc (.cells #[.int .i64 x.dom, .int .i64 x.vir, .int .i64 x.phy, .bool x.wr] 51)).cell? ⟨w3.heap.size, 3, none⟩ = some (.bool x.wr) := by simp [go_sem]
      have bl1 : w3.heap.size < (w3.alloc (.cells #[.int .i64 x.dom, .int .i64 x.vir, .int .i64 x.phy, .bool x.wr] 51)).heap.size := by go_size
      generalize hW0 : (w3.alloc (.cells #[.int .i64 x.dom, .int .i64 x.vir, .int .i64 x.phy, .bool x.wr] 51)) = w4 at *
      clear hW0
      have k4 : Below w.heap.size w w4 := ext_step k3 (by omega) hb
      have p4 := hb.size
      replace bx0_0 := ccell hb _ _ _ bx0_0
      have bl0 := Nat.lt_of_lt_of_le bl0 hb.size
      replace r_u := r_u.below (hb.mono (by omega))
      replace r_m := r_m.below (hb.mono (by omega))
      replace o_m := own_ext o_m hb
      replace r_p := r_p.below (hb.mono (by omega))
      replace o_p := own_ext o_p hb
      skip
      clear hb
      have hat : ∀ t : Ext w4, Calls Try.prog 15 #[.slice A n c, .int .i64 1] t.wd fun e w' => e = .returned (.int .i64 z1) ∧ t.wd = w' := fun t => HAT t.wd (((r_u.more (by omega) : Reads w4 w4.heap.size 1 A n _).below t.below).more t.below.size)
      have hxt := fun t : Ext w4 => t.cell bx1_1
      refine wp_region_ext_lit (by kernel_rfl) (by kernel_rfl) ?_
      repeat (go_big_quiet_step (first | (go_at_call 15; exact ext_same (hat _))))
      refine wpQuiet_nil ?_
      intro _ hw'
      obtain ⟨tq, hw''⟩ := hw'
      subst hw''
      have hb := tq.below
      generalize hW0 : tq.wd = w5 at *
      clear hW0 hxt
      have k5 : Below w.heap.size w w5 := ext_step k4 (by omega) hb
      have p5 := hb.size
      replace bx0_0 := ccell hb _ _ _ bx0_0
      replace bx1_0 := ccell hb _ _ _ bx1_0
      replace bx1_1 := ccell hb _ _ _ bx1_1
      replace bx1_2 := ccell hb _ _ _ bx1_2
      replace bx1_3 := ccell hb _ _ _ bx1_3
      have bl0 := Nat.lt_of_lt_of_le bl0 hb.size
      have bl1 := Nat.lt_of_lt_of_le bl1 hb.size
      replace r_u := r_u.below (hb.mono (by omega))
      replace r_m := r_m.below (hb.mono (by omega))
      replace o_m := own_ext o_m hb
      replace r_p := r_p.below (hb.mono (by omega))
      replace o_p := own_ext o_p hb
      clear hb
      clear hat
      obtain ⟨U1, U2, U3, U4, U5, U6, U7, U8, U9⟩ := HU pg
      clear HU
      go_wp2_with fail
      refine (implUnmapPage_c _ jm c_m ml _ HM.out (by omega) (r_m.more (by omega)) x.dom x.vir).mono ?_
      rintro e w6 ⟨A_s, c_s, rfl, o_s, hb⟩
      have k6 : Below w.heap.size w w6 := ext_step k5 (by omega) hb
      have p6 := hb.size
      replace bx0_0 := ccell hb _ _ _ bx0_0
      replace bx1_0 := ccell hb _ _ _ bx1_0
      replace bx1_1 := ccell hb _ _ _ bx1_1
      replace bx1_2 := ccell hb _ _ _ bx1_2
      replace bx1_3 := ccell hb _ _ _ bx1_3
      have bl0 := Nat.lt_of_lt_of_le bl0 hb.size
      have bl1 := Nat.lt_of_lt_of_le bl1 hb.size
      replace r_u := r_u.below (hb.mono (by omega))
      replace r_m := r_m.below (hb.mono (by omega))
      replace o_m := own_ext o_m hb
      replace r_p := r_p.below (hb.mono (by omega))
      replace o_p := own_ext o_p hb
      rw [U1]
      generalize hls : unL ml x.dom x.vir = ls at *
      obtain ⟨js, hn_s⟩ : ∃ j, ls.length = j := ⟨_, rfl⟩
      rw [hn_s] at o_s U7 ⊢
      have HS := Lib.hid hn_s
      have HM2 := HM.out
      have hjs : js + 1 = jm := by omega
      clear hn_s hls HM2 U7 U1
      have r_s := Reads.of_own o_s
      have u_s := fun k hk => (o_s.lt k hk).2
      clear hb
      go_wp2_with fail
      refine (implMapPage_c A_s js c_s ls _ HS.out (by omega) (r_s.more (by omega)) x).mono ?_
      rintro e w7 ⟨A_y, c_y, rfl, o_y, hb⟩
      have k7 : Below w.heap.size w w7 := ext_step k6 (by omega) hb
      have p7 := hb.size
      replace bx0_0 := ccell hb _ _ _ bx0_0
      replace bx1_0 := ccell hb _ _ _ bx1_0
      replace bx1_1 := ccell hb _ _ _ bx1_1
      replace bx1_2 := ccell hb _ _ _ bx1_2
      replace bx1_3 := ccell hb _ _ _ bx1_3
      have bl0 := Nat.lt_of_lt_of_le bl0 hb.size
      have bl1 := Nat.lt_of_lt_of_le bl1 hb.size
      replace r_u := r_u.below (hb.mono (by omega))
      replace r_m := r_m.below (hb.mono (by omega))
      replace o_m := own_ext o_m hb
      replace r_p := r_p.below (hb.mono (by omega))
      replace o_p := own_ext o_p hb
      replace r_s := r_s.below (hb.mono (by omega))
      replace o_s := own_ext o_s hb
      rw [U2]
      generalize mapL ls x = ly at *
      obtain ⟨jy, hn_y⟩ : ∃ j, ly.length = j := ⟨_, rfl⟩
      rw [hn_y] at o_y ⊢
      have HY := Lib.hid hn_y
      have hly := mapsB_len U9
      rw [hn_y] at hly
      clear hn_y
      have r_y := Reads.of_own o_y
      have u_y := fun k hk => (o_y.lt k hk).2
      clear hb
      go_wp2_with fail
      refine (implDmaRead_c A_s A_p js c_s jp c_p ls pg _ HS.out HP.out (by omega) (by omega) (r_s.more (by omega)) (r_p.more (by omega)) x.dom (x.vir * 128 + z1 % 128) 1 ⟨by omega, by omega⟩ ⟨by omega, by omega⟩).mono ?_
      rintro e w8 ⟨rfl, hb⟩
      have k8 : Below w.heap.size w w8 := ext_step k7 (by omega) hb
      have p8 := hb.size
      replace bx0_0 := ccell hb _ _ _ bx0_0
      replace bx1_0 := ccell hb _ _ _ bx1_0
      replace bx1_1 := ccell hb _ _ _ bx1_1
      replace bx1_2 := ccell hb _ _ _ bx1_2
      replace bx1_3 := ccell hb _ _ _ bx1_3
      have bl0 := Nat.lt_of_lt_of_le bl0 hb.size
      have bl1 := Nat.lt_of_lt_of_le bl1 hb.size
      replace r_u := r_u.below (hb.mono (by omega))
      replace r_m := r_m.below (hb.mono (by omega))
      replace o_m := own_ext o_m hb
      replace r_p := r_p.below (hb.mono (by omega))
      replace o_p := own_ext o_p hb
      replace r_s := r_s.below (hb.mono (by omega))
      replace o_s := own_ext o_s hb
      replace r_y := r_y.below (hb.mono (by omega))
      replace o_y := own_ext o_y hb
      rw [U3]
      clear hb
      generalize dmaR ls pg x.dom (x.vir * 128 + z1 % 128) 1 = tx
      go_wp2_with fail
      refine (implMapPage_c _ jm c_m ml _ HM.out (by omega) (r_m.more (by omega)) x).mono ?_
      rintro e w9 ⟨A_v, c_v, rfl, o_v, hb⟩
      have k9 : Below w.heap.size w w9 := ext_step k8 (by omega) hb
      have p9 := hb.size
      replace bx0_0 := ccell hb _ _ _ bx0_0
      replace bx1_0 := ccell hb _ _ _ bx1_0
      replace bx1_1 := ccell hb _ _ _ bx1_1
      replace bx1_2 := ccell hb _ _ _ bx1_2
      replace bx1_3 := ccell hb _ _ _ bx1_3
      have bl0 := Nat.lt_of_lt_of_le bl0 hb.size
      have bl1 := Nat.lt_of_lt_of_le bl1 hb.size
      replace r_u := r_u.below (hb.mono (by omega))
      replace r_m := r_m.below (hb.mono (by omega))
      replace o_m := own_ext o_m hb
      replace r_p := r_p.below (hb.mono (by omega))
      replace o_p := own_ext o_p hb
      replace r_s := r_s.below (hb.mono (by omega))
      replace o_s := own_ext o_s hb
      replace r_y := r_y.below (hb.mono (by omega))
      replace o_y := own_ext o_y hb
      rw [U4]
      clear hb
      clear o_v
      have hq1 : ((js : Int) == (jm : Int) - 1) = true := by simp; omega
      go_wp2_with fail
      have hat : ∀ t : Ext w9, Calls Try.prog 15 #[.slice A n c, .int .i64 1] t.wd fun e w' => e = .returned (.int .i64 z1) ∧ t.wd = w' := fun t => HAT t.wd (((r_u.more (by omega) : Reads w9 w9.heap.size 1 A n _).below t.below).more t.below.size)
      have ht1 : ∀ t : Ext w9, Calls Try.prog 30 #[.slice A_s js c_s, .int .i64 x.dom, .int .i64 (x.vir * 128 + z1 % 128), .bool false] t.wd fun e w' => e = .returned (.int .i64 (-1)) ∧ Below t.wd.heap.size t.wd w' := fun t => by have h1 := implTranslate_c A_s js c_s ls t.wd HS.out (by omega) (((r_s.more (by omega) : Reads w9 w9.heap.size 4 A_s js _).below t.below).more t.below.size) x.dom (x.vir * 128 + z1 % 128) false ⟨by omega, by omega⟩; rw [U5] at h1; exact h1
      have ht2 : ∀ t : Ext w9, Calls Try.prog 30 #[.slice A_y jy c_y, .int .i64 x.dom, .int .i64 (x.vir * 128 + z1 % 128), .bool false] t.wd fun e w' => e = .returned (.int .i64 (x.phy * 128 + z1 % 128)) ∧ Below t.wd.heap.size t.wd w' := fun t => by have h1 := implTranslate_c A_y jy c_y ly t.wd HY.out (by omega) (((r_y.more (by omega) : Reads w9 w9.heap.size 4 A_y jy _).below t.below).more t.below.size) x.dom (x.vir * 128 + z1 % 128) false ⟨by omega, by omega⟩; rw [U6] at h1; exact h1
      have hxt := fun t : Ext w9 => (And.intro (t.cell bx1_0) (t.cell bx1_2))
      refine wp_region_ext_lit (by kernel_rfl) (by kernel_rfl) ?_
      repeat (go_big_quiet_step (first | (go_at_call 15; exact ext_same (hat _)) | (go_at_call_of 30 (A_s); exact ext_call (ht1 _)) | (go_at_call_of 30 (A_y); exact ext_call (ht2 _))))
      refine wpQuiet_nil ?_
      intro _ hw'
      obtain ⟨tq, hw''⟩ := hw'
      subst hw''
      have hb := tq.below
      generalize hW0 : tq.wd = w10 at *
      clear hW0 hxt
      have k10 : Below w.heap.size w w10 := ext_step k9 (by omega) hb
      have p10 := hb.size
      replace bx0_0 := ccell hb _ _ _ bx0_0
      replace bx1_0 := ccell hb _ _ _ bx1_0
      replace bx1_1 := ccell hb _ _ _ bx1_1
      replace bx1_2 := ccell hb _ _ _ bx1_2
      replace bx1_3 := ccell hb _ _ _ bx1_3
      have bl0 := Nat.lt_of_lt_of_le bl0 hb.size
      have bl1 := Nat.lt_of_lt_of_le bl1 hb.size
      replace r_u := r_u.below (hb.mono (by omega))
      replace r_m := r_m.below (hb.mono (by omega))
      replace o_m := own_ext o_m hb
      replace r_p := r_p.below (hb.mono (by omega))
      replace o_p := own_ext o_p hb
      replace r_s := r_s.below (hb.mono (by omega))
      replace o_s := own_ext o_s hb
      replace r_y := r_y.below (hb.mono (by omega))
      replace o_y := own_ext o_y hb
      clear hb
      go_wp2
      go_ret
      exact ⟨rfl, k10⟩
end Go.Proofs.Ytnnlagmgdfhaiaa
