/- The walk of laws.FnOnlyMapped. -/
import Derived.Test.YtnnlagmgdfhaiaaDrawMap
import Derived.Test.YtnnlagmgdfhaiaaDmaP
import Derived.Test.YtnnlagmgdfhaiaaDmaPut
import Derived.Test.YtnnlagmgdfhaiaaDmaPutS
import Derived.Test.YtnnlagmgdfhaiaaLawHas
namespace Go.Proofs.Ytnnlagmgdfhaiaa
set_option linter.unusedSimpArgs false
set_option linter.unusedVariables false
open Go.RowKit Go.ChangeShapes Go.WideShapes
set_option maxRecDepth 100000 in
set_option maxHeartbeats 4000000 in
theorem fnOnlyMapped_walk (A : Option Addr) (n c : Nat) (l : List Int) (w : World) (hs : SlBytes w A n c l) :
    Calls Try.prog 6 #[.slice A n c] w fun e w' => e = .returned (.bool true) ∧ Below w.heap.size w w' := by
  obtain ⟨⟨hn, hnc, hc, hr⟩, hok⟩ := hs
  have hm : n ≤ 9223372036854775807 := by omega
  by_cases hbig : (1048576 : Int) < n
  · go_enter Try.func6, Try.ntmps6
    go_wp2_with fail
    refine (big_c _ _ _ _).mono ?_
    rintro e wq ⟨rfl, rfl⟩
    go_wp2
    go_ret
    exact ⟨rfl, Below.refl _ _⟩
  · have hm2 : n ≤ 1048576 := by omega
    go_enter Try.func6, Try.ntmps6
    go_wp2_with fail
    refine (big_c _ _ _ _).mono ?_
    rintro e wq ⟨rfl, rfl⟩
    have k0 : Below w.heap.size w w := Below.refl _ _
    have p0 : w.heap.size ≤ w.heap.size := Nat.le_refl _
    have r_u := hr
    have hn_u := hn
    go_wp2_with fail
    refine (drawMapped_c A n c l _ hn_u hm2 (r_u.more (by omega)) hok).mono ?_
    rintro e w1 ⟨ml, pg, A_m, c_m, A_p, c_p, d, at_, s, ⟨hml, hl13, hpg, hp1, hp6, d0, d1, a0, a1, hsz⟩, rfl, o_m, o_p, hb⟩
    have k1 : Below w.heap.size w w1 := ext_step k0 (by omega) hb
    have p1 := hb.size
    replace r_u := r_u.below (hb.mono (by omega))
    obtain ⟨jm, hn_m⟩ : ∃ j, ml.length = j := ⟨_, rfl⟩
    obtain ⟨jp, hn_p⟩ : ∃ j, pg.length = j := ⟨_, rfl⟩
    rw [hn_m] at hl13 o_m ⊢
    rw [hn_p] at hp1 hp6 o_p ⊢
    have r_m := Reads.of_own o_m
    have u_m := fun k hk => (o_m.lt k hk).2
    have r_p := Reads.of_own o_p
    have u_p := fun k hk => (o_p.lt k hk).2
    clear hb
    have HM := Lib.hid hn_m
    have HP := Lib.hid hn_p
    clear hn_m hn_p
    go_wp2_with fail
    have hb : Below w1.heap.size w1 (w1.alloc (.cells #[.slice A_p jp c_p] 39)) := by go_grown
    have bx0_0 : (w1.alloc (.cells #[.slice A_p jp c_p] 39)).cell? ⟨w1.heap.size, 0, none⟩ = some (.slice A_p jp c_p) := by simp [go_sem]
    have bl0 : w1.heap.size < (w1.alloc (.cells #[.slice A_p jp c_p] 39)).heap.size := by go_size
    generalize hW0 : (w1.alloc (.cells #[.slice A_p jp c_p] 39)) = w2 at *
    clear hW0
    have k2 : Below w.heap.size w w2 := ext_step k1 (by omega) hb
    have p2 := hb.size
    replace r_u := r_u.below (hb.mono (by omega))
    replace r_m := r_m.below (hb.mono (by omega))
    replace o_m := own_ext o_m hb
    replace r_p := r_p.below (hb.mono (by omega))
    replace o_p := own_ext o_p hb
    skip
    clear hb
    have HC : ∀ x ∈ chgK pg (dmaW ml pg d at_ s true) jp, x ∈ wrL ml d := fun x hx => only_pages hpg hx
    have hql := (dmaW_len ml pg d at_ s true).trans HP.out
    refine (implDmaWrite_c A_m A_p jm c_m jp c_p ml pg _ HM.out HP.out (by omega) (by omega) (r_m.more (by omega)) (r_p.more (by omega)) d at_ s ⟨by omega, by omega⟩ (by omega)).mono ?_
    rintro e w3 ⟨A_q, c_q, rfl, o_q, hb⟩
    have k3 : Below w.heap.size w w3 := ext_step k2 (by omega) hb
    have p3 := hb.size
    replace bx0_0 := ccell hb _ _ _ bx0_0
    have bl0 := Nat.lt_of_lt_of_le bl0 hb.size
    replace r_u := r_u.below (hb.mono (by omega))
    replace r_m := r_m.below (hb.mono (by omega))
    replace o_m := own_ext o_m hb
    replace r_p := r_p.below (hb.mono (by omega))
    replace o_p := own_ext o_p hb
    have r_q := Reads.of_own o_q
    have u_q := fun k hk => (o_q.lt k hk).2
    clear hb
    generalize dmaOk ml pg d at_ s.size true = bo at *
    go_wp2_with fail
    have hb : Below w3.heap.size w3 (w3.alloc (.cells #[.slice A_q jp c_q] 39)) := by go_grown
    have bx1_0 : (w3.alloc (.cells #[.slice A_q jp c_q] 39)).cell? ⟨w3.heap.size, 0, none⟩ = some (.slice A_q jp c_q) := by simp [go_sem]
    have bl1 : w3.heap.size < (w3.alloc (.cells #[.slice A_q jp c_q] 39)).heap.size := by go_size
    generalize hW0 : (w3.alloc (.cells #[.slice A_q jp c_q] 39)) = w4 at *
    clear hW0
    have k4 : Below w.heap.size w w4 := ext_step k3 (by omega) hb
    have p4 := hb.size
    replace bx0_0 := ccell hb _ _ _ bx0_0
    have bl0 := Nat.lt_of_lt_of_le bl0 hb.size
    replace r_u := r_u.below (hb.mono (by omega))
    replace r_m := r_m.below (hb.mono (by omega))
    replace o_m := own_ext o_m hb
    replace r_p := r_p.below (hb.mono (by omega))
    replace o_p := own_ext o_p hb
    replace r_q := r_q.below (hb.mono (by omega))
    replace o_q := own_ext o_q hb
    skip
    clear hb
    refine (implWritablePages_c A_m jm c_m ml _ HM.out (by omega) (r_m.more (by omega)) d).mono ?_
    rintro e w5 ⟨A_v, c_v, rfl, o_v, hb⟩
    have k5 : Below w.heap.size w w5 := ext_step k4 (by omega) hb
    have p5 := hb.size
    replace bx0_0 := ccell hb _ _ _ bx0_0
    replace bx1_0 := ccell hb _ _ _ bx1_0
    have bl0 := Nat.lt_of_lt_of_le bl0 hb.size
    have bl1 := Nat.lt_of_lt_of_le bl1 hb.size
    replace r_u := r_u.below (hb.mono (by omega))
    replace r_m := r_m.below (hb.mono (by omega))
    replace o_m := own_ext o_m hb
    replace r_p := r_p.below (hb.mono (by omega))
    replace o_p := own_ext o_p hb
    replace r_q := r_q.below (hb.mono (by omega))
    replace o_q := own_ext o_q hb
    have hlv : (wrL ml d).length ≤ 64 := by rw [wrL, if_pos hml]; exact wrK_len _ _ _
    generalize wrL ml d = lv at *
    obtain ⟨jv, hn_v⟩ : ∃ j, lv.length = j := ⟨_, rfl⟩
    rw [hn_v] at o_v hlv ⊢
    have HV := Lib.hid hn_v
    clear hn_v
    have r_v := Reads.of_own o_v
    have u_v := fun k hk => (o_v.lt k hk).2
    clear hb
    generalize hlq : dmaW ml pg d at_ s true = lq at *
    have HQ := Lib.hid hql
    clear hql
    go_wp2_with fail
    refine (implChangedPages_c A_p A_q jp jp c_p c_q pg lq _ HP.out HQ.out (by omega) (by omega) (r_p.more (by omega)) (r_q.more (by omega))).mono ?_
    rintro e w6 ⟨A_k, c_k, rfl, o_k, hb⟩
    have k6 : Below w.heap.size w w6 := ext_step k5 (by omega) hb
    have p6 := hb.size
    replace bx0_0 := ccell hb _ _ _ bx0_0
    replace bx1_0 := ccell hb _ _ _ bx1_0
    have bl0 := Nat.lt_of_lt_of_le bl0 hb.size
    have bl1 := Nat.lt_of_lt_of_le bl1 hb.size
    replace r_u := r_u.below (hb.mono (by omega))
    replace r_m := r_m.below (hb.mono (by omega))
    replace o_m := own_ext o_m hb
    replace r_p := r_p.below (hb.mono (by omega))
    replace o_p := own_ext o_p hb
    replace r_q := r_q.below (hb.mono (by omega))
    replace o_q := own_ext o_q hb
    replace r_v := r_v.below (hb.mono (by omega))
    replace o_v := own_ext o_v hb
    have hkl := chgK_len pg lq jp
    have hspec := fun A c w hr hr2 => specChangedPages_c A_p A jp jp c_p c pg lq w HP.out HQ.out (by omega) (by omega) hr hr2
    generalize chgK pg lq jp = ch at *
    obtain ⟨jk, hn_k⟩ : ∃ j, ch.length = j := ⟨_, rfl⟩
    rw [hn_k] at o_k hkl hspec ⊢
    have HK := Lib.hid hn_k
    clear hn_k
    have r_k := Reads.of_own o_k
    have u_k := fun k hk => (o_k.lt k hk).2
    clear hb
    go_wp2_with fail
    go_loop [12] (fun i => ∃ k : Nat, k ≤ jk ∧ i = .int .i64 (k : Int)) (fun i => jk - (intOf i).toNat)
    case atStart => exact ⟨0, Nat.zero_le _, rfl⟩
    case round =>
      obtain ⟨k, hk, rfl⟩ := hrel
      by_cases hlt : k < jk
      · obtain ⟨b, o, x, rfl, hbb, hx, hcc⟩ := r_k.el (fun _ => rfl) (by decide) HK.out hlt
        have d0 : w6.cell? ⟨b, o + k, none⟩ = some (.int .i64 x) := by simpa using hcc 0 _ rfl
        have hxx := HC x (List.mem_of_getElem? hx)
        have l1 : (k : Int) < (jk : Int) := by omega
        clear hx hcc HC hspec
        go_wp2_with fail
        refine (has_c A_v jv c_v lv x _ HV.out (by omega) (r_v.more (by omega))).mono ?_
        rintro e w_ ⟨rfl, rfl⟩
        rw [decide_eq_true hxx]
        go_wp2_with fail
        go_round
        case rel => exact ⟨k + 1, by omega, by go_num⟩
        case measure => simp [intOf]; omega
      · skip
        subst hlq
        go_wp2_with fail
        refine (specDmaWrite_c A_m A_p jm c_m jp c_p ml pg _ HM.out HP.out (by omega) (by omega) (r_m.more (by omega)) (r_p.more (by omega)) d at_ s ⟨by omega, by omega⟩ (by omega)).mono ?_
        rintro e w7 ⟨A_z, c_z, rfl, o_z, hb⟩
        have k7 : Below w.heap.size w w7 := ext_step k6 (by omega) hb
        have p7 := hb.size
        replace bx0_0 := ccell hb _ _ _ bx0_0
        replace bx1_0 := ccell hb _ _ _ bx1_0
        have bl0 := Nat.lt_of_lt_of_le bl0 hb.size
        have bl1 := Nat.lt_of_lt_of_le bl1 hb.size
        replace r_u := r_u.below (hb.mono (by omega))
        replace r_m := r_m.below (hb.mono (by omega))
        replace o_m := own_ext o_m hb
        replace r_p := r_p.below (hb.mono (by omega))
        replace o_p := own_ext o_p hb
        replace r_q := r_q.below (hb.mono (by omega))
        replace o_q := own_ext o_q hb
        replace r_v := r_v.below (hb.mono (by omega))
        replace o_v := own_ext o_v hb
        replace r_k := r_k.below (hb.mono (by omega))
        replace o_k := own_ext o_k hb
        have r_z := Reads.of_own o_z
        have u_z := fun k hk => (o_z.lt k hk).2
        clear hb
        go_wp2_with fail
        have hb : Below w7.heap.size w7 (w7.alloc (.cells #[.slice A_z jp c_z] 39)) := by go_grown
        have bx2_0 : (w7.alloc (.cells #[.slice A_z jp c_z] 39)).cell? ⟨w7.heap.size, 0, none⟩ = some (.slice A_z jp c_z) := by simp [go_sem]
        have bl2 : w7.heap.size < (w7.alloc (.cells #[.slice A_z jp c_z] 39)).heap.size := by go_size
        generalize hW0 : (w7.alloc (.cells #[.slice A_z jp c_z] 39)) = w8 at *
        clear hW0
        have k8 : Below w.heap.size w w8 := ext_step k7 (by omega) hb
        have p8 := hb.size
        replace bx0_0 := ccell hb _ _ _ bx0_0
        replace bx1_0 := ccell hb _ _ _ bx1_0
        have bl0 := Nat.lt_of_lt_of_le bl0 hb.size
        have bl1 := Nat.lt_of_lt_of_le bl1 hb.size
        replace r_u := r_u.below (hb.mono (by omega))
        replace r_m := r_m.below (hb.mono (by omega))
        replace o_m := own_ext o_m hb
        replace r_p := r_p.below (hb.mono (by omega))
        replace o_p := own_ext o_p hb
        replace r_q := r_q.below (hb.mono (by omega))
        replace o_q := own_ext o_q hb
        replace r_v := r_v.below (hb.mono (by omega))
        replace o_v := own_ext o_v hb
        replace r_k := r_k.below (hb.mono (by omega))
        replace o_k := own_ext o_k hb
        replace r_z := r_z.below (hb.mono (by omega))
        replace o_z := own_ext o_z hb
        skip
        clear hb
        refine (hspec A_z c_z _ (r_p.more (by omega)) (r_z.more (by omega))).mono ?_
        rintro e w9 ⟨A_j, c_j, rfl, o_j, hb⟩
        have k9 : Below w.heap.size w w9 := ext_step k8 (by omega) hb
        have p9 := hb.size
        replace bx0_0 := ccell hb _ _ _ bx0_0
        replace bx1_0 := ccell hb _ _ _ bx1_0
        replace bx2_0 := ccell hb _ _ _ bx2_0
        have bl0 := Nat.lt_of_lt_of_le bl0 hb.size
        have bl1 := Nat.lt_of_lt_of_le bl1 hb.size
        have bl2 := Nat.lt_of_lt_of_le bl2 hb.size
        replace r_u := r_u.below (hb.mono (by omega))
        replace r_m := r_m.below (hb.mono (by omega))
        replace o_m := own_ext o_m hb
        replace r_p := r_p.below (hb.mono (by omega))
        replace o_p := own_ext o_p hb
        replace r_q := r_q.below (hb.mono (by omega))
        replace o_q := own_ext o_q hb
        replace r_v := r_v.below (hb.mono (by omega))
        replace o_v := own_ext o_v hb
        replace r_k := r_k.below (hb.mono (by omega))
        replace o_k := own_ext o_k hb
        replace r_z := r_z.below (hb.mono (by omega))
        replace o_z := own_ext o_z hb
        have r_j := Reads.of_own o_j
        have u_j := fun k hk => (o_j.lt k hk).2
        clear hb
        go_wp2_with fail
        refine (sameInts_c A_k A_j jk c_k c_j ch _ HK.out (by omega) (r_k.more (by omega)) (r_j.more (by omega))).mono ?_
        rintro e w10 ⟨rfl, hb⟩
        have k10 : Below w.heap.size w w10 := ext_step k9 (by omega) hb
        have p10 := hb.size
        replace bx0_0 := ccell hb _ _ _ bx0_0
        replace bx1_0 := ccell hb _ _ _ bx1_0
        replace bx2_0 := ccell hb _ _ _ bx2_0
        have bl0 := Nat.lt_of_lt_of_le bl0 hb.size
        have bl1 := Nat.lt_of_lt_of_le bl1 hb.size
        have bl2 := Nat.lt_of_lt_of_le bl2 hb.size
        replace r_u := r_u.below (hb.mono (by omega))
        replace r_m := r_m.below (hb.mono (by omega))
        replace o_m := own_ext o_m hb
        replace r_p := r_p.below (hb.mono (by omega))
        replace o_p := own_ext o_p hb
        replace r_q := r_q.below (hb.mono (by omega))
        replace o_q := own_ext o_q hb
        replace r_v := r_v.below (hb.mono (by omega))
        replace o_v := own_ext o_v hb
        replace r_k := r_k.below (hb.mono (by omega))
        replace o_k := own_ext o_k hb
        replace r_z := r_z.below (hb.mono (by omega))
        replace o_z := own_ext o_z hb
        replace r_j := r_j.below (hb.mono (by omega))
        replace o_j := own_ext o_j hb
        clear hb
        go_wp2_with fail
        refine (calls_bool (implMappingsOk_c A_m jm c_m ml _ HM.out (by omega) (r_m.more (by omega))) hml).mono ?_
        rintro e w11 ⟨rfl, hb⟩
        have k11 : Below w.heap.size w w11 := ext_step k10 (by omega) hb
        go_wp2
        go_ret
        exact ⟨rfl, k11⟩
end Go.Proofs.Ytnnlagmgdfhaiaa
