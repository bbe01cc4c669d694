/- The walk of laws.FnDmaRound. -/
import Derived.Test.YtnnlagmgdfhaiaaDrawMap
import Derived.Test.YtnnlagmgdfhaiaaDmaP
import Derived.Test.YtnnlagmgdfhaiaaDmaPut
import Derived.Test.YtnnlagmgdfhaiaaDmaPutS
import Derived.Test.YtnnlagmgdfhaiaaDmaRead
import Derived.Test.YtnnlagmgdfhaiaaLawAt
namespace Go.Proofs.Ytnnlagmgdfhaiaa
set_option linter.unusedSimpArgs false
set_option linter.unusedVariables false
open Go.RowKit Go.ChangeShapes Go.WideShapes
set_option maxRecDepth 100000 in
set_option maxHeartbeats 4000000 in
theorem fnDmaRound_walk (A : Option Addr) (n c : Nat) (l : List Int) (w : World) (hs : SlBytes w A n c l) :
    Calls Try.prog 7 #[.slice A n c] w fun e w' => e = .returned (.bool true) ∧ Below w.heap.size w w' := by
  obtain ⟨⟨hn, hnc, hc, hr⟩, hok⟩ := hs
  have hm : n ≤ 9223372036854775807 := by omega
  by_cases hbig : (1048576 : Int) < n
  · go_enter Try.func7, Try.ntmps7
    go_wp2_with fail
    refine (big_c _ _ _ _).mono ?_
    rintro e wq ⟨rfl, rfl⟩
    go_wp2
    go_ret
    exact ⟨rfl, Below.refl _ _⟩
  · have hm2 : n ≤ 1048576 := by omega
    go_enter Try.func7, Try.ntmps7
    go_wp2_with fail
    refine (big_c _ _ _ _).mono ?_
    rintro e wq ⟨rfl, rfl⟩
    have k0 : Below w.heap.size w w := Below.refl _ _
    have p0 : w.heap.size ≤ w.heap.size := Nat.le_refl _
    have r_u := hr
    have hn_u := hn
    go_wp2_with fail
    refine (drawMapped_c A n c l _ hn_u hm2 (r_u.more (by omega)) hok).mono ?_
    rintro e w1 ⟨ml, pg, A_m, c_m, A_p, c_p, d, at_, s, ⟨hml, hl13, hpg, hp1, hp6, d0, d1, a0, a1, hsz⟩, rfl, o_m, o_p, hb⟩
    have k1 : Below w.heap.size w w1 := ext_step k0 (by omega) hb
    have p1 := hb.size
    replace r_u := r_u.below (hb.mono (by omega))
    obtain ⟨jm, hn_m⟩ : ∃ j, ml.length = j := ⟨_, rfl⟩
    obtain ⟨jp, hn_p⟩ : ∃ j, pg.length = j := ⟨_, rfl⟩
    rw [hn_m] at hl13 o_m ⊢
    rw [hn_p] at hp1 hp6 o_p ⊢
    have r_m := Reads.of_own o_m
    have u_m := fun k hk => (o_m.lt k hk).2
    have r_p := Reads.of_own o_p
    have u_p := fun k hk => (o_p.lt k hk).2
    clear hb
    have HM := Lib.hid hn_m
    have HP := Lib.hid hn_p
    clear hn_m hn_p
    go_wp2_with fail
    have hb : Below w1.heap.size w1 (w1.alloc (.cells #[.slice A_p jp c_p] 39)) := by go_grown
    have bx0_0 : (w1.alloc (.cells #[.slice A_p jp c_p] 39)).cell? ⟨w1.heap.size, 0, none⟩ = some (.slice A_p jp c_p) := by simp [go_sem]
    have bl0 : w1.heap.size < (w1.alloc (.cells #[.slice A_p jp c_p] 39)).heap.size := by go_size
    generalize hW0 : (w1.alloc (.cells #[.slice A_p jp c_p] 39)) = w2 at *
    clear hW0
    have k2 : Below w.heap.size w w2 := ext_step k1 (by omega) hb
    have p2 := hb.size
    replace r_u := r_u.below (hb.mono (by omega))
    replace r_m := r_m.below (hb.mono (by omega))
    replace o_m := own_ext o_m hb
    replace r_p := r_p.below (hb.mono (by omega))
    replace o_p := own_ext o_p hb
    skip
    clear hb
    have hql := (dmaW_len ml pg d at_ s true).trans HP.out
    refine (specDmaWrite_c A_m A_p jm c_m jp c_p ml pg _ HM.out HP.out (by omega) (by omega) (r_m.more (by omega)) (r_p.more (by omega)) d at_ s ⟨by omega, by omega⟩ (by omega)).mono ?_
    rintro e w3 ⟨A_z, c_z, rfl, o_z, hb⟩
    have k3 : Below w.heap.size w w3 := ext_step k2 (by omega) hb
    have p3 := hb.size
    replace bx0_0 := ccell hb _ _ _ bx0_0
    have bl0 := Nat.lt_of_lt_of_le bl0 hb.size
    replace r_u := r_u.below (hb.mono (by omega))
    replace r_m := r_m.below (hb.mono (by omega))
    replace o_m := own_ext o_m hb
    replace r_p := r_p.below (hb.mono (by omega))
    replace o_p := own_ext o_p hb
    have r_z := Reads.of_own o_z
    have u_z := fun k hk => (o_z.lt k hk).2
    clear hb
    go_wp2_with fail
    have hb : Below w3.heap.size w3 (w3.alloc (.cells #[.slice A_z jp c_z] 39)) := by go_grown
    have bx1_0 : (w3.alloc (.cells #[.slice A_z jp c_z] 39)).cell? ⟨w3.heap.size, 0, none⟩ = some (.slice A_z jp c_z) := by simp [go_sem]
    have bl1 : w3.heap.size < (w3.alloc (.cells #[.slice A_z jp c_z] 39)).heap.size := by go_size
    generalize hW0 : (w3.alloc (.cells #[.slice A_z jp c_z] 39)) = w4 at *
    clear hW0
    have k4 : Below w.heap.size w w4 := ext_step k3 (by omega) hb
    have p4 := hb.size
    replace bx0_0 := ccell hb _ _ _ bx0_0
    have bl0 := Nat.lt_of_lt_of_le bl0 hb.size
    replace r_u := r_u.below (hb.mono (by omega))
    replace r_m := r_m.below (hb.mono (by omega))
    replace o_m := own_ext o_m hb
    replace r_p := r_p.below (hb.mono (by omega))
    replace o_p := own_ext o_p hb
    replace r_z := r_z.below (hb.mono (by omega))
    replace o_z := own_ext o_z hb
    skip
    clear hb
    refine (implDmaWrite_c A_m A_p jm c_m jp c_p ml pg _ HM.out HP.out (by omega) (by omega) (r_m.more (by omega)) (r_p.more (by omega)) d at_ s ⟨by omega, by omega⟩ (by omega)).mono ?_
    rintro e w5 ⟨A_q, c_q, rfl, o_q, hb⟩
    have k5 : Below w.heap.size w w5 := ext_step k4 (by omega) hb
    have p5 := hb.size
    replace bx0_0 := ccell hb _ _ _ bx0_0
    replace bx1_0 := ccell hb _ _ _ bx1_0
    have bl0 := Nat.lt_of_lt_of_le bl0 hb.size
    have bl1 := Nat.lt_of_lt_of_le bl1 hb.size
    replace r_u := r_u.below (hb.mono (by omega))
    replace r_m := r_m.below (hb.mono (by omega))
    replace o_m := own_ext o_m hb
    replace r_p := r_p.below (hb.mono (by omega))
    replace o_p := own_ext o_p hb
    replace r_z := r_z.below (hb.mono (by omega))
    replace o_z := own_ext o_z hb
    have r_q := Reads.of_own o_q
    have u_q := fun k hk => (o_q.lt k hk).2
    clear hb
    cases hbo : dmaOk ml pg d at_ s.size true
    · skip
      go_wp2_with fail
      have hb : Below w5.heap.size w5 (w5.alloc (.cells #[.slice A_q jp c_q] 39)) := by go_grown
      have bx2_0 : (w5.alloc (.cells #[.slice A_q jp c_q] 39)).cell? ⟨w5.heap.size, 0, none⟩ = some (.slice A_q jp c_q) := by simp [go_sem]
      have bl2 : w5.heap.size < (w5.alloc (.cells #[.slice A_q jp c_q] 39)).heap.size := by go_size
      generalize hW0 : (w5.alloc (.cells #[.slice A_q jp c_q] 39)) = w6 at *
      clear hW0
      have k6 : Below w.heap.size w w6 := ext_step k5 (by omega) hb
      have p6 := hb.size
      replace bx0_0 := ccell hb _ _ _ bx0_0
      replace bx1_0 := ccell hb _ _ _ bx1_0
      have bl0 := Nat.lt_of_lt_of_le bl0 hb.size
      have bl1 := Nat.lt_of_lt_of_le bl1 hb.size
      replace r_u := r_u.below (hb.mono (by omega))
      replace r_m := r_m.below (hb.mono (by omega))
      replace o_m := own_ext o_m hb
      replace r_p := r_p.below (hb.mono (by omega))
      replace o_p := own_ext o_p hb
      replace r_z := r_z.below (hb.mono (by omega))
      replace o_z := own_ext o_z hb
      replace r_q := r_q.below (hb.mono (by omega))
      replace o_q := own_ext o_q hb
      skip
      clear hb
      have hno := dmaW_no hbo
      rw [hno] at o_q r_q
      clear hno hql
      go_wp2_with fail
      go_loopw [12] (fun i wr => ∃ k : Nat, k ≤ s.size ∧ i = .int .i64 (k : Int) ∧ Below w6.heap.size w6 wr) (fun i _ => s.size - (intOf i).toNat)
      case atStart => exact ⟨0, Nat.zero_le _, rfl, Below.refl _ _⟩
      case round =>
        obtain ⟨k, hk, rfl, hb⟩ := hrel
        generalize hW0 : wr = w7 at *
        clear hW0
        have k7 : Below w.heap.size w w7 := ext_step k6 (by omega) hb
        have p7 := hb.size
        replace bx0_0 := ccell hb _ _ _ bx0_0
        replace bx1_0 := ccell hb _ _ _ bx1_0
        replace bx2_0 := ccell hb _ _ _ bx2_0
        have bl0 := Nat.lt_of_lt_of_le bl0 hb.size
        have bl1 := Nat.lt_of_lt_of_le bl1 hb.size
        have bl2 := Nat.lt_of_lt_of_le bl2 hb.size
        replace r_u := r_u.below (hb.mono (by omega))
        replace r_m := r_m.below (hb.mono (by omega))
        replace o_m := own_ext o_m hb
        replace r_p := r_p.below (hb.mono (by omega))
        replace o_p := own_ext o_p hb
        replace r_z := r_z.below (hb.mono (by omega))
        replace o_z := own_ext o_z hb
        replace r_q := r_q.below (hb.mono (by omega))
        replace o_q := own_ext o_q hb
        have hb9 := hb
        clear hb
        by_cases hlt : k < s.size ∧ k < 40
        · obtain ⟨h1, h2⟩ := hlt
          have l1 : (k : Int) < (s.size : Int) := by omega
          have l2 : (k : Int) < 40 := by omega
          go_wp2_with fail
          refine (implTranslate_c A_m jm c_m ml _ HM.out (by omega) (r_m.more (by omega)) d (at_ + (k : Int)) true ⟨by omega, by omega⟩).mono ?_
          rintro e w8 ⟨rfl, hb⟩
          have k8 : Below w.heap.size w w8 := ext_step k7 (by omega) hb
          have p8 := hb.size
          replace bx0_0 := ccell hb _ _ _ bx0_0
          replace bx1_0 := ccell hb _ _ _ bx1_0
          replace bx2_0 := ccell hb _ _ _ bx2_0
          have bl0 := Nat.lt_of_lt_of_le bl0 hb.size
          have bl1 := Nat.lt_of_lt_of_le bl1 hb.size
          have bl2 := Nat.lt_of_lt_of_le bl2 hb.size
          replace r_u := r_u.below (hb.mono (by omega))
          replace r_m := r_m.below (hb.mono (by omega))
          replace o_m := own_ext o_m hb
          replace r_p := r_p.below (hb.mono (by omega))
          replace o_p := own_ext o_p hb
          replace r_z := r_z.below (hb.mono (by omega))
          replace o_z := own_ext o_z hb
          replace r_q := r_q.below (hb.mono (by omega))
          replace o_q := own_ext o_q hb
          have hb9 := ext_step hb9 hb9.size hb
          clear hb
          go_wp2_with fail
          refine (specTranslate_c A_m jm c_m ml _ HM.out (by omega) (r_m.more (by omega)) d (at_ + (k : Int)) true ⟨by omega, by omega⟩).mono ?_
          rintro e w9 ⟨rfl, hb⟩
          have k9 : Below w.heap.size w w9 := ext_step k8 (by omega) hb
          have p9 := hb.size
          replace bx0_0 := ccell hb _ _ _ bx0_0
          replace bx1_0 := ccell hb _ _ _ bx1_0
          replace bx2_0 := ccell hb _ _ _ bx2_0
          have bl0 := Nat.lt_of_lt_of_le bl0 hb.size
          have bl1 := Nat.lt_of_lt_of_le bl1 hb.size
          have bl2 := Nat.lt_of_lt_of_le bl2 hb.size
          replace r_u := r_u.below (hb.mono (by omega))
          replace r_m := r_m.below (hb.mono (by omega))
          replace o_m := own_ext o_m hb
          replace r_p := r_p.below (hb.mono (by omega))
          replace o_p := own_ext o_p hb
          replace r_z := r_z.below (hb.mono (by omega))
          replace o_z := own_ext o_z hb
          replace r_q := r_q.below (hb.mono (by omega))
          replace o_q := own_ext o_q hb
          have hb9 := ext_step hb9 hb9.size hb
          clear hb
          go_wp2_with fail
          go_roundw
          case rel => exact ⟨k + 1, by omega, by go_num, hb9⟩
          case measure => simp [intOf]; omega
        · skip
          have hfin : ¬ (k : Int) < (s.size : Int) ∨ ¬ (k : Int) < 40 := by omega
          have hcl := chg_self pg jp
          rcases hfin with l1 | l1
          · skip
            go_wp2_with fail
            refine (implChangedPages_c A_p A_q jp jp c_p c_q pg pg _ HP.out HP.out (by omega) (by omega) (r_p.more (by omega)) (r_q.more (by omega))).mono ?_
            rintro e w8 ⟨A_k, c_k, rfl, o_k, hb⟩
            have k8 : Below w.heap.size w w8 := ext_step k7 (by omega) hb
            have p8 := hb.size
            replace bx0_0 := ccell hb _ _ _ bx0_0
            replace bx1_0 := ccell hb _ _ _ bx1_0
            replace bx2_0 := ccell hb _ _ _ bx2_0
            have bl0 := Nat.lt_of_lt_of_le bl0 hb.size
            have bl1 := Nat.lt_of_lt_of_le bl1 hb.size
            have bl2 := Nat.lt_of_lt_of_le bl2 hb.size
            replace r_u := r_u.below (hb.mono (by omega))
            replace r_m := r_m.below (hb.mono (by omega))
            replace o_m := own_ext o_m hb
            replace r_p := r_p.below (hb.mono (by omega))
            replace o_p := own_ext o_p hb
            replace r_z := r_z.below (hb.mono (by omega))
            replace o_z := own_ext o_z hb
            replace r_q := r_q.below (hb.mono (by omega))
            replace o_q := own_ext o_q hb
            rw [hcl]
            clear hb
            clear o_k
            go_wp2
            go_ret
            exact ⟨rfl, k8⟩
          · skip
            by_cases l2 : (k : Int) < (s.size : Int)
            all_goals skip
            · skip
              go_wp2_with fail
              refine (implChangedPages_c A_p A_q jp jp c_p c_q pg pg _ HP.out HP.out (by omega) (by omega) (r_p.more (by omega)) (r_q.more (by omega))).mono ?_
              rintro e w8 ⟨A_k, c_k, rfl, o_k, hb⟩
              have k8 : Below w.heap.size w w8 := ext_step k7 (by omega) hb
              have p8 := hb.size
              replace bx0_0 := ccell hb _ _ _ bx0_0
              replace bx1_0 := ccell hb _ _ _ bx1_0
              replace bx2_0 := ccell hb _ _ _ bx2_0
              have bl0 := Nat.lt_of_lt_of_le bl0 hb.size
              have bl1 := Nat.lt_of_lt_of_le bl1 hb.size
              have bl2 := Nat.lt_of_lt_of_le bl2 hb.size
              replace r_u := r_u.below (hb.mono (by omega))
              replace r_m := r_m.below (hb.mono (by omega))
              replace o_m := own_ext o_m hb
              replace r_p := r_p.below (hb.mono (by omega))
              replace o_p := own_ext o_p hb
              replace r_z := r_z.below (hb.mono (by omega))
              replace o_z := own_ext o_z hb
              replace r_q := r_q.below (hb.mono (by omega))
              replace o_q := own_ext o_q hb
              rw [hcl]
              clear hb
              clear o_k
              go_wp2
              go_ret
              exact ⟨rfl, k8⟩
            · skip
              go_wp2_with fail
              refine (implChangedPages_c A_p A_q jp jp c_p c_q pg pg _ HP.out HP.out (by omega) (by omega) (r_p.more (by omega)) (r_q.more (by omega))).mono ?_
              rintro e w8 ⟨A_k, c_k, rfl, o_k, hb⟩
              have k8 : Below w.heap.size w w8 := ext_step k7 (by omega) hb
              have p8 := hb.size
              replace bx0_0 := ccell hb _ _ _ bx0_0
              replace bx1_0 := ccell hb _ _ _ bx1_0
              replace bx2_0 := ccell hb _ _ _ bx2_0
              have bl0 := Nat.lt_of_lt_of_le bl0 hb.size
              have bl1 := Nat.lt_of_lt_of_le bl1 hb.size
              have bl2 := Nat.lt_of_lt_of_le bl2 hb.size
              replace r_u := r_u.below (hb.mono (by omega))
              replace r_m := r_m.below (hb.mono (by omega))
              replace o_m := own_ext o_m hb
              replace r_p := r_p.below (hb.mono (by omega))
              replace o_p := own_ext o_p hb
              replace r_z := r_z.below (hb.mono (by omega))
              replace o_z := own_ext o_z hb
              replace r_q := r_q.below (hb.mono (by omega))
              replace o_q := own_ext o_q hb
              rw [hcl]
              clear hb
              clear o_k
              go_wp2
              go_ret
              exact ⟨rfl, k8⟩
    · skip
      go_wp2_with fail
      have hb : Below w5.heap.size w5 (w5.alloc (.cells #[.slice A_q jp c_q] 39)) := by go_grown
      have bx2_0 : (w5.alloc (.cells #[.slice A_q jp c_q] 39)).cell? ⟨w5.heap.size, 0, none⟩ = some (.slice A_q jp c_q) := by simp [go_sem]
      have bl2 : w5.heap.size < (w5.alloc (.cells #[.slice A_q jp c_q] 39)).heap.size := by go_size
      generalize hW0 : (w5.alloc (.cells #[.slice A_q jp c_q] 39)) = w6 at *
      clear hW0
      have k6 : Below w.heap.size w w6 := ext_step k5 (by omega) hb
      have p6 := hb.size
      replace bx0_0 := ccell hb _ _ _ bx0_0
      replace bx1_0 := ccell hb _ _ _ bx1_0
      have bl0 := Nat.lt_of_lt_of_le bl0 hb.size
      have bl1 := Nat.lt_of_lt_of_le bl1 hb.size
      replace r_u := r_u.below (hb.mono (by omega))
      replace r_m := r_m.below (hb.mono (by omega))
      replace o_m := own_ext o_m hb
      replace r_p := r_p.below (hb.mono (by omega))
      replace o_p := own_ext o_p hb
      replace r_z := r_z.below (hb.mono (by omega))
      replace o_z := own_ext o_z hb
      replace r_q := r_q.below (hb.mono (by omega))
      replace o_q := own_ext o_q hb
      skip
      clear hb
      obtain ⟨R1, R2, R3⟩ := dma_round hbo
      have HQ := Lib.hid hql
      clear hql
      generalize hlq : dmaW ml pg d at_ s true = lq at *
      clear hlq
      go_wp2_with fail
      go_loop [12] (fun i => i = .int .i64 0) (fun i => 0)
      case atStart => rfl
      case round =>
        subst hrel
        by_cases hs0 : (0 : Int) < (s.size : Int)
        · skip
          go_wp2_with fail
          refine (implDmaRead_c A_m A_q jm c_m jp c_q ml lq _ HM.out HQ.out (by omega) (by omega) (r_m.more (by omega)) (r_q.more (by omega)) d at_ (s.size : Int) ⟨by omega, by omega⟩ ⟨by omega, by omega⟩).mono ?_
          rintro e w7 ⟨rfl, hb⟩
          have k7 : Below w.heap.size w w7 := ext_step k6 (by omega) hb
          have p7 := hb.size
          replace bx0_0 := ccell hb _ _ _ bx0_0
          replace bx1_0 := ccell hb _ _ _ bx1_0
          replace bx2_0 := ccell hb _ _ _ bx2_0
          have bl0 := Nat.lt_of_lt_of_le bl0 hb.size
          have bl1 := Nat.lt_of_lt_of_le bl1 hb.size
          have bl2 := Nat.lt_of_lt_of_le bl2 hb.size
          replace r_u := r_u.below (hb.mono (by omega))
          replace r_m := r_m.below (hb.mono (by omega))
          replace o_m := own_ext o_m hb
          replace r_p := r_p.below (hb.mono (by omega))
          replace o_p := own_ext o_p hb
          replace r_z := r_z.below (hb.mono (by omega))
          replace o_z := own_ext o_z hb
          replace r_q := r_q.below (hb.mono (by omega))
          replace o_q := own_ext o_q hb
          rw [R1]
          clear hb
          have R4 := fun h => R3 (round_apart (n := (s.size : Int)) hml a0 (by omega) h)
          generalize dmaR ml lq d at_ (s.size : Int) = t1 at *
          go_wp2_with fail
          have hb : Below w7.heap.size w7 (w7.alloc (.cells #[.int .i64 at_, .int .i64 (s.size : Int)] 61)) := by go_grown
          have bx3_0 : (w7.alloc (.cells #[.int .i64 at_, .int .i64 (s.size : Int)] 61)).cell? ⟨w7.heap.size, 0, none⟩ = some (.int .i64 at_) := by simp [go_sem]
          have bx3_1 : (w7.alloc (.cells #[.int .i64 at_, .int .i64 (s.size : Int)] 61)).cell? ⟨w7.heap.size, 1, none⟩ = some (.int .i64 (s.size : Int)) := by simp [go_sem]
          have bl3 : w7.heap.size < (w7.alloc (.cells #[.int .i64 at_, .int .i64 (s.size : Int)] 61)).heap.size := by go_size
          have r_e : Reads (w7.alloc (.cells #[.int .i64 at_, .int .i64 (s.size : Int)] 61)) (w7.heap.size + 1) 2 (some ⟨w7.heap.size, 0, none⟩) 1 ([(⟨at_, (s.size : Int)⟩ : Piece)].flatMap Piece.cells) := new_readsN w7 [.int .i64 at_, .int .i64 (s.size : Int)] 61 (by simp)
          generalize hW0 : (w7.alloc (.cells #[.int .i64 at_, .int .i64 (s.size : Int)] 61)) = w8 at *
          clear hW0
          have k8 : Below w.heap.size w w8 := ext_step k7 (by omega) hb
          have p8 := hb.size
          replace bx0_0 := ccell hb _ _ _ bx0_0
          replace bx1_0 := ccell hb _ _ _ bx1_0
          replace bx2_0 := ccell hb _ _ _ bx2_0
          have bl0 := Nat.lt_of_lt_of_le bl0 hb.size
          have bl1 := Nat.lt_of_lt_of_le bl1 hb.size
          have bl2 := Nat.lt_of_lt_of_le bl2 hb.size
          replace r_u := r_u.below (hb.mono (by omega))
          replace r_m := r_m.below (hb.mono (by omega))
          replace o_m := own_ext o_m hb
          replace r_p := r_p.below (hb.mono (by omega))
          replace o_p := own_ext o_p hb
          replace r_z := r_z.below (hb.mono (by omega))
          replace o_z := own_ext o_z hb
          replace r_q := r_q.below (hb.mono (by omega))
          replace o_q := own_ext o_q hb
          skip
          clear hb
          refine (specPiecesApart_c A_m _ jm c_m 1 1 ml [⟨at_, (s.size : Int)⟩] _ HM.out rfl (by omega) (by omega) (r_m.more (by omega)) (r_e.more (by omega)) d (fun x hx => by simp at hx; subst hx; show I64 at_ ∧ I64 (s.size : Int); exact ⟨⟨by omega, by omega⟩, ⟨by omega, by omega⟩⟩)).mono ?_
          rintro e w9 ⟨rfl, hb⟩
          have k9 : Below w.heap.size w w9 := ext_step k8 (by omega) hb
          have p9 := hb.size
          replace bx0_0 := ccell hb _ _ _ bx0_0
          replace bx1_0 := ccell hb _ _ _ bx1_0
          replace bx2_0 := ccell hb _ _ _ bx2_0
          replace bx3_0 := ccell hb _ _ _ bx3_0
          replace bx3_1 := ccell hb _ _ _ bx3_1
          have bl0 := Nat.lt_of_lt_of_le bl0 hb.size
          have bl1 := Nat.lt_of_lt_of_le bl1 hb.size
          have bl2 := Nat.lt_of_lt_of_le bl2 hb.size
          have bl3 := Nat.lt_of_lt_of_le bl3 hb.size
          replace r_u := r_u.below (hb.mono (by omega))
          replace r_m := r_m.below (hb.mono (by omega))
          replace o_m := own_ext o_m hb
          replace r_p := r_p.below (hb.mono (by omega))
          replace o_p := own_ext o_p hb
          replace r_z := r_z.below (hb.mono (by omega))
          replace o_z := own_ext o_z hb
          replace r_q := r_q.below (hb.mono (by omega))
          replace o_q := own_ext o_q hb
          replace r_e := r_e.below (hb.mono (by omega))
          clear hb
          cases hap : apartB ml d [⟨at_, (s.size : Int)⟩]
          · have hsz2 : ((t1.size : Int) == (s.size : Int)) = true := by simp; omega
            go_wp2
            go_ret
            exact ⟨rfl, k9⟩
          · obtain rfl := R4 hap
            go_wp2
            go_ret
            exact ⟨rfl, k9⟩
        · skip
          go_wp2_with fail
          refine (implDmaRead_c A_m A_q jm c_m jp c_q ml lq _ HM.out HQ.out (by omega) (by omega) (r_m.more (by omega)) (r_q.more (by omega)) d at_ (s.size : Int) ⟨by omega, by omega⟩ ⟨by omega, by omega⟩).mono ?_
          rintro e w7 ⟨rfl, hb⟩
          have k7 : Below w.heap.size w w7 := ext_step k6 (by omega) hb
          have p7 := hb.size
          replace bx0_0 := ccell hb _ _ _ bx0_0
          replace bx1_0 := ccell hb _ _ _ bx1_0
          replace bx2_0 := ccell hb _ _ _ bx2_0
          have bl0 := Nat.lt_of_lt_of_le bl0 hb.size
          have bl1 := Nat.lt_of_lt_of_le bl1 hb.size
          have bl2 := Nat.lt_of_lt_of_le bl2 hb.size
          replace r_u := r_u.below (hb.mono (by omega))
          replace r_m := r_m.below (hb.mono (by omega))
          replace o_m := own_ext o_m hb
          replace r_p := r_p.below (hb.mono (by omega))
          replace o_p := own_ext o_p hb
          replace r_z := r_z.below (hb.mono (by omega))
          replace o_z := own_ext o_z hb
          replace r_q := r_q.below (hb.mono (by omega))
          replace o_q := own_ext o_q hb
          rw [R1]
          clear hb
          have R4 := fun h => R3 (round_apart (n := (s.size : Int)) hml a0 (by omega) h)
          generalize dmaR ml lq d at_ (s.size : Int) = t1 at *
          go_wp2_with fail
          have hb : Below w7.heap.size w7 (w7.alloc (.cells #[.int .i64 at_, .int .i64 (s.size : Int)] 61)) := by go_grown
          have bx3_0 : (w7.alloc (.cells #[.int .i64 at_, .int .i64 (s.size : Int)] 61)).cell? ⟨w7.heap.size, 0, none⟩ = some (.int .i64 at_) := by simp [go_sem]
          have bx3_1 : (w7.alloc (.cells #[.int .i64 at_, .int .i64 (s.size : Int)] 61)).cell? ⟨w7.heap.size, 1, none⟩ = some (.int .i64 (s.size : Int)) := by simp [go_sem]
          have bl3 : w7.heap.size < (w7.alloc (.cells #[.int .i64 at_, .int .i64 (s.size : Int)] 61)).heap.size := by go_size
          have r_e : Reads (w7.alloc (.cells #[.int .i64 at_, .int .i64 (s.size : Int)] 61)) (w7.heap.size + 1) 2 (some ⟨w7.heap.size, 0, none⟩) 1 ([(⟨at_, (s.size : Int)⟩ : Piece)].flatMap Piece.cells) := new_readsN w7 [.int .i64 at_, .int .i64 (s.size : Int)] 61 (by simp)
          generalize hW0 : (w7.alloc (.cells #[.int .i64 at_, .int .i64 (s.size : Int)] 61)) = w8 at *
          clear hW0
          have k8 : Below w.heap.size w w8 := ext_step k7 (by omega) hb
          have p8 := hb.size
          replace bx0_0 := ccell hb _ _ _ bx0_0
          replace bx1_0 := ccell hb _ _ _ bx1_0
          replace bx2_0 := ccell hb _ _ _ bx2_0
          have bl0 := Nat.lt_of_lt_of_le bl0 hb.size
          have bl1 := Nat.lt_of_lt_of_le bl1 hb.size
          have bl2 := Nat.lt_of_lt_of_le bl2 hb.size
          replace r_u := r_u.below (hb.mono (by omega))
          replace r_m := r_m.below (hb.mono (by omega))
          replace o_m := own_ext o_m hb
          replace r_p := r_p.below (hb.mono (by omega))
          replace o_p := own_ext o_p hb
          replace r_z := r_z.below (hb.mono (by omega))
          replace o_z := own_ext o_z hb
          replace r_q := r_q.below (hb.mono (by omega))
          replace o_q := own_ext o_q hb
          skip
          clear hb
          refine (specPiecesApart_c A_m _ jm c_m 1 1 ml [⟨at_, (s.size : Int)⟩] _ HM.out rfl (by omega) (by omega) (r_m.more (by omega)) (r_e.more (by omega)) d (fun x hx => by simp at hx; subst hx; show I64 at_ ∧ I64 (s.size : Int); exact ⟨⟨by omega, by omega⟩, ⟨by omega, by omega⟩⟩)).mono ?_
          rintro e w9 ⟨rfl, hb⟩
          have k9 : Below w.heap.size w w9 := ext_step k8 (by omega) hb
          have p9 := hb.size
          replace bx0_0 := ccell hb _ _ _ bx0_0
          replace bx1_0 := ccell hb _ _ _ bx1_0
          replace bx2_0 := ccell hb _ _ _ bx2_0
          replace bx3_0 := ccell hb _ _ _ bx3_0
          replace bx3_1 := ccell hb _ _ _ bx3_1
          have bl0 := Nat.lt_of_lt_of_le bl0 hb.size
          have bl1 := Nat.lt_of_lt_of_le bl1 hb.size
          have bl2 := Nat.lt_of_lt_of_le bl2 hb.size
          have bl3 := Nat.lt_of_lt_of_le bl3 hb.size
          replace r_u := r_u.below (hb.mono (by omega))
          replace r_m := r_m.below (hb.mono (by omega))
          replace o_m := own_ext o_m hb
          replace r_p := r_p.below (hb.mono (by omega))
          replace o_p := own_ext o_p hb
          replace r_z := r_z.below (hb.mono (by omega))
          replace o_z := own_ext o_z hb
          replace r_q := r_q.below (hb.mono (by omega))
          replace o_q := own_ext o_q hb
          replace r_e := r_e.below (hb.mono (by omega))
          clear hb
          cases hap : apartB ml d [⟨at_, (s.size : Int)⟩]
          · have hsz2 : ((t1.size : Int) == (s.size : Int)) = true := by simp; omega
            go_wp2
            go_ret
            exact ⟨rfl, k9⟩
          · obtain rfl := R4 hap
            go_wp2
            go_ret
            exact ⟨rfl, k9⟩
end Go.Proofs.Ytnnlagmgdfhaiaa
