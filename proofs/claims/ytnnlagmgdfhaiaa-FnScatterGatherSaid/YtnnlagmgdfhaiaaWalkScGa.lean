/- The walk of laws.FnScatterGather. -/
import Derived.Test.YtnnlagmgdfhaiaaDrawPcs
import Derived.Test.YtnnlagmgdfhaiaaScatP
import Derived.Test.YtnnlagmgdfhaiaaLawAt
namespace Go.Proofs.Ytnnlagmgdfhaiaa
set_option linter.unusedSimpArgs false
set_option linter.unusedVariables false
open Go.RowKit Go.ChangeShapes Go.WideShapes
theorem lenP_bd (ps : List Piece) : -1 ≤ lenP ps ∧ lenP ps ≤ 1048576 := by
  unfold lenP
  split
  · rename_i h
    have h1 := sumP_bd h ps.length (Nat.le_refl _)
    have h2 := piecesB_len h
    rw [List.take_length] at h1
    omega
  · omega
set_option maxRecDepth 100000 in
set_option maxHeartbeats 4000000 in
theorem fnScatterGather_walk (A : Option Addr) (n c : Nat) (l : List Int) (w : World) (hs : SlBytes w A n c l) :
    Calls Try.prog 8 #[.slice A n c] w fun e w' => e = .returned (.bool true) ∧ Below w.heap.size w w' := by
  obtain ⟨⟨hn, hnc, hc, hr⟩, hok⟩ := hs
  have hm : n ≤ 9223372036854775807 := by omega
  by_cases hbig : (1048576 : Int) < n
  · go_enter Try.func8, Try.ntmps8
    go_wp2_with fail
    refine (big_c _ _ _ _).mono ?_
    rintro e wq ⟨rfl, rfl⟩
    go_wp2
    go_ret
    exact ⟨rfl, Below.refl _ _⟩
  · have hm2 : n ≤ 1048576 := by omega
    go_enter Try.func8, Try.ntmps8
    go_wp2_with fail
    refine (big_c _ _ _ _).mono ?_
    rintro e wq ⟨rfl, rfl⟩
    have k0 : Below w.heap.size w w := Below.refl _ _
    have p0 : w.heap.size ≤ w.heap.size := Nat.le_refl _
    have r_u := hr
    have hn_u := hn
    go_wp2_with fail
    refine (drawPieces_c A n c l _ hn_u hm2 (r_u.more (by omega)) hok).mono ?_
    rintro e w1 ⟨ml, pg, A_m, c_m, A_p, c_p, ps, A_s, c_s, s, ⟨hml, hl8, hph, hpg, hn_p, hps, hsz⟩, rfl, o_m, o_p, o_s, hb⟩
    have k1 : Below w.heap.size w w1 := ext_step k0 (by omega) hb
    have p1 := hb.size
    replace r_u := r_u.below (hb.mono (by omega))
    obtain ⟨jm, hn_m⟩ : ∃ j, ml.length = j := ⟨_, rfl⟩
    obtain ⟨js, hn_s⟩ : ∃ j, ps.length = j := ⟨_, rfl⟩
    rw [hn_m] at hl8 o_m ⊢
    rw [hn_s] at o_s ⊢
    have r_m := Reads.of_own o_m
    have u_m := fun k hk => (o_m.lt k hk).2
    have r_p := Reads.of_own o_p
    have u_p := fun k hk => (o_p.lt k hk).2
    have r_s := Reads.of_own o_s
    have u_s := fun k hk => (o_s.lt k hk).2
    clear hb
    have hj4 : js ≤ 4 := by have := hps.1; omega
    have hps2 : ∀ x ∈ ps, 0 ≤ x.at_ ∧ 0 ≤ x.ln ∧ x.at_ + x.ln ≤ 4096 := fun x hx => by have := hps.2 x hx; omega
    have hpok : ∀ x ∈ ps, x.ok := fun x hx => by have := hps.2 x hx; exact ⟨⟨by omega, by omega⟩, ⟨by omega, by omega⟩⟩
    have HM := Lib.hid hn_m
    have HP := Lib.hid hn_p
    have HS := Lib.hid hn_s
    have HPS := Lib.hid hps
    clear hn_m hn_p hn_s hps
    go_wp2_with fail
    have hb : Below w1.heap.size w1 (w1.alloc (.cells #[.slice A_p 6 c_p] 39)) := by go_grown
    have bx0_0 : (w1.alloc (.cells #[.slice A_p 6 c_p] 39)).cell? ⟨w1.heap.size, 0, none⟩ = some (.slice A_p 6 c_p) := by simp [go_sem]
    have bl0 : w1.heap.size < (w1.alloc (.cells #[.slice A_p 6 c_p] 39)).heap.size := by go_size
    generalize hW0 : (w1.alloc (.cells #[.slice A_p 6 c_p] 39)) = w2 at *
    clear hW0
    have k2 : Below w.heap.size w w2 := ext_step k1 (by omega) hb
    have p2 := hb.size
    replace r_u := r_u.below (hb.mono (by omega))
    replace r_m := r_m.below (hb.mono (by omega))
    replace o_m := own_ext o_m hb
    replace r_p := r_p.below (hb.mono (by omega))
    replace o_p := own_ext o_p hb
    replace r_s := r_s.below (hb.mono (by omega))
    replace o_s := own_ext o_s hb
    skip
    clear hb
    refine (specPiecesLength_c A_s js c_s ps _ HS.out (by omega) (r_s.more (by omega))).mono ?_
    rintro e w3 ⟨rfl, hb⟩
    have k3 : Below w.heap.size w w3 := ext_step k2 (by omega) hb
    have p3 := hb.size
    replace bx0_0 := ccell hb _ _ _ bx0_0
    have bl0 := Nat.lt_of_lt_of_le bl0 hb.size
    replace r_u := r_u.below (hb.mono (by omega))
    replace r_m := r_m.below (hb.mono (by omega))
    replace o_m := own_ext o_m hb
    replace r_p := r_p.below (hb.mono (by omega))
    replace o_p := own_ext o_p hb
    replace r_s := r_s.below (hb.mono (by omega))
    replace o_s := own_ext o_s hb
    clear hb
    have hln := lenP_bd ps
    go_wp2_with fail
    refine (specScatterPieces_c A_m A_p A_s jm c_m 6 c_p js c_s ml pg ps _ HM.out HP.out HS.out (by omega) (by omega) (by omega) (r_m.more (by omega)) (r_p.more (by omega)) (r_s.more (by omega)) 0 hpok s (by omega)).mono ?_
    rintro e w4 ⟨A_z, c_z, rfl, o_z, hb⟩
    have k4 : Below w.heap.size w w4 := ext_step k3 (by omega) hb
    have p4 := hb.size
    replace bx0_0 := ccell hb _ _ _ bx0_0
    have bl0 := Nat.lt_of_lt_of_le bl0 hb.size
    replace r_u := r_u.below (hb.mono (by omega))
    replace r_m := r_m.below (hb.mono (by omega))
    replace o_m := own_ext o_m hb
    replace r_p := r_p.below (hb.mono (by omega))
    replace o_p := own_ext o_p hb
    replace r_s := r_s.below (hb.mono (by omega))
    replace o_s := own_ext o_s hb
    have r_z := Reads.of_own o_z
    have u_z := fun k hk => (o_z.lt k hk).2
    clear hb
    go_wp2_with fail
    have hb : Below w4.heap.size w4 (w4.alloc (.cells #[.slice A_z 6 c_z] 39)) := by go_grown
    have bx1_0 : (w4.alloc (.cells #[.slice A_z 6 c_z] 39)).cell? ⟨w4.heap.size, 0, none⟩ = some (.slice A_z 6 c_z) := by simp [go_sem]
    have bl1 : w4.heap.size < (w4.alloc (.cells #[.slice A_z 6 c_z] 39)).heap.size := by go_size
    generalize hW0 : (w4.alloc (.cells #[.slice A_z 6 c_z] 39)) = w5 at *
    clear hW0
    have k5 : Below w.heap.size w w5 := ext_step k4 (by omega) hb
    have p5 := hb.size
    replace bx0_0 := ccell hb _ _ _ bx0_0
    have bl0 := Nat.lt_of_lt_of_le bl0 hb.size
    replace r_u := r_u.below (hb.mono (by omega))
    replace r_m := r_m.below (hb.mono (by omega))
    replace o_m := own_ext o_m hb
    replace r_p := r_p.below (hb.mono (by omega))
    replace o_p := own_ext o_p hb
    replace r_s := r_s.below (hb.mono (by omega))
    replace o_s := own_ext o_s hb
    replace r_z := r_z.below (hb.mono (by omega))
    replace o_z := own_ext o_z hb
    skip
    clear hb
    refine (implScatterPieces_c A_m A_p A_s jm c_m 6 c_p js c_s ml pg ps _ HM.out HP.out HS.out (by omega) (by omega) (by omega) (r_m.more (by omega)) (r_p.more (by omega)) (r_s.more (by omega)) 0 hpok s (by omega)).mono ?_
    rintro e w6 ⟨A_q, c_q, rfl, o_q, hb⟩
    have k6 : Below w.heap.size w w6 := ext_step k5 (by omega) hb
    have p6 := hb.size
    replace bx0_0 := ccell hb _ _ _ bx0_0
    replace bx1_0 := ccell hb _ _ _ bx1_0
    have bl0 := Nat.lt_of_lt_of_le bl0 hb.size
    have bl1 := Nat.lt_of_lt_of_le bl1 hb.size
    replace r_u := r_u.below (hb.mono (by omega))
    replace r_m := r_m.below (hb.mono (by omega))
    replace o_m := own_ext o_m hb
    replace r_p := r_p.below (hb.mono (by omega))
    replace o_p := own_ext o_p hb
    replace r_s := r_s.below (hb.mono (by omega))
    replace o_s := own_ext o_s hb
    replace r_z := r_z.below (hb.mono (by omega))
    replace o_z := own_ext o_z hb
    have r_q := Reads.of_own o_q
    have u_q := fun k hk => (o_q.lt k hk).2
    clear hb
    have HQ := Lib.hid ((scatM_len (l := ml) (pg := pg) (d := 0) (ps := ps) (s := s)).trans HP.out)
    have HNO := Lib.hid (scat_no (l := ml) (pg := pg) (d := 0) (ps := ps) (s := s))
    have HYES := Lib.hid (scat_gather (s := s) hml hpg HP.out hph hps2 (d := 0))
    generalize scatM ml pg 0 ps s = lq at *
    generalize scatB ml pg 0 ps s = bo at *
    have hPL := fun A c w hr => implPiecesLength_c A js c ps w HS.out (by omega) hr
    generalize lenP ps = np at *
    cases bo
    · skip
      go_wp2_with fail
      have hb : Below w6.heap.size w6 (w6.alloc (.cells #[.slice A_q 6 c_q] 39)) := by go_grown
      have bx2_0 : (w6.alloc (.cells #[.slice A_q 6 c_q] 39)).cell? ⟨w6.heap.size, 0, none⟩ = some (.slice A_q 6 c_q) := by simp [go_sem]
      have bl2 : w6.heap.size < (w6.alloc (.cells #[.slice A_q 6 c_q] 39)).heap.size := by go_size
      generalize hW0 : (w6.alloc (.cells #[.slice A_q 6 c_q] 39)) = w7 at *
      clear hW0
      have k7 : Below w.heap.size w w7 := ext_step k6 (by omega) hb
      have p7 := hb.size
      replace bx0_0 := ccell hb _ _ _ bx0_0
      replace bx1_0 := ccell hb _ _ _ bx1_0
      have bl0 := Nat.lt_of_lt_of_le bl0 hb.size
      have bl1 := Nat.lt_of_lt_of_le bl1 hb.size
      replace r_u := r_u.below (hb.mono (by omega))
      replace r_m := r_m.below (hb.mono (by omega))
      replace o_m := own_ext o_m hb
      replace r_p := r_p.below (hb.mono (by omega))
      replace o_p := own_ext o_p hb
      replace r_s := r_s.below (hb.mono (by omega))
      replace o_s := own_ext o_s hb
      replace r_z := r_z.below (hb.mono (by omega))
      replace o_z := own_ext o_z hb
      replace r_q := r_q.below (hb.mono (by omega))
      replace o_q := own_ext o_q hb
      skip
      clear hb
      refine (hPL A_s c_s _ (r_s.more (by omega))).mono ?_
      rintro e w8 ⟨rfl, hb⟩
      have k8 : Below w.heap.size w w8 := ext_step k7 (by omega) hb
      have p8 := hb.size
      replace bx0_0 := ccell hb _ _ _ bx0_0
      replace bx1_0 := ccell hb _ _ _ bx1_0
      replace bx2_0 := ccell hb _ _ _ bx2_0
      have bl0 := Nat.lt_of_lt_of_le bl0 hb.size
      have bl1 := Nat.lt_of_lt_of_le bl1 hb.size
      have bl2 := Nat.lt_of_lt_of_le bl2 hb.size
      replace r_u := r_u.below (hb.mono (by omega))
      replace r_m := r_m.below (hb.mono (by omega))
      replace o_m := own_ext o_m hb
      replace r_p := r_p.below (hb.mono (by omega))
      replace o_p := own_ext o_p hb
      replace r_s := r_s.below (hb.mono (by omega))
      replace o_s := own_ext o_s hb
      replace r_z := r_z.below (hb.mono (by omega))
      replace o_z := own_ext o_z hb
      replace r_q := r_q.below (hb.mono (by omega))
      replace o_q := own_ext o_q hb
      clear hb
      obtain rfl := HNO.out (by simp)
      have hcl := chg_self lq 6
      go_wp2_with fail
      refine (implChangedPages_c A_p A_q 6 6 c_p c_q lq lq _ HP.out HP.out (by omega) (by omega) (r_p.more (by omega)) (r_q.more (by omega))).mono ?_
      rintro e w9 ⟨A_k, c_k, rfl, o_k, hb⟩
      have k9 : Below w.heap.size w w9 := ext_step k8 (by omega) hb
      have p9 := hb.size
      replace bx0_0 := ccell hb _ _ _ bx0_0
      replace bx1_0 := ccell hb _ _ _ bx1_0
      replace bx2_0 := ccell hb _ _ _ bx2_0
      have bl0 := Nat.lt_of_lt_of_le bl0 hb.size
      have bl1 := Nat.lt_of_lt_of_le bl1 hb.size
      have bl2 := Nat.lt_of_lt_of_le bl2 hb.size
      replace r_u := r_u.below (hb.mono (by omega))
      replace r_m := r_m.below (hb.mono (by omega))
      replace o_m := own_ext o_m hb
      replace r_p := r_p.below (hb.mono (by omega))
      replace o_p := own_ext o_p hb
      replace r_s := r_s.below (hb.mono (by omega))
      replace o_s := own_ext o_s hb
      replace r_z := r_z.below (hb.mono (by omega))
      replace o_z := own_ext o_z hb
      replace r_q := r_q.below (hb.mono (by omega))
      replace o_q := own_ext o_q hb
      rw [hcl]
      clear hb
      clear o_k
      go_wp2
      go_ret
      exact ⟨rfl, k9⟩
    · skip
      go_wp2_with fail
      have hb : Below w6.heap.size w6 (w6.alloc (.cells #[.slice A_q 6 c_q] 39)) := by go_grown
      have bx2_0 : (w6.alloc (.cells #[.slice A_q 6 c_q] 39)).cell? ⟨w6.heap.size, 0, none⟩ = some (.slice A_q 6 c_q) := by simp [go_sem]
      have bl2 : w6.heap.size < (w6.alloc (.cells #[.slice A_q 6 c_q] 39)).heap.size := by go_size
      generalize hW0 : (w6.alloc (.cells #[.slice A_q 6 c_q] 39)) = w7 at *
      clear hW0
      have k7 : Below w.heap.size w w7 := ext_step k6 (by omega) hb
      have p7 := hb.size
      replace bx0_0 := ccell hb _ _ _ bx0_0
      replace bx1_0 := ccell hb _ _ _ bx1_0
      have bl0 := Nat.lt_of_lt_of_le bl0 hb.size
      have bl1 := Nat.lt_of_lt_of_le bl1 hb.size
      replace r_u := r_u.below (hb.mono (by omega))
      replace r_m := r_m.below (hb.mono (by omega))
      replace o_m := own_ext o_m hb
      replace r_p := r_p.below (hb.mono (by omega))
      replace o_p := own_ext o_p hb
      replace r_s := r_s.below (hb.mono (by omega))
      replace o_s := own_ext o_s hb
      replace r_z := r_z.below (hb.mono (by omega))
      replace o_z := own_ext o_z hb
      replace r_q := r_q.below (hb.mono (by omega))
      replace o_q := own_ext o_q hb
      skip
      clear hb
      refine (hPL A_s c_s _ (r_s.more (by omega))).mono ?_
      rintro e w8 ⟨rfl, hb⟩
      have k8 : Below w.heap.size w w8 := ext_step k7 (by omega) hb
      have p8 := hb.size
      replace bx0_0 := ccell hb _ _ _ bx0_0
      replace bx1_0 := ccell hb _ _ _ bx1_0
      replace bx2_0 := ccell hb _ _ _ bx2_0
      have bl0 := Nat.lt_of_lt_of_le bl0 hb.size
      have bl1 := Nat.lt_of_lt_of_le bl1 hb.size
      have bl2 := Nat.lt_of_lt_of_le bl2 hb.size
      replace r_u := r_u.below (hb.mono (by omega))
      replace r_m := r_m.below (hb.mono (by omega))
      replace o_m := own_ext o_m hb
      replace r_p := r_p.below (hb.mono (by omega))
      replace o_p := own_ext o_p hb
      replace r_s := r_s.below (hb.mono (by omega))
      replace o_s := own_ext o_s hb
      replace r_z := r_z.below (hb.mono (by omega))
      replace o_z := own_ext o_z hb
      replace r_q := r_q.below (hb.mono (by omega))
      replace o_q := own_ext o_q hb
      clear hb
      have HY := Lib.hid (HYES.out (by simp))
      go_wp2_with fail
      refine (implGatherPieces_c A_m A_q A_s jm c_m 6 c_q js c_s ml lq ps _ HM.out HQ.out HS.out (by omega) (by omega) (by omega) (r_m.more (by omega)) (r_q.more (by omega)) (r_s.more (by omega)) 0 hpok).mono ?_
      rintro e w9 ⟨rfl, hb⟩
      have k9 : Below w.heap.size w w9 := ext_step k8 (by omega) hb
      have p9 := hb.size
      replace bx0_0 := ccell hb _ _ _ bx0_0
      replace bx1_0 := ccell hb _ _ _ bx1_0
      replace bx2_0 := ccell hb _ _ _ bx2_0
      have bl0 := Nat.lt_of_lt_of_le bl0 hb.size
      have bl1 := Nat.lt_of_lt_of_le bl1 hb.size
      have bl2 := Nat.lt_of_lt_of_le bl2 hb.size
      replace r_u := r_u.below (hb.mono (by omega))
      replace r_m := r_m.below (hb.mono (by omega))
      replace o_m := own_ext o_m hb
      replace r_p := r_p.below (hb.mono (by omega))
      replace o_p := own_ext o_p hb
      replace r_s := r_s.below (hb.mono (by omega))
      replace o_s := own_ext o_s hb
      replace r_z := r_z.below (hb.mono (by omega))
      replace o_z := own_ext o_z hb
      replace r_q := r_q.below (hb.mono (by omega))
      replace o_q := own_ext o_q hb
      clear hb
      go_wp2_with fail
      refine (implPiecesApart_c A_m A_s jm c_m js c_s ml ps _ HM.out HS.out (by omega) (by omega) (r_m.more (by omega)) (r_s.more (by omega)) 0 hpok).mono ?_
      rintro e w10 ⟨rfl, hb⟩
      have k10 : Below w.heap.size w w10 := ext_step k9 (by omega) hb
      have p10 := hb.size
      replace bx0_0 := ccell hb _ _ _ bx0_0
      replace bx1_0 := ccell hb _ _ _ bx1_0
      replace bx2_0 := ccell hb _ _ _ bx2_0
      have bl0 := Nat.lt_of_lt_of_le bl0 hb.size
      have bl1 := Nat.lt_of_lt_of_le bl1 hb.size
      have bl2 := Nat.lt_of_lt_of_le bl2 hb.size
      replace r_u := r_u.below (hb.mono (by omega))
      replace r_m := r_m.below (hb.mono (by omega))
      replace o_m := own_ext o_m hb
      replace r_p := r_p.below (hb.mono (by omega))
      replace o_p := own_ext o_p hb
      replace r_s := r_s.below (hb.mono (by omega))
      replace o_s := own_ext o_s hb
      replace r_z := r_z.below (hb.mono (by omega))
      replace o_z := own_ext o_z hb
      replace r_q := r_q.below (hb.mono (by omega))
      replace o_q := own_ext o_q hb
      clear hb
      go_wp2_with fail
      refine (specGatherPieces_c A_m A_q A_s jm c_m 6 c_q js c_s ml lq ps _ HM.out HQ.out HS.out (by omega) (by omega) (by omega) (r_m.more (by omega)) (r_q.more (by omega)) (r_s.more (by omega)) 0 hpok).mono ?_
      rintro e w11 ⟨rfl, hb⟩
      have k11 : Below w.heap.size w w11 := ext_step k10 (by omega) hb
      have p11 := hb.size
      replace bx0_0 := ccell hb _ _ _ bx0_0
      replace bx1_0 := ccell hb _ _ _ bx1_0
      replace bx2_0 := ccell hb _ _ _ bx2_0
      have bl0 := Nat.lt_of_lt_of_le bl0 hb.size
      have bl1 := Nat.lt_of_lt_of_le bl1 hb.size
      have bl2 := Nat.lt_of_lt_of_le bl2 hb.size
      replace r_u := r_u.below (hb.mono (by omega))
      replace r_m := r_m.below (hb.mono (by omega))
      replace o_m := own_ext o_m hb
      replace r_p := r_p.below (hb.mono (by omega))
      replace o_p := own_ext o_p hb
      replace r_s := r_s.below (hb.mono (by omega))
      replace o_s := own_ext o_s hb
      replace r_z := r_z.below (hb.mono (by omega))
      replace o_z := own_ext o_z hb
      replace r_q := r_q.below (hb.mono (by omega))
      replace o_q := own_ext o_q hb
      clear hb
      generalize gatS ml lq 0 ps = tq at *
      generalize gatB ml lq 0 ps = bq at *
      go_wp2_with fail
      refine (specPiecesApart_c A_m A_s jm c_m js c_s ml ps _ HM.out HS.out (by omega) (by omega) (r_m.more (by omega)) (r_s.more (by omega)) 0 hpok).mono ?_
      rintro e w12 ⟨rfl, hb⟩
      have k12 : Below w.heap.size w w12 := ext_step k11 (by omega) hb
      have p12 := hb.size
      replace bx0_0 := ccell hb _ _ _ bx0_0
      replace bx1_0 := ccell hb _ _ _ bx1_0
      replace bx2_0 := ccell hb _ _ _ bx2_0
      have bl0 := Nat.lt_of_lt_of_le bl0 hb.size
      have bl1 := Nat.lt_of_lt_of_le bl1 hb.size
      have bl2 := Nat.lt_of_lt_of_le bl2 hb.size
      replace r_u := r_u.below (hb.mono (by omega))
      replace r_m := r_m.below (hb.mono (by omega))
      replace o_m := own_ext o_m hb
      replace r_p := r_p.below (hb.mono (by omega))
      replace o_p := own_ext o_p hb
      replace r_s := r_s.below (hb.mono (by omega))
      replace o_s := own_ext o_s hb
      replace r_z := r_z.below (hb.mono (by omega))
      replace o_z := own_ext o_z hb
      replace r_q := r_q.below (hb.mono (by omega))
      replace o_q := own_ext o_q hb
      clear hb
      generalize apartB ml 0 ps = ba at *
      cases ba
      · cases bq <;> (go_wp2; go_ret; exact ⟨rfl, k12⟩)
      · obtain ⟨y1, y2, y3⟩ := HY.out (by simp)
        subst y1
        have z1 : ((tq.size : Int) == np) = true := by simp; omega
        have z2 : s.size ≤ tq.size := by have h9 := congrArg ByteArray.size y3; rw [ByteArray.size_extract] at h9; omega
        go_wp2
        go_ret
        exact ⟨ret_bool (by simp [y3]), k12⟩
end Go.Proofs.Ytnnlagmgdfhaiaa
