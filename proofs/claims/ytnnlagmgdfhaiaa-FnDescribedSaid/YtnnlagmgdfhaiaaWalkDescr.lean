/- The walk of laws.FnDescribed. -/
import Derived.Test.YtnnlagmgdfhaiaaDescP
import Derived.Test.YtnnlagmgdfhaiaaPodI
import Derived.Test.YtnnlagmgdfhaiaaLawAt
namespace Go.Proofs.Ytnnlagmgdfhaiaa
set_option linter.unusedSimpArgs false
set_option linter.unusedVariables false
open Go.RowKit Go.ChangeShapes Go.WideShapes
theorem str_ne0 {s : ByteArray} (h : s.size = 16) : s.toList.isEmpty = false := by
  rw [ByteArray.toList_eq]
  have h1 : s.data.toList.length = 16 := by rw [← h]; simp
  cases h2 : s.data.toList with
  | nil => rw [h2] at h1; simp at h1
  | cons a b => rfl
theorem pc_same (a b : Int) (w : World) : (binOp .neq 61 (.agg #[.int .i64 a, .int .i64 b]) (.agg #[.int .i64 a, .int .i64 b])).run Try.prog w = .ok (.bool false) w := by
  have hu := Try.underlying61
  simp [go_sem]
set_option maxHeartbeats 2000000 in
theorem samePieces_c (A A' : Option Addr) (n c c' : Nat) (l : List Piece) (w : World) (hn : l.length = n) (hm : n ≤ 140737488355328) (hr : Reads w w.heap.size 2 A n (l.flatMap Piece.cells)) (hr' : Reads w w.heap.size 2 A' n (l.flatMap Piece.cells)) :
    Calls Try.prog 64 #[.slice A n c, .slice A' n c'] w fun e w' => e = .returned (.bool true) ∧ Below w.heap.size w w' := by
  have HN := Lib.hid hn
  clear hn
  go_enter Try.func64, Try.ntmps64
  go_wp2
  go_loopw [5] (fun i wr => ∃ k : Nat, k ≤ n ∧ i = .int .i64 k ∧ Below w.heap.size w wr) (fun i _ => n - (intOf i).toNat)
  case atStart => exact ⟨0, Nat.zero_le _, rfl, Below.refl _ _⟩
  case round =>
    obtain ⟨k, hk, rfl, hbw⟩ := hrel
    have hsz := hbw.size
    by_cases hlt : k < n
    · obtain ⟨b, o, x, rfl, hb, hxx, hcx⟩ := hr.el (fun _ => rfl) (by decide) HN.out hlt
      have c0 := (hbw.cell (p := ⟨b, o + k * 2, none⟩) hb).trans (by simpa using hcx 0 _ rfl)
      have c1 := (hbw.cell (p := ⟨b, o + k * 2 + 1, none⟩) hb).trans (by simpa using hcx 1 _ rfl)
      have HXx := Lib.hid hxx
      clear hxx hcx
      obtain ⟨b', o', y, rfl, hb', hxy, hcy⟩ := hr'.el (fun _ => rfl) (by decide) HN.out hlt
      have d0 := (hbw.cell (p := ⟨b', o' + k * 2, none⟩) hb').trans (by simpa using hcy 0 _ rfl)
      have d1 := (hbw.cell (p := ⟨b', o' + k * 2 + 1, none⟩) hb').trans (by simpa using hcy 1 _ rfl)
      have HXy := Lib.hid hxy
      clear hxy hcy
      obtain rfl : x = y := by
        have h1 := HXx.out
        rw [HXy.out] at h1
        injection h1 with h1
        exact h1.symm
      have l1 : (k : Int) < (n : Int) := by omega
      have hcmp := pc_same x.at_ x.ln
      go_wp2_with fail
      go_quiet (fail)
      have hk1 : Below w.heap.size w (wr.drewN nq) := below_drewN hbw _
      go_wp2
      go_roundw
      case rel => exact ⟨k + 1, by omega, by go_num, hk1⟩
      case measure => simp [intOf]; omega
    · go_wp2
      go_ret
      exact ⟨rfl, hbw⟩
set_option maxRecDepth 100000 in
set_option maxHeartbeats 4000000 in
theorem fnDescribed_walk (A : Option Addr) (n c : Nat) (l : List Int) (w : World) (hs : SlBytes w A n c l) :
    Calls Try.prog 11 #[.slice A n c] w fun e w' => e = .returned (.bool true) ∧ Below w.heap.size w w' := by
  obtain ⟨⟨hn, hnc, hc, hr⟩, hok⟩ := hs
  have hm : n ≤ 9223372036854775807 := by omega
  by_cases hbig : (1048576 : Int) < n
  · go_enter Try.func11, Try.ntmps11
    go_wp2_with fail
    refine (big_c _ _ _ _).mono ?_
    rintro e wq ⟨rfl, rfl⟩
    go_wp2
    go_ret
    exact ⟨rfl, Below.refl _ _⟩
  · have hm2 : n ≤ 1048576 := by omega
    go_enter Try.func11, Try.ntmps11
    go_wp2_with fail
    refine (big_c _ _ _ _).mono ?_
    rintro e wq ⟨rfl, rfl⟩
    have k0 : Below w.heap.size w w := Below.refl _ _
    have p0 : w.heap.size ≤ w.heap.size := Nat.le_refl _
    have r_u := hr
    have hn_u := hn
    obtain ⟨p0_, q0_⟩ := atI_bd hok 0
    obtain ⟨p1_, q1_⟩ := atI_bd hok 1
    go_wp2_with fail
    refine (drawPieces_c A n c l _ hn_u hm2 (r_u.more (by omega)) hok).mono ?_
    rintro e w1 ⟨ml, pg, A_m, c_m, A_p, c_p, ps, A_s, c_s, s, ⟨hml, hl8, hph, hpg, hn_p, hps, hsz⟩, rfl, o_m, o_p, o_s, hb⟩
    have k1 : Below w.heap.size w w1 := ext_step k0 (by omega) hb
    have p1 := hb.size
    replace r_u := r_u.below (hb.mono (by omega))
    obtain ⟨jm, hn_m⟩ : ∃ j, ml.length = j := ⟨_, rfl⟩
    obtain ⟨js, hn_s⟩ : ∃ j, ps.length = j := ⟨_, rfl⟩
    rw [hn_m] at hl8 o_m ⊢
    rw [hn_s] at o_s ⊢
    have r_s := Reads.of_own o_s
    have u_s := fun k hk => (o_s.lt k hk).2
    clear hb
    have hj4 : js ≤ 4 := by have := hps.1; omega
    have hpok : ∀ x ∈ ps, x.ok := fun x hx => by have := hps.2 x hx; exact ⟨⟨by omega, by omega⟩, ⟨by omega, by omega⟩⟩
    have HS := Lib.hid hn_s
    have HPS := Lib.hid hps
    clear hn_m hn_p hn_s hps hph hml hpg o_m o_p
    go_wp2_with fail
    have hb : Below w1.heap.size w1 (w1.alloc (.cells #[.slice A_p 6 c_p] 39)) := by go_grown
    have bx0_0 : (w1.alloc (.cells #[.slice A_p 6 c_p] 39)).cell? ⟨w1.heap.size, 0, none⟩ = some (.slice A_p 6 c_p) := by simp [go_sem]
    have bl0 : w1.heap.size < (w1.alloc (.cells #[.slice A_p 6 c_p] 39)).heap.size := by go_size
    generalize hW0 : (w1.alloc (.cells #[.slice A_p 6 c_p] 39)) = w2 at *
    clear hW0
    have k2 : Below w.heap.size w w2 := ext_step k1 (by omega) hb
    have p2 := hb.size
    replace r_u := r_u.below (hb.mono (by omega))
    replace r_s := r_s.below (hb.mono (by omega))
    replace o_s := own_ext o_s hb
    skip
    clear hb
    refine (at_c A n c l 0 _ (by omega) hn_u hm (r_u.more (by omega)) hok).mono ?_
    rintro e w3 ⟨rfl, hb⟩
    have k3 : Below w.heap.size w w3 := ext_step k2 (by omega) hb
    have p3 := hb.size
    replace bx0_0 := ccell hb _ _ _ bx0_0
    have bl0 := Nat.lt_of_lt_of_le bl0 hb.size
    replace r_u := r_u.below (hb.mono (by omega))
    replace r_s := r_s.below (hb.mono (by omega))
    replace o_s := own_ext o_s hb
    clear hb
    obtain ⟨sz, hsz0⟩ : ∃ v : Int, 1 + atI l 0 % 128 = v := ⟨_, rfl⟩
    have hs1 : 1 ≤ sz ∧ sz ≤ 128 := by omega
    generalize hz0 : atI l 0 = z0 at *
    go_wp2_with fail
    refine (at_c A n c l 1 _ (by omega) hn_u hm (r_u.more (by omega)) hok).mono ?_
    rintro e w4 ⟨rfl, hb⟩
    have k4 : Below w.heap.size w w4 := ext_step k3 (by omega) hb
    have p4 := hb.size
    replace bx0_0 := ccell hb _ _ _ bx0_0
    have bl0 := Nat.lt_of_lt_of_le bl0 hb.size
    replace r_u := r_u.below (hb.mono (by omega))
    replace r_s := r_s.below (hb.mono (by omega))
    replace o_s := own_ext o_s hb
    clear hb
    clear hz0
    have HAT := fun w hr => at_c A n c l 1 w (by omega) hn_u hm hr hok
    generalize atI l 1 = z1 at *
    by_cases hj0 : js = 0
    · skip
      subst hj0
      have hps0 : ps = [] := List.eq_nil_of_length_eq_zero HS.out
      subst hps0
      go_wp2_with fail
      refine (implDescribePacket_c A_s 0 c_s [] _ HS.out (by omega) (r_s.more (by omega)) hpok sz z1).mono ?_
      rintro e w5 ⟨A_d, c_d, rfl, o_d, hb⟩
      have k5 : Below w.heap.size w w5 := ext_step k4 (by omega) hb
      have p5 := hb.size
      replace bx0_0 := ccell hb _ _ _ bx0_0
      have bl0 := Nat.lt_of_lt_of_le bl0 hb.size
      replace r_u := r_u.below (hb.mono (by omega))
      replace r_s := r_s.below (hb.mono (by omega))
      replace o_s := own_ext o_s hb
      rw [described0]
      clear hb
      obtain ⟨E1, E2⟩ := enc_dec (op := 0) (fl := 0) (ln := 0) (at_ := 0) (sz := 0) (ck := 0) (by decide)
      clear E2 o_d
      go_wp2_with fail
      refine (implEncodeDesc_c 0 0 0 0 0 0 _ ⟨by omega, by omega⟩ ⟨by omega, by omega⟩ ⟨by omega, by omega⟩ ⟨by omega, by omega⟩).mono ?_
      rintro e w6 ⟨rfl, hb⟩
      have k6 : Below w.heap.size w w6 := ext_step k5 (by omega) hb
      have p6 := hb.size
      replace bx0_0 := ccell hb _ _ _ bx0_0
      have bl0 := Nat.lt_of_lt_of_le bl0 hb.size
      replace r_u := r_u.below (hb.mono (by omega))
      replace r_s := r_s.below (hb.mono (by omega))
      replace o_s := own_ext o_s hb
      clear hb
      generalize encB 0 0 0 0 0 0 = s0 at *
      have E2 := strNe (x := s0) (y := ⟨#[]⟩) (fun e => by rw [e] at E1; revert E1; decide)
      have E3 : s0.toList.isEmpty = false := str_ne0 E1
      go_wp2
      go_ret
      exact ⟨ret_bool (by simp [E3]), k6⟩
    · skip
      obtain ⟨D1, D2, D3, D4, D5, D6⟩ := described HPS.out (by rw [HS.out]; omega) hs1.1 hs1.2 p1_ q1_
      rw [HS.out] at D1
      have hj1 : ((js : Int) == 0) = false := by simp; omega
      go_wp2_with fail
      refine (implDescribePacket_c A_s js c_s ps _ HS.out (by omega) (r_s.more (by omega)) hpok sz z1).mono ?_
      rintro e w5 ⟨A_d, c_d, rfl, o_d, hb⟩
      have k5 : Below w.heap.size w w5 := ext_step k4 (by omega) hb
      have p5 := hb.size
      replace bx0_0 := ccell hb _ _ _ bx0_0
      have bl0 := Nat.lt_of_lt_of_le bl0 hb.size
      replace r_u := r_u.below (hb.mono (by omega))
      replace r_s := r_s.below (hb.mono (by omega))
      replace o_s := own_ext o_s hb
      generalize dpL ps sz z1 = ld at *
      rw [D1] at o_d ⊢
      have HD := Lib.hid D1
      clear D1
      have hcd : js + 1 ≤ c_d ∧ c_d ≤ 9223372036854775807 := by obtain ⟨A9, c9, e9, _, h1, h2⟩ := own_form o_d; injection e9 with _ _ e9; subst e9; exact ⟨h1, h2⟩
      have r_d := Reads.of_own o_d
      have u_d := fun k hk => (o_d.lt k hk).2
      clear hb
      have hdok : ∀ x ∈ ld, x.ok := fun x hx => by obtain ⟨h1, h2, h3, h4, h5, h6⟩ := descB_bd (D2 x hx); exact ⟨⟨by omega, by omega⟩, ⟨by omega, by omega⟩, ⟨by omega, by omega⟩, ⟨by omega, by omega⟩, ⟨by omega, by omega⟩, ⟨by omega, by omega⟩⟩
      have l0 : ((js + 1 : Nat) : Int) = (js : Int) + 1 := by omega
      go_wp2_with fail
      go_loopw [10] (fun i wr => ∃ k : Nat, k ≤ js + 1 ∧ i = .int .i64 (k : Int) ∧ Below w5.heap.size w5 wr) (fun i _ => js + 1 - (intOf i).toNat)
      case atStart => exact ⟨0, Nat.zero_le _, rfl, Below.refl _ _⟩
      case round =>
        obtain ⟨k, hk, rfl, hb⟩ := hrel
        generalize hW0 : wr = w6 at *
        clear hW0
        have k6 : Below w.heap.size w w6 := ext_step k5 (by omega) hb
        have p6 := hb.size
        replace bx0_0 := ccell hb _ _ _ bx0_0
        have bl0 := Nat.lt_of_lt_of_le bl0 hb.size
        replace r_u := r_u.below (hb.mono (by omega))
        replace r_s := r_s.below (hb.mono (by omega))
        replace o_s := own_ext o_s hb
        replace r_d := r_d.below (hb.mono (by omega))
        replace o_d := own_ext o_d hb
        have hb9 := hb
        clear hb
        by_cases hlt : k < js + 1
        · obtain ⟨b, o, x, rfl, hbb, hx, hcc⟩ := r_d.el (fun _ => rfl) (by decide) HD.out hlt
          have e0 : w6.cell? ⟨b, o + k * 6, none⟩ = some (.int .i64 x.op) := by simpa using hcc 0 _ rfl
          have e1 : w6.cell? ⟨b, o + k * 6 + 1, none⟩ = some (.int .i64 x.fl) := by simpa using hcc 1 _ rfl
          have e2 : w6.cell? ⟨b, o + k * 6 + 2, none⟩ = some (.int .i64 x.ln) := by simpa using hcc 2 _ rfl
          have e3 : w6.cell? ⟨b, o + k * 6 + 3, none⟩ = some (.int .i64 x.at_) := by simpa using hcc 3 _ rfl
          have e4 : w6.cell? ⟨b, o + k * 6 + 4, none⟩ = some (.int .i64 x.sz) := by simpa using hcc 4 _ rfl
          have e5 : w6.cell? ⟨b, o + k * 6 + 5, none⟩ = some (.int .i64 x.ck) := by simpa using hcc 5 _ rfl
          have hdb : descB x.op x.fl x.ln x.at_ x.sz x.ck = true := D2 x (List.mem_of_getElem? hx)
          obtain ⟨g1, g2, g3, g4, g5, g6, g7, g8⟩ := enc_dec hdb
          obtain ⟨h1_, h2_, h3_, h4_, h5_, h6_⟩ := descB_bd hdb
          have i1 : (k : Int) < (js : Int) + 1 := by omega
          clear hcc hx D2 D3 D4 D5 D6
          go_wp2_with fail
          refine (implEncodeDesc_c x.op x.fl x.ln x.at_ x.sz x.ck _ ⟨by omega, by omega⟩ ⟨by omega, by omega⟩ ⟨by omega, by omega⟩ ⟨by omega, by omega⟩).mono ?_
          rintro e w7 ⟨rfl, hb⟩
          have k7 : Below w.heap.size w w7 := ext_step k6 (by omega) hb
          have p7 := hb.size
          replace hb9 := ext_step hb9 hb9.size hb
          replace bx0_0 := ccell hb _ _ _ bx0_0
          replace e0 := ccell hb _ _ _ e0
          replace e1 := ccell hb _ _ _ e1
          replace e2 := ccell hb _ _ _ e2
          replace e3 := ccell hb _ _ _ e3
          replace e4 := ccell hb _ _ _ e4
          replace e5 := ccell hb _ _ _ e5
          have bl0 := Nat.lt_of_lt_of_le bl0 hb.size
          replace r_u := r_u.below (hb.mono (by omega))
          replace r_s := r_s.below (hb.mono (by omega))
          replace o_s := own_ext o_s hb
          replace r_d := r_d.below (hb.mono (by omega))
          replace o_d := own_ext o_d hb
          clear hb
          generalize encB x.op x.fl x.ln x.at_ x.sz x.ck = se at *
          go_wp2_with fail
          refine (implDecodeDesc_c se _ (by omega)).mono ?_
          rintro e w8 ⟨rfl, hb⟩
          have k8 : Below w.heap.size w w8 := ext_step k7 (by omega) hb
          have p8 := hb.size
          replace hb9 := ext_step hb9 hb9.size hb
          replace bx0_0 := ccell hb _ _ _ bx0_0
          replace e0 := ccell hb _ _ _ e0
          replace e1 := ccell hb _ _ _ e1
          replace e2 := ccell hb _ _ _ e2
          replace e3 := ccell hb _ _ _ e3
          replace e4 := ccell hb _ _ _ e4
          replace e5 := ccell hb _ _ _ e5
          have bl0 := Nat.lt_of_lt_of_le bl0 hb.size
          replace r_u := r_u.below (hb.mono (by omega))
          replace r_s := r_s.below (hb.mono (by omega))
          replace o_s := own_ext o_s hb
          replace r_d := r_d.below (hb.mono (by omega))
          replace o_d := own_ext o_d hb
          rw [decV_yes g2, decV_yes g2, decV_yes g2, decV_yes g2, decV_yes g2, decV_yes g2, g3, g4, g5, g6, g7, g8, g2]
          clear hb
          go_wp2_with fail
          have hb : Below w8.heap.size w8 (w8.alloc (.cells #[.int .i64 x.op, .int .i64 x.fl, .int .i64 x.ln, .int .i64 x.at_, .int .i64 x.sz, .int .i64 x.ck] 84)) := by go_grown
          have bx1_0 : (w8.alloc (.cells #[.int .i64 x.op, .int .i64 x.fl, .int .i64 x.ln, .int .i64 x.at_, .int .i64 x.sz, .int .i64 x.ck] 84)).cell? ⟨w8.heap.size, 0, none⟩ = some (.int .i64 x.op) := by simp [go_sem]
          have bx1_1 : (w8.alloc (.cells #[.int .i64 x.op, .int .i64 x.fl, .int .i64 x.ln, .int .i64 x.at_, .int .i64 x.sz, .int .i64 x.ck] 84)).cell? ⟨w8.heap.size, 1, none⟩ = some (.int .i64 x.fl) := by simp [go_sem]
          have bx1_2 : (w8.alloc (.cells #[.int .i64 x.op, .int .i64 x.fl, .int .i64 x.ln, .int .i64 x.at_, .int .i64 x.sz, .int .i64 x.ck] 84)).cell? ⟨w8.heap.size, 2, none⟩ = some (.int .i64 x.ln) := by simp [go_sem]
          have bx1_3 : (w8.alloc (.cells #[.int .i64 x.op, .int .i64 x.fl, .int .i64 x.ln, .int .i64 x.at_, .int .i64 x.sz, .int .i64 x.ck] 84)).cell? ⟨w8.heap.size, 3, none⟩ = some (.int .i64 x.at_) := by simp [go_sem]
          have bx1_4 : (w8.alloc (.cells #[.int .i64 x.op, .int .i64 x.fl, .int .i64 x.ln, .int .i64 x.at_, .int .i64 x.sz, .int .i64 x.ck] 84)).cell? ⟨w8.heap.size, 4, none⟩ = some (.int .i64 x.sz) := by simp [go_sem]
          have bx1_5 : (w8.alloc (.cells #[.int .i64 x.op, .int .i64 x.fl, .int .i64 x.ln, .int .i64 x.at_, .int .i64 x.sz, .int .i64 x.ck] 84)).cell? ⟨w8.heap.size, 5, none⟩ = some (.int .i64 x.ck) := by simp [go_sem]
          have bl1 : w8.heap.size < (w8.alloc (.cells #[.int .i64 x.op, .int .i64 x.fl, .int .i64 x.ln, .int .i64 x.at_, .int .i64 x.sz, .int .i64 x.ck] 84)).heap.size := by go_size
          generalize hW0 : (w8.alloc (.cells #[.int .i64 x.op, .int .i64 x.fl, .int .i64 x.ln, .int .i64 x.at_, .int .i64 x.sz, .int .i64 x.ck] 84)) = w9 at *
          clear hW0
          have k9 : Below w.heap.size w w9 := ext_step k8 (by omega) hb
          have p9 := hb.size
          replace hb9 := ext_step hb9 hb9.size hb
          replace bx0_0 := ccell hb _ _ _ bx0_0
          replace e0 := ccell hb _ _ _ e0
          replace e1 := ccell hb _ _ _ e1
          replace e2 := ccell hb _ _ _ e2
          replace e3 := ccell hb _ _ _ e3
          replace e4 := ccell hb _ _ _ e4
          replace e5 := ccell hb _ _ _ e5
          have bl0 := Nat.lt_of_lt_of_le bl0 hb.size
          replace r_u := r_u.below (hb.mono (by omega))
          replace r_s := r_s.below (hb.mono (by omega))
          replace o_s := own_ext o_s hb
          replace r_d := r_d.below (hb.mono (by omega))
          replace o_d := own_ext o_d hb
          skip
          clear hb
          have hcmp := desc_same x
          have g1i : ((se.size : Int) != 16) = false := by simp; omega
          have hdk := fun w => calls_bool (implDescOk_c x.op x.fl x.ln x.at_ x.sz x.ck w) hdb
          have hcmpE : ∀ t : Ext w9, (binOp .neq 84 (.agg #[.int .i64 x.op, .int .i64 x.fl, .int .i64 x.ln, .int .i64 x.at_, .int .i64 x.sz, .int .i64 x.ck]) (.agg #[.int .i64 x.op, .int .i64 x.fl, .int .i64 x.ln, .int .i64 x.at_, .int .i64 x.sz, .int .i64 x.ck])).run Try.prog t.wd = .ok (.bool false) t.wd := fun t => desc_same x t.wd
          have hxt := fun t : Ext w9 => (And.intro (t.cell bx1_0) (And.intro (t.cell bx1_1) (And.intro (t.cell bx1_2) (And.intro (t.cell bx1_3) (And.intro (t.cell bx1_4) (And.intro (t.cell bx1_5) (And.intro (t.cell e0) (And.intro (t.cell e1) (And.intro (t.cell e2) (And.intro (t.cell e3) (And.intro (t.cell e4) (t.cell e5))))))))))))
          refine wp_region_ext_lit (by kernel_rfl) (by kernel_rfl) ?_
          repeat (go_big_quiet_step (first | (go_at_call 62; exact ext_call (hdk _))))
          refine wpQuiet_nil ?_
          intro _ hw'
          obtain ⟨tq, hw''⟩ := hw'
          subst hw''
          have hb := tq.below
          generalize hW0 : tq.wd = w10 at *
          clear hW0 hxt
          have k10 : Below w.heap.size w w10 := ext_step k9 (by omega) hb
          have p10 := hb.size
          replace hb9 := ext_step hb9 hb9.size hb
          replace bx0_0 := ccell hb _ _ _ bx0_0
          replace e0 := ccell hb _ _ _ e0
          replace e1 := ccell hb _ _ _ e1
          replace e2 := ccell hb _ _ _ e2
          replace e3 := ccell hb _ _ _ e3
          replace e4 := ccell hb _ _ _ e4
          replace e5 := ccell hb _ _ _ e5
          replace bx1_0 := ccell hb _ _ _ bx1_0
          replace bx1_1 := ccell hb _ _ _ bx1_1
          replace bx1_2 := ccell hb _ _ _ bx1_2
          replace bx1_3 := ccell hb _ _ _ bx1_3
          replace bx1_4 := ccell hb _ _ _ bx1_4
          replace bx1_5 := ccell hb _ _ _ bx1_5
          have bl0 := Nat.lt_of_lt_of_le bl0 hb.size
          have bl1 := Nat.lt_of_lt_of_le bl1 hb.size
          replace r_u := r_u.below (hb.mono (by omega))
          replace r_s := r_s.below (hb.mono (by omega))
          replace o_s := own_ext o_s hb
          replace r_d := r_d.below (hb.mono (by omega))
          replace o_d := own_ext o_d hb
          clear hb
          go_wp2_with fail
          go_roundw
          case rel => exact ⟨k + 1, by omega, by go_num, hb9⟩
          case measure => simp [intOf]; omega
        · have i1 : ¬ (k : Int) < (js : Int) + 1 := by omega
          go_wp2_with fail
          refine (implPiecesOfDescs_c A_d (js + 1) c_d ld _ HD.out hcd.1 hcd.2 (by omega) (r_d.more (by omega)) hdok).mono ?_
          rintro e w7 ⟨A_b, c_b, rfl, o_b, hb⟩
          have k7 : Below w.heap.size w w7 := ext_step k6 (by omega) hb
          have p7 := hb.size
          replace bx0_0 := ccell hb _ _ _ bx0_0
          have bl0 := Nat.lt_of_lt_of_le bl0 hb.size
          replace r_u := r_u.below (hb.mono (by omega))
          replace r_s := r_s.below (hb.mono (by omega))
          replace o_s := own_ext o_s hb
          replace r_d := r_d.below (hb.mono (by omega))
          replace o_d := own_ext o_d hb
          rw [D4] at o_b ⊢
          rw [D3, D5, D6]
          rw [HS.out] at o_b ⊢
          have r_b := Reads.of_own o_b
          have u_b := fun k hk => (o_b.lt k hk).2
          clear hb
          go_wp2_with fail
          refine (samePieces_c A_b A_s js c_b c_s ps _ HS.out (by omega) (r_b.more (by omega)) (r_s.more (by omega))).mono ?_
          rintro e w8 ⟨rfl, hb⟩
          have k8 : Below w.heap.size w w8 := ext_step k7 (by omega) hb
          have p8 := hb.size
          replace bx0_0 := ccell hb _ _ _ bx0_0
          have bl0 := Nat.lt_of_lt_of_le bl0 hb.size
          replace r_u := r_u.below (hb.mono (by omega))
          replace r_s := r_s.below (hb.mono (by omega))
          replace o_s := own_ext o_s hb
          replace r_d := r_d.below (hb.mono (by omega))
          replace o_d := own_ext o_d hb
          replace r_b := r_b.below (hb.mono (by omega))
          replace o_b := own_ext o_b hb
          clear hb
          go_wp2_with fail
          refine (HAT _ (r_u.more (by omega))).mono ?_
          rintro e w9 ⟨rfl, hb⟩
          have k9 : Below w.heap.size w w9 := ext_step k8 (by omega) hb
          have p9 := hb.size
          replace bx0_0 := ccell hb _ _ _ bx0_0
          have bl0 := Nat.lt_of_lt_of_le bl0 hb.size
          replace r_u := r_u.below (hb.mono (by omega))
          replace r_s := r_s.below (hb.mono (by omega))
          replace o_s := own_ext o_s hb
          replace r_d := r_d.below (hb.mono (by omega))
          replace o_d := own_ext o_d hb
          replace r_b := r_b.below (hb.mono (by omega))
          replace o_b := own_ext o_b hb
          clear hb
          go_wp2
          go_ret
          exact ⟨rfl, k9⟩
end Go.Proofs.Ytnnlagmgdfhaiaa
