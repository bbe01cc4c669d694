/- The walk of laws.FnBuffers. -/
import Derived.Test.YtnnlagmgdfhaiaaBufP
import Derived.Test.YtnnlagmgdfhaiaaLawHas
import Derived.Test.YtnnlagmgdfhaiaaSlots4
namespace Go.Proofs.Ytnnlagmgdfhaiaa
set_option linter.unusedSimpArgs false
set_option linter.unusedVariables false
open Go.RowKit Go.ChangeShapes Go.WideShapes
set_option maxRecDepth 100000 in
set_option maxHeartbeats 4000000 in
theorem fnBuffers_walk (A : Option Addr) (n c : Nat) (l : List Int) (w : World) (hs : SlBytes w A n c l) :
    Calls Try.prog 3 #[.slice A n c] w fun e w' => e = .returned (.bool true) ∧ Below w.heap.size w w' := by
  obtain ⟨⟨hn, hnc, hc, hr⟩, hok⟩ := hs
  have hm : n ≤ 9223372036854775807 := by omega
  by_cases hbig : (1048576 : Int) < n
  · go_enter Try.func3, Try.ntmps3
    go_wp2_with fail
    refine (big_c _ _ _ _).mono ?_
    rintro e wq ⟨rfl, rfl⟩
    go_wp2
    go_ret
    exact ⟨rfl, Below.refl _ _⟩
  · have hm2 : n ≤ 1048576 := by omega
    go_enter Try.func3, Try.ntmps3
    go_wp2_with fail
    refine (big_c _ _ _ _).mono ?_
    rintro e wq ⟨rfl, rfl⟩
    have k0 : Below w.heap.size w w := Below.refl _ _
    have p0 : w.heap.size ≤ w.heap.size := Nat.le_refl _
    have r_u := hr
    have hn_u := hn
    obtain ⟨p0_, q0_⟩ := atI_bd hok 0
    obtain ⟨p1_, q1_⟩ := atI_bd hok 1
    obtain ⟨p2_, q2_⟩ := atI_bd hok 2
    obtain ⟨p3_, q3_⟩ := atI_bd hok 3
    go_wp2_with fail
    refine (at_c A n c l 0 _ (by omega) hn_u hm (r_u.more (by omega)) hok).mono ?_
    rintro e w1 ⟨rfl, hb⟩
    have k1 : Below w.heap.size w w1 := ext_step k0 (by omega) hb
    have p1 := hb.size
    replace r_u := r_u.below (hb.mono (by omega))
    clear hb
    obtain ⟨sz, hsz0⟩ : ∃ v : Int, 1 + atI l 0 = v := ⟨_, rfl⟩
    have hs1 : 1 ≤ sz ∧ sz ≤ 256 := by omega
    generalize hz0 : atI l 0 = z0 at *
    clear hz0
    go_wp2_with fail
    refine (at_c A n c l 1 _ (by omega) hn_u hm (r_u.more (by omega)) hok).mono ?_
    rintro e w2 ⟨rfl, hb⟩
    have k2 : Below w.heap.size w w2 := ext_step k1 (by omega) hb
    have p2 := hb.size
    replace r_u := r_u.below (hb.mono (by omega))
    clear hb
    obtain ⟨nn, hnn⟩ : ∃ v : Nat, atI l 1 % 17 = (v : Int) := ⟨(atI l 1 % 17).toNat, by omega⟩
    have hn1 : nn ≤ 16 := by omega
    generalize hz1 : atI l 1 = z1 at *
    clear hz1
    go_wp2_with fail
    refine (at_c A n c l 2 _ (by omega) hn_u hm (r_u.more (by omega)) hok).mono ?_
    rintro e w3 ⟨rfl, hb⟩
    have k3 : Below w.heap.size w w3 := ext_step k2 (by omega) hb
    have p3 := hb.size
    replace r_u := r_u.below (hb.mono (by omega))
    clear hb
    have hne : ((nn : Int) + 1 == 0) = false := by simp; omega
    have m1 := Int.emod_nonneg (atI l 2) (show (nn : Int) + 1 ≠ 0 by omega)
    have m2 := Int.emod_lt_of_pos (atI l 2) (show 0 < (nn : Int) + 1 by omega)
    obtain ⟨kk, hkk⟩ : ∃ v : Nat, atI l 2 % ((nn : Int) + 1) = (v : Int) := ⟨(atI l 2 % ((nn : Int) + 1)).toNat, by omega⟩
    have hk1 : kk ≤ nn := by omega
    generalize hz2 : atI l 2 = z2 at *
    clear hz2 m1 m2
    go_wp2_with fail
    refine (at_c A n c l 3 _ (by omega) hn_u hm (r_u.more (by omega)) hok).mono ?_
    rintro e w4 ⟨rfl, hb⟩
    have k4 : Below w.heap.size w w4 := ext_step k3 (by omega) hb
    have p4 := hb.size
    replace r_u := r_u.below (hb.mono (by omega))
    clear hb
    have HAT := fun w hr => at_q A n c l 3 w (by omega) hn_u hm hr hok
    generalize hz3 : atI l 3 = z3 at *
    clear hz3
    have hP : poolH z3 sz nn = true := by simp [poolH, inB]; omega
    obtain ⟨n1, n2, n3, n4⟩ := new_yes hP
    obtain ⟨b1, b2, b3, b4, b5, b6, b7, b8⟩ := bufs hP hk1
    have hul := upto_len nn
    go_wp2_with fail
    refine (implNewPool_c z3 sz (nn : Int) _).mono ?_
    rintro e w5 ⟨A_p, c_p, rfl, o_p, hb⟩
    have k5 : Below w.heap.size w w5 := ext_step k4 (by omega) hb
    have p5 := hb.size
    replace r_u := r_u.below (hb.mono (by omega))
    rw [n4] at o_p ⊢
    rw [n1, n2, n3, hP]
    clear n1 n2 n3 n4
    obtain ⟨ql, hq⟩ : ∃ v, (upto nn).drop kk = v := ⟨_, rfl⟩
    obtain ⟨tl, ht⟩ : ∃ v, (upto nn).take kk = v := ⟨_, rfl⟩
    have hql : ql.length = nn - kk := by rw [← hq, List.length_drop, hul]
    have htl : tl.length = kk := by rw [← ht, List.length_take, hul]; omega
    simp only [hq, ht] at *
    generalize upto nn = ul at *
    rw [hul] at o_p ⊢
    have HU := Lib.hid hul
    have hcp : nn ≤ c_p := by obtain ⟨A9, c9, e9, _, h1, h2⟩ := own_form o_p; injection e9 with _ _ e9; subst e9; exact h1
    have r_p := Reads.of_own o_p
    have u_p := fun k hk => (o_p.lt k hk).2
    clear hb
    clear hul hq ht
    go_wp2_with fail
    have hb : Below w5.heap.size w5 (w5.alloc (.cells #[.int .i64 z3, .int .i64 sz, .int .i64 (nn : Int), .slice A_p nn c_p] 27)) := by go_grown
    have bx0_0 : (w5.alloc (.cells #[.int .i64 z3, .int .i64 sz, .int .i64 (nn : Int), .slice A_p nn c_p] 27)).cell? ⟨w5.heap.size, 0, none⟩ = some (.int .i64 z3) := by simp [go_sem]
    have bx0_1 : (w5.alloc (.cells #[.int .i64 z3, .int .i64 sz, .int .i64 (nn : Int), .slice A_p nn c_p] 27)).cell? ⟨w5.heap.size, 1, none⟩ = some (.int .i64 sz) := by simp [go_sem]
    have bx0_2 : (w5.alloc (.cells #[.int .i64 z3, .int .i64 sz, .int .i64 (nn : Int), .slice A_p nn c_p] 27)).cell? ⟨w5.heap.size, 2, none⟩ = some (.int .i64 (nn : Int)) := by simp [go_sem]
    have bx0_3 : (w5.alloc (.cells #[.int .i64 z3, .int .i64 sz, .int .i64 (nn : Int), .slice A_p nn c_p] 27)).cell? ⟨w5.heap.size, 3, none⟩ = some (.slice A_p nn c_p) := by simp [go_sem]
    have bl0 : w5.heap.size < (w5.alloc (.cells #[.int .i64 z3, .int .i64 sz, .int .i64 (nn : Int), .slice A_p nn c_p] 27)).heap.size := by go_size
    generalize hW0 : (w5.alloc (.cells #[.int .i64 z3, .int .i64 sz, .int .i64 (nn : Int), .slice A_p nn c_p] 27)) = w6 at *
    clear hW0
    have k6 : Below w.heap.size w w6 := ext_step k5 (by omega) hb
    have p6 := hb.size
    replace r_u := r_u.below (hb.mono (by omega))
    replace r_p := r_p.below (hb.mono (by omega))
    replace o_p := own_ext o_p hb
    skip
    clear hb
    refine (implTakeBuffers_c z3 sz nn A_p nn c_p ul _ HU.out (by omega) hcp (r_p.more (by omega)) (kk : Int)).mono ?_
    rintro e w7 ⟨A_q, c_q, A_t, c_t, mb, rfl, o_q, uq, hmb, o_t, hb⟩
    have k7 : Below w.heap.size w w7 := ext_step k6 (by omega) hb
    have p7 := hb.size
    replace bx0_0 := ccell hb _ _ _ bx0_0
    replace bx0_1 := ccell hb _ _ _ bx0_1
    replace bx0_2 := ccell hb _ _ _ bx0_2
    replace bx0_3 := ccell hb _ _ _ bx0_3
    have bl0 := Nat.lt_of_lt_of_le bl0 hb.size
    replace r_u := r_u.below (hb.mono (by omega))
    replace r_p := r_p.below (hb.mono (by omega))
    replace o_p := own_ext o_p hb
    rw [b2] at o_q uq ⊢
    rw [b3] at o_t ⊢
    rw [b1]
    rw [hql] at o_q uq ⊢
    rw [htl] at o_t ⊢
    clear uq
    have o_t := own_base o_t hmb
    have hcq : nn - kk ≤ c_q := by obtain ⟨A9, c9, e9, _, h1, h2⟩ := own_form o_q; injection e9 with _ _ e9; subst e9; exact h1
    have hct : kk ≤ c_t ∧ c_t ≤ 9223372036854775807 := by obtain ⟨A9, c9, e9, _, h1, h2⟩ := own_form o_t; injection e9 with _ _ e9; subst e9; exact ⟨h1, h2⟩
    have r_q := Reads.of_own o_q
    have u_q := fun k hk => (o_q.lt k hk).2
    have r_t := Reads.of_own o_t
    have u_t := fun k hk => (o_t.lt k hk).2
    clear hb
    have HQ := Lib.hid hql
    have HT := Lib.hid htl
    clear hql htl b1 b2 b3
    go_wp2_with fail
    have hb : Below w7.heap.size w7 (w7.alloc (.cells #[.int .i64 z3, .int .i64 sz, .int .i64 (nn : Int), .slice A_q (nn - kk) c_q] 27)) := by go_grown
    have bx1_0 : (w7.alloc (.cells #[.int .i64 z3, .int .i64 sz, .int .i64 (nn : Int), .slice A_q (nn - kk) c_q] 27)).cell? ⟨w7.heap.size, 0, none⟩ = some (.int .i64 z3) := by simp [go_sem]
    have bx1_1 : (w7.alloc (.cells #[.int .i64 z3, .int .i64 sz, .int .i64 (nn : Int), .slice A_q (nn - kk) c_q] 27)).cell? ⟨w7.heap.size, 1, none⟩ = some (.int .i64 sz) := by simp [go_sem]
    have bx1_2 : (w7.alloc (.cells #[.int .i64 z3, .int .i64 sz, .int .i64 (nn : Int), .slice A_q (nn - kk) c_q] 27)).cell? ⟨w7.heap.size, 2, none⟩ = some (.int .i64 (nn : Int)) := by simp [go_sem]
    have bx1_3 : (w7.alloc (.cells #[.int .i64 z3, .int .i64 sz, .int .i64 (nn : Int), .slice A_q (nn - kk) c_q] 27)).cell? ⟨w7.heap.size, 3, none⟩ = some (.slice A_q (nn - kk) c_q) := by simp [go_sem]
    have bl1 : w7.heap.size < (w7.alloc (.cells #[.int .i64 z3, .int .i64 sz, .int .i64 (nn : Int), .slice A_q (nn - kk) c_q] 27)).heap.size := by go_size
    generalize hW0 : (w7.alloc (.cells #[.int .i64 z3, .int .i64 sz, .int .i64 (nn : Int), .slice A_q (nn - kk) c_q] 27)) = w8 at *
    clear hW0
    have k8 : Below w.heap.size w w8 := ext_step k7 (by omega) hb
    have p8 := hb.size
    replace bx0_0 := ccell hb _ _ _ bx0_0
    replace bx0_1 := ccell hb _ _ _ bx0_1
    replace bx0_2 := ccell hb _ _ _ bx0_2
    replace bx0_3 := ccell hb _ _ _ bx0_3
    have bl0 := Nat.lt_of_lt_of_le bl0 hb.size
    replace r_u := r_u.below (hb.mono (by omega))
    replace r_p := r_p.below (hb.mono (by omega))
    replace o_p := own_ext o_p hb
    replace r_q := r_q.below (hb.mono (by omega))
    replace o_q := own_ext o_q hb
    replace r_t := r_t.below (hb.mono (by omega))
    replace o_t := own_ext o_t hb
    skip
    clear hb
    refine (implGiveBuffers_c z3 sz nn A_q A_t (nn - kk) c_q kk c_t ql tl _ HQ.out HT.out (by omega) (by omega) (r_q.more (by omega)) (r_t.more (by omega))).mono ?_
    rintro e w9 ⟨A_r, c_r, rfl, o_r, hb⟩
    have k9 : Below w.heap.size w w9 := ext_step k8 (by omega) hb
    have p9 := hb.size
    replace bx0_0 := ccell hb _ _ _ bx0_0
    replace bx0_1 := ccell hb _ _ _ bx0_1
    replace bx0_2 := ccell hb _ _ _ bx0_2
    replace bx0_3 := ccell hb _ _ _ bx0_3
    replace bx1_0 := ccell hb _ _ _ bx1_0
    replace bx1_1 := ccell hb _ _ _ bx1_1
    replace bx1_2 := ccell hb _ _ _ bx1_2
    replace bx1_3 := ccell hb _ _ _ bx1_3
    have bl0 := Nat.lt_of_lt_of_le bl0 hb.size
    have bl1 := Nat.lt_of_lt_of_le bl1 hb.size
    replace r_u := r_u.below (hb.mono (by omega))
    replace r_p := r_p.below (hb.mono (by omega))
    replace o_p := own_ext o_p hb
    replace r_q := r_q.below (hb.mono (by omega))
    replace o_q := own_ext o_q hb
    replace r_t := r_t.below (hb.mono (by omega))
    replace o_t := own_ext o_t hb
    rw [b5] at o_r ⊢
    rw [b4]
    have hrl : (ql ++ tl).length = nn := by rw [List.length_append, HQ.out, HT.out]; omega
    rw [hrl] at o_r ⊢
    have HR := Lib.hid hrl
    clear hrl b4 b5
    generalize ql ++ tl = rl at *
    have r_r := Reads.of_own o_r
    have u_r := fun k hk => (o_r.lt k hk).2
    clear hb
    go_wp2_with fail
    have hb : Below w9.heap.size w9 (w9.alloc (.cells #[.int .i64 z3, .int .i64 sz, .int .i64 (nn : Int), .slice A_r nn c_r] 27)) := by go_grown
    have bx2_0 : (w9.alloc (.cells #[.int .i64 z3, .int .i64 sz, .int .i64 (nn : Int), .slice A_r nn c_r] 27)).cell? ⟨w9.heap.size, 0, none⟩ = some (.int .i64 z3) := by simp [go_sem]
    have bx2_1 : (w9.alloc (.cells #[.int .i64 z3, .int .i64 sz, .int .i64 (nn : Int), .slice A_r nn c_r] 27)).cell? ⟨w9.heap.size, 1, none⟩ = some (.int .i64 sz) := by simp [go_sem]
    have bx2_2 : (w9.alloc (.cells #[.int .i64 z3, .int .i64 sz, .int .i64 (nn : Int), .slice A_r nn c_r] 27)).cell? ⟨w9.heap.size, 2, none⟩ = some (.int .i64 (nn : Int)) := by simp [go_sem]
    have bx2_3 : (w9.alloc (.cells #[.int .i64 z3, .int .i64 sz, .int .i64 (nn : Int), .slice A_r nn c_r] 27)).cell? ⟨w9.heap.size, 3, none⟩ = some (.slice A_r nn c_r) := by simp [go_sem]
    have bl2 : w9.heap.size < (w9.alloc (.cells #[.int .i64 z3, .int .i64 sz, .int .i64 (nn : Int), .slice A_r nn c_r] 27)).heap.size := by go_size
    generalize hW0 : (w9.alloc (.cells #[.int .i64 z3, .int .i64 sz, .int .i64 (nn : Int), .slice A_r nn c_r] 27)) = w10 at *
    clear hW0
    have k10 : Below w.heap.size w w10 := ext_step k9 (by omega) hb
    have p10 := hb.size
    replace bx0_0 := ccell hb _ _ _ bx0_0
    replace bx0_1 := ccell hb _ _ _ bx0_1
    replace bx0_2 := ccell hb _ _ _ bx0_2
    replace bx0_3 := ccell hb _ _ _ bx0_3
    replace bx1_0 := ccell hb _ _ _ bx1_0
    replace bx1_1 := ccell hb _ _ _ bx1_1
    replace bx1_2 := ccell hb _ _ _ bx1_2
    replace bx1_3 := ccell hb _ _ _ bx1_3
    have bl0 := Nat.lt_of_lt_of_le bl0 hb.size
    have bl1 := Nat.lt_of_lt_of_le bl1 hb.size
    replace r_u := r_u.below (hb.mono (by omega))
    replace r_p := r_p.below (hb.mono (by omega))
    replace o_p := own_ext o_p hb
    replace r_q := r_q.below (hb.mono (by omega))
    replace o_q := own_ext o_q hb
    replace r_t := r_t.below (hb.mono (by omega))
    replace o_t := own_ext o_t hb
    replace r_r := r_r.below (hb.mono (by omega))
    replace o_r := own_ext o_r hb
    skip
    clear hb
    have g1 : (((nn - kk : Nat) : Int) != (nn : Int) - kk) = false := by simp; omega
    refine (calls_bool (implPoolOk_c z3 sz nn A_r nn c_r rl _ HR.out (by omega) (r_r.more (by omega))) b6).mono ?_
    rintro e w11 ⟨rfl, hb⟩
    have k11 : Below w.heap.size w w11 := ext_step k10 (by omega) hb
    have p11 := hb.size
    replace bx0_0 := ccell hb _ _ _ bx0_0
    replace bx0_1 := ccell hb _ _ _ bx0_1
    replace bx0_2 := ccell hb _ _ _ bx0_2
    replace bx0_3 := ccell hb _ _ _ bx0_3
    replace bx1_0 := ccell hb _ _ _ bx1_0
    replace bx1_1 := ccell hb _ _ _ bx1_1
    replace bx1_2 := ccell hb _ _ _ bx1_2
    replace bx1_3 := ccell hb _ _ _ bx1_3
    replace bx2_0 := ccell hb _ _ _ bx2_0
    replace bx2_1 := ccell hb _ _ _ bx2_1
    replace bx2_2 := ccell hb _ _ _ bx2_2
    replace bx2_3 := ccell hb _ _ _ bx2_3
    have bl0 := Nat.lt_of_lt_of_le bl0 hb.size
    have bl1 := Nat.lt_of_lt_of_le bl1 hb.size
    have bl2 := Nat.lt_of_lt_of_le bl2 hb.size
    replace r_u := r_u.below (hb.mono (by omega))
    replace r_p := r_p.below (hb.mono (by omega))
    replace o_p := own_ext o_p hb
    replace r_q := r_q.below (hb.mono (by omega))
    replace o_q := own_ext o_q hb
    replace r_t := r_t.below (hb.mono (by omega))
    replace o_t := own_ext o_t hb
    replace r_r := r_r.below (hb.mono (by omega))
    replace o_r := own_ext o_r hb
    clear hb
    go_wp2_with fail
    go_loopw [13] (fun i wr => ∃ k : Nat, k ≤ kk ∧ i = .int .i64 (k : Int) ∧ Below w11.heap.size w11 wr) (fun i _ => kk - (intOf i).toNat)
    case atStart => exact ⟨0, Nat.zero_le _, rfl, Below.refl _ _⟩
    case round =>
      obtain ⟨k, hk, rfl, hb⟩ := hrel
      generalize hW0 : wr = w12 at *
      clear hW0
      have k12 : Below w.heap.size w w12 := ext_step k11 (by omega) hb
      have p12 := hb.size
      replace bx0_0 := ccell hb _ _ _ bx0_0
      replace bx0_1 := ccell hb _ _ _ bx0_1
      replace bx0_2 := ccell hb _ _ _ bx0_2
      replace bx0_3 := ccell hb _ _ _ bx0_3
      replace bx1_0 := ccell hb _ _ _ bx1_0
      replace bx1_1 := ccell hb _ _ _ bx1_1
      replace bx1_2 := ccell hb _ _ _ bx1_2
      replace bx1_3 := ccell hb _ _ _ bx1_3
      replace bx2_0 := ccell hb _ _ _ bx2_0
      replace bx2_1 := ccell hb _ _ _ bx2_1
      replace bx2_2 := ccell hb _ _ _ bx2_2
      replace bx2_3 := ccell hb _ _ _ bx2_3
      have bl0 := Nat.lt_of_lt_of_le bl0 hb.size
      have bl1 := Nat.lt_of_lt_of_le bl1 hb.size
      have bl2 := Nat.lt_of_lt_of_le bl2 hb.size
      replace r_u := r_u.below (hb.mono (by omega))
      replace r_p := r_p.below (hb.mono (by omega))
      replace o_p := own_ext o_p hb
      replace r_q := r_q.below (hb.mono (by omega))
      replace o_q := own_ext o_q hb
      replace r_t := r_t.below (hb.mono (by omega))
      replace o_t := own_ext o_t hb
      replace r_r := r_r.below (hb.mono (by omega))
      replace o_r := own_ext o_r hb
      have hb9 := hb
      clear hb
      by_cases hlt : k < kk
      · have htr := r_t
        obtain ⟨b, o, x, rfl, hbb, hx, hcc⟩ := r_t.el (fun _ => rfl) (by decide) HT.out hlt
        have e0 : w12.cell? ⟨b, o + k, none⟩ = some (.int .i64 x) := by simpa using hcc 0 _ rfl
        have r_e : Reads w12 w12.heap.size 1 (some ⟨b, o + k, none⟩) 1 ([x].flatMap fun x : Int => [Value.int .i64 x]) := ⟨by simp, fun _ => ⟨b, o + k, rfl, by omega, fun j u hu => by cases j with | zero => (simp at hu; subst hu; simpa using e0) | succ j => simp at hu⟩⟩
        have hzz : True := trivial
        obtain ⟨x1, x2, x3, x4, x5, x6⟩ := b7 x (List.mem_of_getElem? hx)
        have i1 : (k : Int) < (kk : Int) := by omega
        have i2 : (0 : Int) ≤ (k : Int) := by omega
        clear hcc hx b7 b8
        have hxs : -(2 : Int) ^ 40 ≤ x * sz ∧ x * sz ≤ 2 ^ 40 := by have h1 := Int.mul_nonneg x5 (show 0 ≤ sz by omega); have h2 : x * sz ≤ 16 * 256 := Int.mul_le_mul (by omega) (by omega) (by omega) (by omega); omega
        go_wp2_with fail
        have hhas : ∀ t : Ext w12, Calls Try.prog 20 #[.slice A_q (nn - kk) c_q, .int .i64 x] t.wd fun e w' => e = .returned (.bool false) ∧ t.wd = w' := fun t => by have h1 := has_c A_q (nn - kk) c_q ql x t.wd HQ.out (by omega) (((r_q.more (by omega) : Reads w12 w12.heap.size 1 A_q (nn - kk) _).below t.below).more t.below.size); rw [decide_eq_false x1] at h1; exact h1
        have hbuf : ∀ t : Ext w12, Calls Try.prog 21 #[.agg #[.int .i64 z3, .int .i64 sz, .int .i64 (nn : Int), .slice A_q (nn - kk) c_q], .int .i64 x] t.wd fun e w' => e = .returned (.int .i64 (z3 + x * sz)) ∧ Below t.wd.heap.size t.wd w' := fun t => by have h1 := implBufferAddress_c z3 sz nn A_q (nn - kk) c_q ql t.wd HQ.out (by omega) (((r_q.more (by omega) : Reads w12 w12.heap.size 1 A_q (nn - kk) _).below t.below).more t.below.size) x; rw [x2] at h1; exact h1
        have hat : ∀ t : Ext w12, Calls Try.prog 15 #[.slice A n c, .int .i64 3] t.wd fun e w' => e = .returned (.int .i64 z3) ∧ t.wd = w' := fun t => HAT t.wd (((r_u.more (by omega) : Reads w12 w12.heap.size 1 A n _).below t.below).more t.below.size)
        have hxt := fun t : Ext w12 => (And.intro (t.cell bx1_0) (And.intro (t.cell bx1_1) (And.intro (t.cell bx1_2) (And.intro (t.cell bx1_3) (t.cell e0)))))
        refine wp_region_ext_lit (by kernel_rfl) (by kernel_rfl) ?_
        repeat (go_big_quiet_step (first | (go_at_call 15; exact ext_same (hat _)) | (go_at_call 20; exact ext_same (hhas _)) | (go_at_call 21; exact ext_call (hbuf _))))
        refine wpQuiet_nil ?_
        intro _ hw'
        obtain ⟨tq, hw''⟩ := hw'
        subst hw''
        have hb := tq.below
        generalize hW0 : tq.wd = w13 at *
        clear hW0 hxt
        have k13 : Below w.heap.size w w13 := ext_step k12 (by omega) hb
        have p13 := hb.size
        replace hb9 := ext_step hb9 hb9.size hb
        replace bx0_0 := ccell hb _ _ _ bx0_0
        replace bx0_1 := ccell hb _ _ _ bx0_1
        replace bx0_2 := ccell hb _ _ _ bx0_2
        replace bx0_3 := ccell hb _ _ _ bx0_3
        replace bx1_0 := ccell hb _ _ _ bx1_0
        replace bx1_1 := ccell hb _ _ _ bx1_1
        replace bx1_2 := ccell hb _ _ _ bx1_2
        replace bx1_3 := ccell hb _ _ _ bx1_3
        replace bx2_0 := ccell hb _ _ _ bx2_0
        replace bx2_1 := ccell hb _ _ _ bx2_1
        replace bx2_2 := ccell hb _ _ _ bx2_2
        replace bx2_3 := ccell hb _ _ _ bx2_3
        replace e0 := ccell hb _ _ _ e0
        have bl0 := Nat.lt_of_lt_of_le bl0 hb.size
        have bl1 := Nat.lt_of_lt_of_le bl1 hb.size
        have bl2 := Nat.lt_of_lt_of_le bl2 hb.size
        replace r_u := r_u.below (hb.mono (by omega))
        replace r_p := r_p.below (hb.mono (by omega))
        replace o_p := own_ext o_p hb
        replace r_q := r_q.below (hb.mono (by omega))
        replace o_q := own_ext o_q hb
        replace r_t := r_t.below (hb.mono (by omega))
        replace o_t := own_ext o_t hb
        replace r_r := r_r.below (hb.mono (by omega))
        replace o_r := own_ext o_r hb
        replace r_e := r_e.below (hb.mono (by omega))
        clear hb
        have hgive : ∀ (w9 : World), Reads w9 w9.heap.size 1 A_r nn (rl.flatMap fun x : Int => [Value.int .i64 x]) → Reads w9 w9.heap.size 1 (some ⟨b, o + k, none⟩) 1 ([x].flatMap fun x : Int => [Value.int .i64 x]) → Calls Try.prog 18 #[.agg #[.int .i64 z3, .int .i64 sz, .int .i64 (nn : Int), .slice A_r nn c_r], .slice (some ⟨b, o + k, none⟩) 1 (c_t - k)] w9 (fun e w' => ∃ A' c', e = .returned (.tuple #[.agg #[.int .i64 z3, .int .i64 sz, .int .i64 (nn : Int), .slice A' nn c'], .bool false]) ∧ w'.ownsRow w9.heap.size 3 1 (.slice A' nn c') nn (rl.flatMap fun x : Int => [Value.int .i64 x]) ∧ Below w9.heap.size w9 w') := fun w9 h1 h2 => by
          have h9 := implGiveBuffers_c z3 sz nn A_r (some ⟨b, o + k, none⟩) nn c_r 1 (c_t - k) rl [x] w9 HR.out rfl (by omega) (by omega) h1 h2
          rw [x4, HR.out, x3] at h9
          exact h9
        go_wp2_with fail
        have hBB : w13.heap.size ≤ w13.heap.size := by omega
        refine wp_region_slotsS (w13.heap.size) [(122, fun _ v => v = .agg #[.int .i64 z3, .int .i64 sz, .int .i64 (nn : Int), .slice A_r nn c_r]), (123, fun _ v => v = .slice (some ⟨b, o, none⟩) kk c_t), (124, fun _ v => v = .int .i64 (k : Int)), (125, fun _ v => v = .int .i64 (k : Int)), (126, fun _ v => v = .int .i64 ((k : Int) + 1)), (127, fun _ v => v = .slice (some ⟨b, o + k, none⟩) 1 (c_t - k)), (128, RowP w13.heap.size 3 1 nn (rl.flatMap fun x : Int => [Value.int .i64 x]) (fun A c => .tuple #[.agg #[.int .i64 z3, .int .i64 sz, .int .i64 (nn : Int), .slice A nn c], .bool false])), (121, RowP w13.heap.size 3 1 nn (rl.flatMap fun x : Int => [Value.int .i64 x]) (fun A c => .tuple #[.agg #[.int .i64 z3, .int .i64 sz, .int .i64 (nn : Int), .slice A nn c], .bool false])), (129, RowP w13.heap.size 3 1 nn (rl.flatMap fun x : Int => [Value.int .i64 x]) (fun A c => .agg #[.int .i64 z3, .int .i64 sz, .int .i64 (nn : Int), .slice A nn c])), (130, fun _ v => v = .bool false), (14, BoxP w13.heap.size 27 4), (15, fun _ v => v = .bool false)] [⟨11, 14, fun _ => True, StoR w13.heap.size 27 3 1 nn (rl.flatMap fun x : Int => [Value.int .i64 x]) (fun A c => [.int .i64 z3, .int .i64 sz, .int .i64 (nn : Int), .slice A nn c])⟩] (fun _ => True) (by kernel_rfl) hBB (by kernel_rfl) (by kernel_rfl) (by kernel_rfl) (by kernel_rfl) ?_ ?_ ?_ ?_ ?_ ?_ ?_
        · intro p hp
          simp only [List.mem_cons, List.not_mem_nil, or_false] at hp
          rcases hp with rfl | rfl | rfl | rfl | rfl | rfl | rfl | rfl | rfl | rfl | rfl | rfl
          all_goals (intro u u' v hb hv; first | exact hv | exact BoxP.keep hv hb | exact RowP.keep hv hb)
        · intro s hs u u' hb
          simp only [List.mem_cons, List.not_mem_nil, or_false] at hs
          rcases hs with rfl
          all_goals (refine ⟨fun h => ?_, fun _ h => ?_⟩ <;> first | exact h | exact StoP.keep h hb | exact StoR.keep h hb | exact Blk.ext h hb | exact StaR.keep h hb)
        · intro s hs
          simp only [List.mem_cons, List.not_mem_nil, or_false] at hs
          rcases hs with rfl
          all_goals first | trivial
        · exact trivial
        · intro u u' hb hj
          exact trivial
        · intro hGk hSk hJk
          refine allStep_cons (stepS_plain hGk hSk hBB hJk (by kernel_rfl) rfl ?_) ?_
          · intro a u hb hz hj hl hp K Q hK
            have e11 : a.tmps[11]?.getD undef = .pointer (some ⟨w9.heap.size, 0, none⟩) := gd (hl 11 (by kernel_rfl))
            have bx2_0 := ccell hb _ _ _ bx2_0
            have bx2_1 := ccell hb _ _ _ bx2_1
            have bx2_2 := ccell hb _ _ _ bx2_2
            have bx2_3 := ccell hb _ _ _ bx2_3
            go_simp
            exact hK _ _ (Below.refl _ _) (by intro d hd; cases hd; exact rfl)
          refine allStep_cons (stepS_plain hGk hSk hBB hJk (by kernel_rfl) rfl ?_) ?_
          · intro a u hb hz hj hl hp K Q hK
            have e9 : a.tmps[9]?.getD undef = .slice (some ⟨b, o, none⟩) kk c_t := gd (hl 9 (by kernel_rfl))
            go_simp
            exact hK _ _ (Below.refl _ _) (by intro d hd; cases hd; exact rfl)
          refine allStep_cons (stepS_plain hGk hSk hBB hJk (by kernel_rfl) rfl ?_) ?_
          · intro a u hb hz hj hl hp K Q hK
            have e13 : a.tmps[13]?.getD undef = .int .i64 (k : Int) := gd (hl 13 (by kernel_rfl))
            go_simp
            exact hK _ _ (Below.refl _ _) (by intro d hd; cases hd; exact rfl)
          refine allStep_cons (stepS_plain hGk hSk hBB hJk (by kernel_rfl) rfl ?_) ?_
          · intro a u hb hz hj hl hp K Q hK
            have e13 : a.tmps[13]?.getD undef = .int .i64 (k : Int) := gd (hl 13 (by kernel_rfl))
            go_simp
            exact hK _ _ (Below.refl _ _) (by intro d hd; cases hd; exact rfl)
          refine allStep_cons (stepS_plain hGk hSk hBB hJk (by kernel_rfl) rfl ?_) ?_
          · intro a u hb hz hj hl hp K Q hK
            have e125 : a.tmps[125]?.getD undef = .int .i64 (k : Int) := gd (hl 125 (by kernel_rfl))
            have hw : IntKind.i64.wrap ((k : Int) + 1) = (k : Int) + 1 := IntWalk.i64_in _ ⟨by omega, by omega⟩
            go_simp
            exact hK _ _ (Below.refl _ _) (by intro d hd; cases hd; exact rfl)
          refine allStep_cons (stepS_plain hGk hSk hBB hJk (by kernel_rfl) rfl ?_) ?_
          · intro a u hb hz hj hl hp K Q hK
            have e123 : a.tmps[123]?.getD undef = .slice (some ⟨b, o, none⟩) kk c_t := gd (hl 123 (by kernel_rfl))
            have e124 : a.tmps[124]?.getD undef = .int .i64 (k : Int) := gd (hl 124 (by kernel_rfl))
            have e126 : a.tmps[126]?.getD undef = .int .i64 ((k : Int) + 1) := gd (hl 126 (by kernel_rfl))
            have h1 : (0 : Int) ≤ (k : Int) + 1 ∧ (k : Int) + 1 ≤ (c_t : Int) := by omega
            have h2 : ¬ c_t = k := by omega
            go_simp
            exact hK _ _ (Below.refl _ _) (by intro d hd; cases hd; exact rfl)
          refine allStep_cons (stepS_plain hGk hSk hBB hJk (by kernel_rfl) rfl ?_) ?_
          · intro a u hb hz hj hl hp K Q hK
            have e122 : a.tmps[122]?.getD undef = .agg #[.int .i64 z3, .int .i64 sz, .int .i64 (nn : Int), .slice A_r nn c_r] := gd (hl 122 (by kernel_rfl))
            have e127 : a.tmps[127]?.getD undef = .slice (some ⟨b, o + k, none⟩) 1 (c_t - k) := gd (hl 127 (by kernel_rfl))
            go_simp
            refine (hgive _ ((r_r.below (hb.mono (by omega))).more (by omega)) ((r_e.below (hb.mono (by omega))).more (by omega))).mono ?_
            rintro e u1 ⟨A_h, c_h, rfl, o_h, hb1⟩
            exact hK _ _ hb1 (by intro d hd; cases hd; exact ⟨A_h, c_h, rfl, own_base o_h (by omega)⟩)
          refine allStep_cons (stepS_plain hGk hSk hBB hJk (by kernel_rfl) rfl ?_) ?_
          · intro a u hb hz hj hl hp K Q hK
            obtain ⟨A1, c1, ex128, o1⟩ : RowP w13.heap.size 3 1 nn (rl.flatMap fun x : Int => [Value.int .i64 x]) (fun A c => .tuple #[.agg #[.int .i64 z3, .int .i64 sz, .int .i64 (nn : Int), .slice A nn c], .bool false]) u (a.tmps.getD 128 undef) := hl 128 (by kernel_rfl)
            have e128 := gd ex128
            go_simp
            exact hK _ _ (Below.refl _ _) (by intro d hd; cases hd; exact ⟨A1, c1, rfl, o1⟩)
          refine allStep_cons (stepS_plain hGk hSk hBB hJk (by kernel_rfl) rfl ?_) ?_
          · intro a u hb hz hj hl hp K Q hK
            obtain ⟨A1, c1, ex121, o1⟩ : RowP w13.heap.size 3 1 nn (rl.flatMap fun x : Int => [Value.int .i64 x]) (fun A c => .tuple #[.agg #[.int .i64 z3, .int .i64 sz, .int .i64 (nn : Int), .slice A nn c], .bool false]) u (a.tmps.getD 121 undef) := hl 121 (by kernel_rfl)
            have e121 := gd ex121
            go_simp
            exact hK _ _ (Below.refl _ _) (by intro d hd; cases hd; exact ⟨A1, c1, rfl, o1⟩)
          refine allStep_cons (stepS_plain hGk hSk hBB hJk (by kernel_rfl) rfl ?_) ?_
          · intro a u hb hz hj hl hp K Q hK
            obtain ⟨A1, c1, ex121, o1⟩ : RowP w13.heap.size 3 1 nn (rl.flatMap fun x : Int => [Value.int .i64 x]) (fun A c => .tuple #[.agg #[.int .i64 z3, .int .i64 sz, .int .i64 (nn : Int), .slice A nn c], .bool false]) u (a.tmps.getD 121 undef) := hl 121 (by kernel_rfl)
            have e121 := gd ex121
            go_simp
            exact hK _ _ (Below.refl _ _) (by intro d hd; cases hd; exact rfl)
          refine allStep_cons (stepS_plain hGk hSk hBB hJk (by kernel_rfl) rfl ?_) ?_
          · intro a u hb hz hj hl hp K Q hK
            go_simp
            exact hK _ _ (by go_grown) (by intro d hd; cases hd; exact BoxP.new _ _ [.int .i64 0, .int .i64 0, .int .i64 0, .slice none 0 0] (by omega) rfl)
          refine allStep_cons (stepS_store (Chg w13.heap.size 27) (fun _ _ hc hb => hc.below' (by omega) hb) (fun _ _ hc => hc.size) (hold_rel ?_) ?_ ?_ rfl rfl ?_) ?_
          · intro p hp
            simp only [List.mem_cons, List.not_mem_nil, or_false] at hp
            rcases hp with rfl | rfl | rfl | rfl | rfl | rfl | rfl | rfl | rfl | rfl | rfl | rfl
            all_goals (intro u u' v hb hv; first | exact hv | exact BoxP.chg hv hb | exact RowP.chg hv hb (by decide))
          · intro s hs hne u u' hb
            simp only [List.mem_cons, List.not_mem_nil, or_false] at hs
            rcases hs with rfl
            all_goals first | exact absurd (by rfl) hne | (refine ⟨fun h => ?_, fun _ h => ?_⟩ <;> first | exact h | exact StoP.chg h hb (by decide) | exact StoR.chg h hb (by decide) (by decide) | exact Blk.chgL h hb (by omega) | exact StaR.chgL h hb (by omega) (by decide))
          · intro u u' hb hj
            exact trivial
          · intro a u hb hz hj hl hp K Q hK
            obtain ⟨b, exb, hB, zs, hzl, hbk⟩ : BoxP w13.heap.size 27 4 u (a.tmps.getD 14 undef) := hl 14 (by kernel_rfl)
            have e14 := gd exb
            obtain ⟨A2, c2, ex129, o2⟩ : RowP w13.heap.size 3 1 nn (rl.flatMap fun x : Int => [Value.int .i64 x]) (fun A c => .agg #[.int .i64 z3, .int .i64 sz, .int .i64 (nn : Int), .slice A nn c]) u (a.tmps.getD 129 undef) := hl 129 (by kernel_rfl)
            have e129 := gd ex129
            obtain ⟨z0, z1, z2, z3, rfl⟩ : ∃ z0 z1 z2 z3, zs = [z0, z1, z2, z3] := (by match zs, hzl with | [z0, z1, z2, z3], _ => exact ⟨_, _, _, _, rfl⟩)
            have hlt := hbk.lt
            have g0 : u.cell? ⟨b, 0, none⟩ = some z0 := (hbk.cell 0).trans rfl
            have f0 := hbk.frozen 0
            have g1 : u.cell? ⟨b, 1, none⟩ = some z1 := (hbk.cell 1).trans rfl
            have f1 := hbk.frozen 1
            have g2 : u.cell? ⟨b, 2, none⟩ = some z2 := (hbk.cell 2).trans rfl
            have f2 := hbk.frozen 2
            have g3 : u.cell? ⟨b, 3, none⟩ = some z3 := (hbk.cell 3).trans rfl
            have f3 := hbk.frozen 3
            go_simp
            refine hK undef _ (((((Chg.refl _ _ _).set hbk hB 0 _).set (hbk.set_ 0 _) hB 1 _).set ((hbk.set_ 0 _).set_ 1 _) hB 2 _).set (((hbk.set_ 0 _).set_ 1 _).set_ 2 _) hB 3 _) (fun s hs he => ?_)
            simp only [List.mem_cons, List.not_mem_nil, or_false] at hs
            rcases hs with rfl
            · exact ⟨b, A2, c2, exb, hB, ((((hbk.set_ 0 _).set_ 1 _).set_ 2 _).set_ 3 _), own_chg o2 (((((Chg.refl _ _ _).set hbk hB 0 _).set (hbk.set_ 0 _) hB 1 _).set ((hbk.set_ 0 _).set_ 1 _) hB 2 _).set (((hbk.set_ 0 _).set_ 1 _).set_ 2 _) hB 3 _) (by decide)⟩
          refine allStep_cons (stepS_plain hGk hSk hBB hJk (by kernel_rfl) rfl ?_) ?_
          · intro a u hb hz hj hl hp K Q hK
            have e130 : a.tmps[130]?.getD undef = .bool false := gd (hl 130 (by kernel_rfl))
            go_simp
            exact hK _ _ (Below.refl _ _) (by intro d hd; cases hd; exact rfl)
          exact allStep_nil
        intro xT w14 hb hz hj hL hSt
        have fx15 : xT 15 = .bool false := hL _ (List.mem_of_getElem? (i := 11) rfl)
        obtain ⟨bk_3, A_h, c_h, fx14, lo3, hk3, o_h⟩ : StoR w13.heap.size 27 3 1 nn (rl.flatMap fun x : Int => [Value.int .i64 x]) (fun A c => [.int .i64 z3, .int .i64 sz, .int .i64 (nn : Int), .slice A nn c]) w14 (xT 14) := hSt _ (List.mem_of_getElem? (i := 0) rfl)
        simp only [List.map, putAll, fx15, fx14]
        have bl3 := hk3.lt
        have bx3_0 : w14.cell? ⟨bk_3, 0, none⟩ = some (.int .i64 z3) := (hk3.cell 0).trans rfl
        have bx3_1 : w14.cell? ⟨bk_3, 1, none⟩ = some (.int .i64 sz) := (hk3.cell 1).trans rfl
        have bx3_2 : w14.cell? ⟨bk_3, 2, none⟩ = some (.int .i64 (nn : Int)) := (hk3.cell 2).trans rfl
        have bx3_3 : w14.cell? ⟨bk_3, 3, none⟩ = some (.slice A_h nn c_h) := (hk3.cell 3).trans rfl
        have k14 : Below w.heap.size w w14 := ext_step k13 (by omega) hb
        have p14 := hb.size
        replace hb9 := ext_step hb9 hb9.size hb
        replace bx0_0 := ccell hb _ _ _ bx0_0
        replace bx0_1 := ccell hb _ _ _ bx0_1
        replace bx0_2 := ccell hb _ _ _ bx0_2
        replace bx0_3 := ccell hb _ _ _ bx0_3
        replace bx1_0 := ccell hb _ _ _ bx1_0
        replace bx1_1 := ccell hb _ _ _ bx1_1
        replace bx1_2 := ccell hb _ _ _ bx1_2
        replace bx1_3 := ccell hb _ _ _ bx1_3
        replace bx2_0 := ccell hb _ _ _ bx2_0
        replace bx2_1 := ccell hb _ _ _ bx2_1
        replace bx2_2 := ccell hb _ _ _ bx2_2
        replace bx2_3 := ccell hb _ _ _ bx2_3
        replace e0 := ccell hb _ _ _ e0
        have bl0 := Nat.lt_of_lt_of_le bl0 hb.size
        have bl1 := Nat.lt_of_lt_of_le bl1 hb.size
        have bl2 := Nat.lt_of_lt_of_le bl2 hb.size
        replace r_u := r_u.below (hb.mono (by omega))
        replace r_p := r_p.below (hb.mono (by omega))
        replace o_p := own_ext o_p hb
        replace r_q := r_q.below (hb.mono (by omega))
        replace o_q := own_ext o_q hb
        replace r_t := r_t.below (hb.mono (by omega))
        replace o_t := own_ext o_t hb
        replace r_r := r_r.below (hb.mono (by omega))
        replace o_r := own_ext o_r hb
        replace r_e := r_e.below (hb.mono (by omega))
        have nb_h_3 := own_ty o_h hk3 (by decide)
        have r_h := Reads.of_own o_h
        have u_h := fun k hk => (o_h.lt k hk).2
        clear hL hSt hb hz fx15 fx14 hk3
        go_wp2_with fail
        go_roundw
        case rel => exact ⟨k + 1, by omega, by go_num, hb9⟩
        case measure => simp [intOf]; omega
      · have i1 : ¬ (k : Int) < (kk : Int) := by omega
        go_wp2_with fail
        refine (implTakeBuffers_c z3 sz nn A_q (nn - kk) c_q ql _ HQ.out (by omega) hcq (r_q.more (by omega)) ((nn : Int) - kk + 1)).mono ?_
        rintro e w13 ⟨A_v, c_v, A_w, c_w, mb2, rfl, o_v, uv, hmb2, o_w, hb⟩
        have k13 : Below w.heap.size w w13 := ext_step k12 (by omega) hb
        have p13 := hb.size
        replace bx0_0 := ccell hb _ _ _ bx0_0
        replace bx0_1 := ccell hb _ _ _ bx0_1
        replace bx0_2 := ccell hb _ _ _ bx0_2
        replace bx0_3 := ccell hb _ _ _ bx0_3
        replace bx1_0 := ccell hb _ _ _ bx1_0
        replace bx1_1 := ccell hb _ _ _ bx1_1
        replace bx1_2 := ccell hb _ _ _ bx1_2
        replace bx1_3 := ccell hb _ _ _ bx1_3
        replace bx2_0 := ccell hb _ _ _ bx2_0
        replace bx2_1 := ccell hb _ _ _ bx2_1
        replace bx2_2 := ccell hb _ _ _ bx2_2
        replace bx2_3 := ccell hb _ _ _ bx2_3
        have bl0 := Nat.lt_of_lt_of_le bl0 hb.size
        have bl1 := Nat.lt_of_lt_of_le bl1 hb.size
        have bl2 := Nat.lt_of_lt_of_le bl2 hb.size
        replace r_u := r_u.below (hb.mono (by omega))
        replace r_p := r_p.below (hb.mono (by omega))
        replace o_p := own_ext o_p hb
        replace r_q := r_q.below (hb.mono (by omega))
        replace o_q := own_ext o_q hb
        replace r_t := r_t.below (hb.mono (by omega))
        replace o_t := own_ext o_t hb
        replace r_r := r_r.below (hb.mono (by omega))
        replace o_r := own_ext o_r hb
        rw [b8]
        clear hb
        go_wp2
        go_ret
        exact ⟨rfl, by go_grown⟩
end Go.Proofs.Ytnnlagmgdfhaiaa
