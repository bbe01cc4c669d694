/- The walk of laws.FnCutPieces. -/
import Derived.Test.YteajedcoidljhaaCutPlain
import Derived.Test.YteajedcoidljhaaLawAt
namespace Go.Proofs.Yteajedcoidljhaa
set_option linter.unusedSimpArgs false
set_option linter.unusedVariables false
open Go.RowKit Go.ChangeShapes Go.WideShapes
theorem cut_facts (at_ n size : Int) (h1 : 0 ≤ at_) (h2 : at_ ≤ 765) (h3 : 1 ≤ n) (h4 : n ≤ 256) (h5 : 16 ≤ size) (h6 : size ≤ 271) :
    piecesB (cutP at_ n size) = true ∧ sumP (cutP at_ n size) = n ∧ ∀ k x, (cutP at_ n size)[k]? = some x →
      x.at_ = at_ + sumP ((cutP at_ n size).take k) ∧ 1 ≤ x.ln ∧ x.ln ≤ size ∧ (k + 1 < (cutP at_ n size).length → x.ln = size) := by
  have hq : (n + size - 1) / size ≤ 16 := by
    have : (n + size - 1) / size < 17 := Int.ediv_lt_of_lt_mul (by omega) (by omega)
    omega
  have hok := cutP_ok (at_ := at_) (n := n) (size := size) (by simp [inB]; omega) (by simp [inB]; omega) (by simp [inB]; omega) hq
  have hs := cut_spec at_ n size (by omega) cutF 0 (by rw [cutF_eq]; omega)
  have hl := cut_len at_ n size 16 cutF 0 (by omega)
  rw [← hok] at hs hl
  have hsum := hs.1 (by omega)
  refine ⟨?_, by omega, fun k x hx => ?_⟩
  · simp only [piecesB, Bool.and_eq_true, decide_eq_true_eq, List.all_eq_true]
    refine ⟨fun x hx => ?_, hl⟩
    obtain ⟨k, hk⟩ := List.getElem?_of_mem hx
    have hsp : ∀ j, 0 ≤ sumP ((cutP at_ n size).take j) := by
      intro j
      induction j with
      | zero => simp [sumP]
      | succ j ih =>
        cases hj : (cutP at_ n size)[j]? with
        | none =>
          rw [List.take_add_one, hj]; simpa using ih
        | some y =>
          have := (hs.2 j y hj).2.1
          rw [sumP_next hj]; omega
    obtain ⟨e1, e2, e3, _⟩ := hs.2 k x hk
    have := hsp k
    simp [pieceB, inB]
    omega
  · obtain ⟨e1, e2, e3, e4⟩ := hs.2 k x hx
    exact ⟨by omega, e2, e3, e4⟩
set_option maxRecDepth 100000 in
set_option maxHeartbeats 4000000 in
theorem fnCutPieces_walk (A : Option Addr) (n c : Nat) (l : List Int) (w : World) (hs : SlBytes w A n c l) :
    Calls Try.prog 11 #[.slice A n c] w fun e w' => e = .returned (.bool true) ∧ Below w.heap.size w w' := by
  obtain ⟨⟨hn, hnc, hc, hr⟩, hok⟩ := hs
  have hm : n ≤ 9223372036854775807 := by omega
  by_cases hbig : (1048576 : Int) < n
  · go_enter Try.func11, Try.ntmps11
    go_wp2_with fail
    refine (big_c _ _ _ _).mono ?_
    rintro e w1 ⟨rfl, rfl⟩
    go_wp2
    go_ret
    exact ⟨rfl, Below.refl _ _⟩
  · obtain ⟨p0, q0⟩ := atI_bd hok 0
    obtain ⟨p1, q1⟩ := atI_bd hok 1
    obtain ⟨p2, q2⟩ := atI_bd hok 2
    go_enter Try.func11, Try.ntmps11
    go_wp2_with fail
    refine (big_c _ _ _ _).mono ?_
    rintro e w1 ⟨rfl, rfl⟩
    go_wp2_with fail
    refine (at_c _ _ _ l 0 _ (by omega) hn hm hr hok).mono ?_
    rintro e w1 ⟨rfl, k1⟩
    go_wp2_with fail
    refine (at_c _ _ _ l 1 _ (by omega) hn hm (hr.to k1) hok).mono ?_
    rintro e w2 ⟨rfl, hb⟩
    have k2 := ext_step k1 k1.size hb
    clear hb
    go_wp2_with fail
    refine (at_c _ _ _ l 2 _ (by omega) hn hm (hr.to k2) hok).mono ?_
    rintro e w3 ⟨rfl, hb⟩
    have k3 := ext_step k2 k2.size hb
    clear hb
    obtain ⟨f1, f2, f3⟩ := cut_facts (atI l 0 * 3) (1 + atI l 1) (16 + atI l 2) (by omega) (by omega) (by omega) (by omega) (by omega) (by omega)
    generalize atI l 0 = a0 at *
    generalize atI l 1 = a1 at *
    generalize atI l 2 = a2 at *
    go_wp2_with fail
    refine (implCutPieces_c _ _ _ _).mono ?_
    rintro e w4 ⟨v4, rfl, o4, hb⟩
    have k4 := ext_step k3 k3.size hb
    obtain ⟨A4, c4, rfl, r4, _, _⟩ := own_form o4
    clear hb o4 hr k1 k2 k3
    generalize cutP (a0 * 3) (1 + a1) (16 + a2) = L at *
    have hL16 := piecesB_len f1
    have F1 := Lib.hid f1
    have F2 := Lib.hid f2
    have F3 := Lib.hid f3
    clear f1 f2 f3
    generalize hN : L.length = N at *
    have HN := Lib.hid hN
    clear hN
    go_wp2_with fail
    go_loopw [7, 8] (fun s i wr => ∃ k : Nat, k ≤ N ∧ s = .int .i64 (sumP (L.take k)) ∧ i = .int .i64 k ∧ Below w4.heap.size w4 wr) (fun _ i _ => N - (intOf i).toNat)
    case atStart => exact ⟨0, Nat.zero_le _, rfl, rfl, Below.refl _ _⟩
    case round =>
      obtain ⟨k, hk, rfl, rfl, hbw⟩ := hrel
      obtain ⟨s1, s2⟩ := sumP_bd F1.out k (by rw [HN.out]; exact hk)
      by_cases hlt : k < N
      · obtain ⟨b, o, x, rfl, hbb, hx, hcc⟩ := r4.el (fun _ => rfl) (by decide) HN.out hlt
        have d0 := (hbw.cell (p := ⟨b, o + k * 2, none⟩) hbb).trans (by simpa using hcc 0 _ rfl)
        have d1 := (hbw.cell (p := ⟨b, o + k * 2 + 1, none⟩) hbb).trans (by simpa using hcc 1 _ rfl)
        obtain ⟨e1, e2, e3, e4⟩ := F3.out k x hx
        rw [e1] at d0
        have HX := Lib.hid hx
        clear hx hcc e1
        by_cases hlast : k + 1 < N
        · have e5 := e4 hlast
          rw [e5] at d1
          have E5 := Lib.hid e5
          clear e4 e5
          go_wp2_with fail
          go_roundw
          case rel => exact ⟨k + 1, by omega, by rw [sumP_next HX.out, E5.out], by go_num, by go_grown⟩
          case measure => simp [intOf]; omega
        · clear e4
          go_wp2_with fail
          go_roundw
          case rel => exact ⟨k + 1, by omega, by rw [sumP_next HX.out], by go_num, by go_grown⟩
          case measure => simp [intOf]; omega
      · have hs : (sumP (L.take k) == 1 + a1) = true := by
          rw [take_all HN.out hlt, F2.out]; simp
        have hl : (lenP L == 1 + a1) = true := by
          rw [lenP, if_pos F1.out, F2.out]; simp
        have r5 := r4.to hbw
        have k5 := ext_step k4 k4.size hbw
        clear r4 hbw
        go_wp2_with fail
        refine (calls_bool (implPiecesOk_c _ _ _ _ _ HN.out (by omega) r5) F1.out).mono ?_
        rintro e w6 ⟨rfl, hb⟩
        have k6 := ext_step k5 k5.size hb
        have r6 := r5.to hb
        clear hb
        go_wp2_with fail
        refine (implPiecesLength_c _ _ _ _ _ HN.out (by omega) r6).mono ?_
        rintro e w7 ⟨rfl, hb⟩
        have k7 := ext_step k6 k6.size hb
        clear hb
        go_wp2
        go_ret
        exact ⟨rfl, k7⟩
end Go.Proofs.Yteajedcoidljhaa
