/- Contract of PiecesOfDescs: impl. -/
import Derived.Test.YtnnlagmgdfhaiaaPod
namespace Go.Proofs.Ytnnlagmgdfhaiaa
set_option linter.unusedSimpArgs false
set_option linter.unusedVariables false
open Go.RowKit Go.ChangeShapes Go.WideShapes
theorem info_Piece2 : (Try.prog.info? 61).map (fun i => (i.zero, i.size, i.bytes)) = some (some (.agg #[.int .i64 0, .int .i64 0]), 2, 16) := by kernel_rfl
set_option maxRecDepth 100000 in
set_option maxHeartbeats 4000000 in
theorem implPiecesOfDescs_c (A : Option Addr) (n c : Nat) (l : List Desc) (w : World) (hn : l.length = n) (hnc : n ≤ c) (hcm : c ≤ 9223372036854775807) (hm : n ≤ 1048576) (hr : Reads w w.heap.size 6 A n (l.flatMap Desc.cells)) (hi3 : ∀ x ∈ l, x.ok) :
    Calls Try.prog 63 #[.slice A n c] w fun e w' => ∃ A2 c2, e = .returned (.tuple #[.slice A2 (podR l).length c2, .int .i64 (podS l), .int .i64 (podC l), .bool (podB l)]) ∧ w'.ownsRow w.heap.size 61 2 (.slice A2 (podR l).length c2) (podR l).length ((podR l).flatMap Piece.cells) ∧ Below w.heap.size w w' := by
  by_cases h2 : n < 2
  · have hg : podB l = false := by rw [podB, hn, show decide (2 ≤ n) = false by simp; omega]; rfl
    rw [hg, (pod_no hg).1, (pod_no hg).2.1, (pod_no hg).2.2]
    clear hg
    go_enter Try.func63, Try.ntmps63
    go_wp2
    refine bodyPost_ret (v := .tuple #[.slice none 0 0, .int .i64 0, .int .i64 0, .bool false]) (by simp [results, Try.results63, go_sem]) rfl ?_
    exact ⟨none, 0, rfl, own_nil _ _ _ _, Below.refl _ _⟩
  · obtain ⟨i0, hi, hz0, hz1, hz2⟩ := info_parts info_Piece2
    obtain ⟨b0, o0, hA, hb0, _⟩ := hr.2 (by omega)
    subst hA
    have HN := Lib.hid hn
    have HI3 := Lib.hid hi3
    clear hn hi3
    have c1 : ¬ c = 1 := by omega
    go_enter Try.func63, Try.ntmps63
    go_wp2
    have e1 : l[0]? = some (dHd l) := by
      have h9 := HN.out
      cases l with
      | nil => simp at h9; omega
      | cons a ax => rfl
    obtain ⟨ba0, oa0, x0, hA0, hba0, hx0, hc0⟩ := hr.el (fun _ => rfl) (by decide) HN.out (k := 0) (by omega)
    injection hA0 with hA0
    injection hA0 with hA1 hA2
    subst hA1; subst hA2
    obtain rfl : x0 = dHd l := by rw [e1] at hx0; injection hx0 with hx0; exact hx0.symm
    have s4 : w.cell? ⟨b0, o0 + 4, none⟩ = some (.int .i64 (dHd l).sz) := by simpa using hc0 4 _ rfl
    have s5 : w.cell? ⟨b0, o0 + 5, none⟩ = some (.int .i64 (dHd l).ck) := by simpa using hc0 5 _ rfl
    clear hc0 hx0 e1
    have hbase : w.heap.size ≤ w.heap.size := Nat.le_refl _
    have hpl := podP_len l
    rw [HN.out] at hpl
    have HPL := Lib.hid hpl
    clear hpl
    go_loopw [6, 20] (fun ov i wr => ∃ (k : Nat) (u : Value), k ≤ n - 1 ∧ i = .int .i64 (k : Int) ∧ ov = u ∧ wr.ownsRow w.heap.size 61 2 u k (((podP l).take k).flatMap Piece.cells) ∧ Below w.heap.size w wr) (fun _ i _ => n - 1 - (intOf i).toNat)
    case atStart => exact ⟨0, _, Nat.zero_le _, rfl, rfl, own_empty (Blk.new w 61 []) (Nat.le_refl _), by go_grown⟩
    case round =>
      obtain ⟨k, u, hk, rfl, hu, hown, hbw⟩ := hrel
      have hu := hu.symm
      subst hu
      have hsz := hbw.size
      by_cases hlt : k < n - 1
      · obtain ⟨b, o, x, hA0, hb, hx, hc⟩ := hr.el (fun _ => rfl) (by decide) HN.out (k := k + 1) (by omega)
        injection hA0 with hA0
        injection hA0 with hA1 hA2
        subst hA1; subst hA2
        have c0 : wr.cell? ⟨b0, o0 + 6 + k * 6, none⟩ = some (.int .i64 x.op) := (hbw.cell (p := ⟨b0, o0 + 6 + k * 6, none⟩) hb0).trans (by have h9 := hc 0 _ rfl; rw [show o0 + (k + 1) * 6 + 0 = o0 + 6 + k * 6 by omega] at h9; exact h9)
        have c1 : wr.cell? ⟨b0, o0 + 6 + k * 6 + 1, none⟩ = some (.int .i64 x.fl) := (hbw.cell (p := ⟨b0, o0 + 6 + k * 6 + 1, none⟩) hb0).trans (by have h9 := hc 1 _ rfl; rw [show o0 + (k + 1) * 6 + 1 = o0 + 6 + k * 6 + 1 by omega] at h9; exact h9)
        have c2 : wr.cell? ⟨b0, o0 + 6 + k * 6 + 2, none⟩ = some (.int .i64 x.ln) := (hbw.cell (p := ⟨b0, o0 + 6 + k * 6 + 2, none⟩) hb0).trans (by have h9 := hc 2 _ rfl; rw [show o0 + (k + 1) * 6 + 2 = o0 + 6 + k * 6 + 2 by omega] at h9; exact h9)
        have c3 : wr.cell? ⟨b0, o0 + 6 + k * 6 + 3, none⟩ = some (.int .i64 x.at_) := (hbw.cell (p := ⟨b0, o0 + 6 + k * 6 + 3, none⟩) hb0).trans (by have h9 := hc 3 _ rfl; rw [show o0 + (k + 1) * 6 + 3 = o0 + 6 + k * 6 + 3 by omega] at h9; exact h9)
        have c4 : wr.cell? ⟨b0, o0 + 6 + k * 6 + 4, none⟩ = some (.int .i64 x.sz) := (hbw.cell (p := ⟨b0, o0 + 6 + k * 6 + 4, none⟩) hb0).trans (by have h9 := hc 4 _ rfl; rw [show o0 + (k + 1) * 6 + 4 = o0 + 6 + k * 6 + 4 by omega] at h9; exact h9)
        have c5 : wr.cell? ⟨b0, o0 + 6 + k * 6 + 5, none⟩ = some (.int .i64 x.ck) := (hbw.cell (p := ⟨b0, o0 + 6 + k * 6 + 5, none⟩) hb0).trans (by have h9 := hc 5 _ rfl; rw [show o0 + (k + 1) * 6 + 5 = o0 + 6 + k * 6 + 5 by omega] at h9; exact h9)
        have HX2 := Lib.hid (podP_next hx)
        clear hc hx
        go_wp2_with (at_builtin; refine wpList_append_own _ rfl _ _ 62 rfl w.heap.size 61 i0 (.agg #[.int .i64 0, .int .i64 0]) 2 16 Try.underlying62 hi hz0 hz1 hz2 rfl (by decide) _ _ _ rfl ((hown.alloc _).alloc _) ⟨wr.heap.size + 1, 0, none⟩ 1 1 [.int .i64 x.at_, .int .i64 x.ln] rfl rfl (cells_at2 (by simp) _ _) ?c2 ?c3 ?c4 ?c5 ?_; (case c2 => (intro u hu; simp only [List.mem_cons, List.not_mem_nil, or_false] at hu; rcases hu with rfl | rfl <;> rfl)); (case c3 => (unfold maxLen; omega)); (case c4 => omega); (case c5 => (simp only [World.size_alloc]; omega)); intro v1 w1 hown1 hg1 hn1; have hb1 : Below w.heap.size w w1 := below_app (by go_grown) ((hown.alloc _).alloc _) hg1 (by simp only [World.size_alloc]; omega); clear hn1 hg1)
        go_roundw
        case rel => exact ⟨k + 1, v1, by omega, by go_num, rfl, by rw [HX2.out, List.flatMap_append]; exact hown1, hb1⟩
        case measure => simp [intOf]; omega
      · have hkn : k = n - 1 := by omega
        have htk : (podP l).take k = podP l := List.take_of_length_le (by rw [HPL.out]; omega)
        rw [htk] at hown
        clear htk
        subst hkn
        obtain ⟨A9, c9, rfl, r9, hnc9, hcm9⟩ := own_form hown
        have t4 := (hbw.cell (p := ⟨b0, o0 + 4, none⟩) hb0).trans s4
        have t5 := (hbw.cell (p := ⟨b0, o0 + 5, none⟩) hb0).trans s5
        have j0 : (0 : Int) < (n : Int) := by omega
        have j1 : 0 < n := by omega
        go_wp2
        go_quiet (fail)
        go_wp2_with fail
        refine (implDescribePacket_c A9 (n - 1) c9 (podP l) _ HPL.out (by omega) (r9.drewN _) (podP_ok HI3.out) (dHd l).sz (dHd l).ck).mono ?_
        rintro e w2 ⟨A3, c3, rfl, own3, hb⟩
        have hb : Below wr.heap.size wr w2 := ⟨hb.os, hb.tape, hb.output, hb.size, hb.block⟩
        have hown2 := own_ext hown hb
        have k2 := ext_step hbw hsz hb
        have hz2 := hb.size
        clear hb
        obtain ⟨m, hm3⟩ : ∃ m, (dpL (podP l) (dHd l).sz (dHd l).ck).length = m := ⟨_, rfl⟩
        rw [hm3] at own3
        have HM3 := Lib.hid hm3
        rw [hm3]
        by_cases hmn : m = n
        · subst hmn
          have hr3 := Reads.of_own own3
          have q1 : ((m : Int) != (m : Int)) = false := by simp
          have hr2 := hr.below k2
          clear hm3
          go_wp2
          go_loopw [52] (fun i wx => ∃ k : Nat, k ≤ m ∧ i = .int .i64 (k : Int) ∧ Below w2.heap.size w2 wx ∧ Hid ((dpL (podP l) (dHd l).sz (dHd l).ck).take k = l.take k)) (fun i _ => m - (intOf i).toNat)
          case atStart => exact ⟨0, Nat.zero_le _, rfl, Below.refl _ _, rfl⟩
          case round =>
            obtain ⟨k, hk2, rfl, hbx, hall⟩ := hrel
            have hsx := hbx.size
            by_cases hlt2 : k < m
            · obtain ⟨ba, oa, x, rfl, hba, hxx, hcx⟩ := hr3.el (fun _ => rfl) (by decide) HM3.out hlt2
              have c0 := (hbx.cell (p := ⟨ba, oa + k * 6, none⟩) hba).trans (by simpa using hcx 0 _ rfl)
              have c1 := (hbx.cell (p := ⟨ba, oa + k * 6 + 1, none⟩) hba).trans (by simpa using hcx 1 _ rfl)
              have c2 := (hbx.cell (p := ⟨ba, oa + k * 6 + 2, none⟩) hba).trans (by simpa using hcx 2 _ rfl)
              have c3 := (hbx.cell (p := ⟨ba, oa + k * 6 + 3, none⟩) hba).trans (by simpa using hcx 3 _ rfl)
              have c4 := (hbx.cell (p := ⟨ba, oa + k * 6 + 4, none⟩) hba).trans (by simpa using hcx 4 _ rfl)
              have c5 := (hbx.cell (p := ⟨ba, oa + k * 6 + 5, none⟩) hba).trans (by simpa using hcx 5 _ rfl)
              have HXx := Lib.hid hxx
              clear hxx hcx
              obtain ⟨bb, ob, y, hA2, hbb, hxy, hcy⟩ := hr2.el (fun _ => rfl) (by decide) HN.out hlt2
              injection hA2 with hA2
              injection hA2 with hA3 hA4
              subst hA3
              subst hA4
              have d0 := ((hbx.mono (by omega)).cell (p := ⟨b0, o0 + k * 6, none⟩) hbb).trans (by simpa using hcy 0 _ rfl)
              have d1 := ((hbx.mono (by omega)).cell (p := ⟨b0, o0 + k * 6 + 1, none⟩) hbb).trans (by simpa using hcy 1 _ rfl)
              have d2 := ((hbx.mono (by omega)).cell (p := ⟨b0, o0 + k * 6 + 2, none⟩) hbb).trans (by simpa using hcy 2 _ rfl)
              have d3 := ((hbx.mono (by omega)).cell (p := ⟨b0, o0 + k * 6 + 3, none⟩) hbb).trans (by simpa using hcy 3 _ rfl)
              have d4 := ((hbx.mono (by omega)).cell (p := ⟨b0, o0 + k * 6 + 4, none⟩) hbb).trans (by simpa using hcy 4 _ rfl)
              have d5 := ((hbx.mono (by omega)).cell (p := ⟨b0, o0 + k * 6 + 5, none⟩) hbb).trans (by simpa using hcy 5 _ rfl)
              have HXy := Lib.hid hxy
              clear hxy hcy hbb
              have i0' : (0 : Int) ≤ (k : Int) := by omega
              have i1' : (k : Int) < (m : Int) := by omega
              by_cases hxy : x = y
              · subst hxy
                have hcmp := desc_same x
                have HA : Hid ((dpL (podP l) (dHd l).sz (dHd l).ck).take (k + 1) = l.take (k + 1)) := by rw [Hid, take_next HXx.out, take_next HXy.out, hall.out]
                go_wp2
                go_quiet (fail)
                go_wp2
                go_roundw
                case rel => exact ⟨k + 1, by omega, by go_num, below_drewN hbx _, HA⟩
                case measure => simp [intOf]; omega
              · have hcmp := desc_neq hxy
                have hF := same_f (a := dpL (podP l) (dHd l).sz (dHd l).ck) (b := l) fun e => hxy (by have h1 := HXx.out; have h2 := HXy.out; rw [e, h2] at h1; injection h1 with h1; exact h1.symm)
                have hg : podB l = false := by rw [podB, hF, Bool.and_false]
                have HG := Lib.hid hg
                clear hxy hF hg
                go_wp2
                go_quiet (fail)
                go_wp2
                refine bodyPost_ret (v := .tuple #[.slice none 0 0, .int .i64 0, .int .i64 0, .bool false]) (by simp [results, Try.results63, go_sem]) rfl ?_
                rw [HG.out, (pod_no HG.out).1, (pod_no HG.out).2.1, (pod_no HG.out).2.2]
                exact ⟨none, 0, rfl, own_nil _ _ _ _, k2.trans ((below_drewN hbx _).mono k2.size)⟩
            · have hg : podB l = true := by
                have h1 := hall.out
                rw [take_all HM3.out hlt2, take_all HN.out hlt2] at h1
                rw [podB, same_t h1, HN.out, show decide (2 ≤ m) = true by simp; omega]; rfl
              have HG := Lib.hid hg
              have hown3 := own_ext hown2 hbx
              clear hg
              go_wp2
              refine bodyPost_ret (v := .tuple #[.slice A9 (m - 1) c9, .int .i64 (dHd l).sz, .int .i64 (dHd l).ck, .bool true]) (by simp [results, Try.results63, go_sem]) rfl ?_
              rw [HG.out, (pod_yes HG.out).1, (pod_yes HG.out).2.1, (pod_yes HG.out).2.2, HPL.out]
              exact ⟨A9, c9, rfl, hown3, k2.trans (hbx.mono k2.size)⟩
        · have hF := same_f (a := dpL (podP l) (dHd l).sz (dHd l).ck) (b := l) fun e => hmn (by rw [← hm3, e, HN.out])
          have hg : podB l = false := by rw [podB, hF, Bool.and_false]
          have HG := Lib.hid hg
          have q1 : ((m : Int) != (n : Int)) = true := by simp; omega
          have q2 : ((m : Int) == (n : Int)) = false := by simp; omega
          clear hF hg hmn hm3
          go_wp2
          refine bodyPost_ret (v := .tuple #[.slice none 0 0, .int .i64 0, .int .i64 0, .bool false]) (by simp [results, Try.results63, go_sem]) rfl ?_
          rw [HG.out, (pod_no HG.out).1, (pod_no HG.out).2.1, (pod_no HG.out).2.2]
          exact ⟨none, 0, rfl, own_nil _ _ _ _, k2⟩
end Go.Proofs.Ytnnlagmgdfhaiaa
