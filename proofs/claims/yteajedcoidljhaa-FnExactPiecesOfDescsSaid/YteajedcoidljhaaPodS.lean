/- Contract of PiecesOfDescs: spec. -/
import Derived.Test.YteajedcoidljhaaPod
import Derived.Test.YteajedcoidljhaaApp
import Derived.Deep.RegionHeld3
import Derived.Deep.RegionLaw
namespace Go.Proofs.Yteajedcoidljhaa
set_option linter.unusedSimpArgs false
set_option linter.unusedVariables false
open Go.RowKit Go.ChangeShapes Go.WideShapes
theorem info_Piece3 : (Try.prog.info? 60).map (fun i => (i.zero, i.size, i.bytes)) = some (some (.agg #[.int .i64 0, .int .i64 0]), 2, 16) := by kernel_rfl
set_option maxRecDepth 100000 in
set_option maxHeartbeats 4000000 in
theorem specPiecesOfDescs_c (A : Option Addr) (n c : Nat) (l : List Desc) (w : World) (hn : l.length = n) (hm : n ≤ 1048576) (hr : Reads w w.heap.size 6 A n (l.flatMap Desc.cells)) (hi3 : ∀ x ∈ l, x.ok) :
    Calls Try.prog 55 #[.slice A n c] w fun e w' => ∃ A2 c2, e = .returned (.tuple #[.slice A2 (podR l).length c2, .int .i64 (podS l), .int .i64 (podC l), .bool (podB l)]) ∧ w'.ownsRow w.heap.size 60 2 (.slice A2 (podR l).length c2) (podR l).length ((podR l).flatMap Piece.cells) ∧ Below w.heap.size w w' := by
  obtain ⟨i0, hi, hz0, hz1, hz2⟩ := info_parts info_Piece3
  have HN := Lib.hid hn
  have HI3 := Lib.hid hi3
  have hpl := podP_len l
  rw [hn] at hpl
  have HPL := Lib.hid hpl
  clear hpl hn hi3
  go_enter Try.func55, Try.ntmps55
  go_wp2
  go_loopw [6, 7] (fun ov i wr => ∃ (k : Nat) (u : Value), 1 ≤ k ∧ (k ≤ n ∨ k = 1) ∧ i = .int .i64 (k : Int) ∧ ov = u ∧ wr.ownsRow w.heap.size 60 2 u (k - 1) (((podP l).take (k - 1)).flatMap Piece.cells) ∧ Below w.heap.size w wr) (fun _ i _ => n - (intOf i).toNat)
  case atStart => exact ⟨1, _, Nat.le_refl _, .inr rfl, rfl, rfl, own_empty (Blk.new w 60 []) (Nat.le_refl _), by go_grown⟩
  case round =>
    obtain ⟨k, u, hk1, hk, rfl, hu, hown, hbw⟩ := hrel
    have hu := hu.symm
    subst hu
    have hsz := hbw.size
    by_cases hlt : k < n
    · obtain ⟨b3, o3, x, rfl, hb3, hxx, hcx⟩ := hr.el (fun _ => rfl) (by decide) HN.out hlt
      have c0 := ((Below.refl w.heap.size w).cell (p := ⟨b3, o3 + k * 6, none⟩) hb3).trans (by simpa using hcx 0 _ rfl)
      have c1 := ((Below.refl w.heap.size w).cell (p := ⟨b3, o3 + k * 6 + 1, none⟩) hb3).trans (by simpa using hcx 1 _ rfl)
      have c2 := ((Below.refl w.heap.size w).cell (p := ⟨b3, o3 + k * 6 + 2, none⟩) hb3).trans (by simpa using hcx 2 _ rfl)
      have c3 := ((Below.refl w.heap.size w).cell (p := ⟨b3, o3 + k * 6 + 3, none⟩) hb3).trans (by simpa using hcx 3 _ rfl)
      have c4 := ((Below.refl w.heap.size w).cell (p := ⟨b3, o3 + k * 6 + 4, none⟩) hb3).trans (by simpa using hcx 4 _ rfl)
      have c5 := ((Below.refl w.heap.size w).cell (p := ⟨b3, o3 + k * 6 + 5, none⟩) hb3).trans (by simpa using hcx 5 _ rfl)
      have HXx := Lib.hid hxx
      clear hxx hcx
      have e3 := (hbw.cell (p := ⟨b3, o3 + k * 6 + 3, none⟩) hb3).trans c3
      have e2 := (hbw.cell (p := ⟨b3, o3 + k * 6 + 2, none⟩) hb3).trans c2
      have hba : Below w.heap.size w (wr.drew.alloc (.cells #[.int .i64 x.at_, .int .i64 x.ln] 60)) := hbw.drew.alloc hsz _
      have f3 := (hba.cell (p := ⟨b3, o3 + k * 6 + 3, none⟩) hb3).trans c3
      have f2 := (hba.cell (p := ⟨b3, o3 + k * 6 + 2, none⟩) hb3).trans c2
      have HX2 := Lib.hid (podP_next (l := l) (k := k - 1) (x := x) (by rw [show k - 1 + 1 = k by omega]; exact HXx.out))
      have i0' : (0 : Int) ≤ (k : Int) := by omega
      have i1' : (k : Int) < (n : Int) := by omega
      go_wp2_with fail
      go_region_held3 (fun w' => w'.cell? ⟨b3, o3 + k * 6 + 3, none⟩ = some (.int .i64 x.at_) ∧ w'.cell? ⟨b3, o3 + k * 6 + 2, none⟩ = some (.int .i64 x.ln)) (first | exact ⟨e3, e2⟩ | exact ⟨f3, f2⟩ | (refine ⟨?_, ?_⟩ <;> simp [go_sem, *]; done))
        ((refine step_append_any _ (by rfl) _ _ 48 (by rfl) w.heap.size 60 i0 (.agg #[.int .i64 0, .int .i64 0]) 2 16 Try.underlying48 hi hz0 hz1 hz2 rfl (by decide) _ _ _ (by rfl) ((own_ext hown ((Below.refl _ _).drew)).alloc _) _ (some ⟨wr.heap.size, 0, none⟩) 1 1 [.int .i64 x.at_, .int .i64 x.ln] (by rfl) ((Blk.new wr.drew 60 [.int .i64 x.at_, .int .i64 x.ln]).reads (n := 1) (size := 2) rfl) (by intro u hu; simp only [List.mem_cons, List.not_mem_nil, or_false] at hu; rcases hu with rfl | rfl <;> rfl) (by unfold maxLen; omega) (by omega) (by go_size) ?_; intro v1 w1 hown1 hg1 hat1; have hb1 : Below w.heap.size w w1 := below_app (hbw.drew.alloc hsz _) ((own_ext hown ((Below.refl _ _).drew)).alloc _) hg1 (by go_size); have e3 := (hb1.cell (p := ⟨b3, o3 + k * 6 + 3, none⟩) hb3).trans c3; have e2 := (hb1.cell (p := ⟨b3, o3 + k * 6 + 2, none⟩) hb3).trans c2; clear hg1 hat1))
      go_wp2
      go_roundw
      case rel => exact ⟨k + 1, v1, by omega, by omega, by go_num, rfl, by rw [show k + 1 - 1 = k - 1 + 1 by omega, HX2.out, List.flatMap_append]; exact hown1, hb1⟩
      case measure => simp [intOf]; omega
    · by_cases h2 : n < 2
      · have hk2 : k = 1 := by omega
        subst hk2
        obtain ⟨A9, c9, rfl, r9, hnc9, hcm9⟩ := own_form hown
        have hg : podB l = false := by rw [podB, HN.out, show decide (2 ≤ n) = false by simp; omega]; rfl
        have HG := Lib.hid hg
        clear hg
        go_wp2
        go_region
        all_goals
          go_wp2
          refine bodyPost_ret (v := .tuple #[.slice (some ⟨wr.heap.size, 0, none⟩) 0 0, .int .i64 0, .int .i64 0, .bool false]) (by simp [results, Try.results55, go_sem]) rfl ?_
          exact ⟨some ⟨wr.heap.size, 0, none⟩, 0, by rw [HG.out, (pod_no HG.out).1, (pod_no HG.out).2.1, (pod_no HG.out).2.2]; rfl, by rw [(pod_no HG.out).1]; exact own_empty (Blk.new _ _ []) (by have := (hbw).size; omega), by first | exact (hbw).alloc (hbw).size _ | go_grown⟩
      · have hkn : k = n := by omega
        subst hkn
        have htk : (podP l).take (k - 1) = podP l := List.take_of_length_le (by rw [HPL.out]; omega)
        rw [htk] at hown
        clear htk
        obtain ⟨A9, c9, rfl, r9, hnc9, hcm9⟩ := own_form hown
        have e1 : l[0]? = some (dHd l) := by
          have h9 := HN.out
          cases l with
          | nil => simp at h9; omega
          | cons a ax => rfl
        obtain ⟨b0, o0, x0, rfl, hb0, hx0, hc0⟩ := hr.el (fun _ => rfl) (by decide) HN.out (k := 0) (by omega)
        obtain rfl : x0 = dHd l := by rw [e1] at hx0; injection hx0 with hx0; exact hx0.symm
        have s4 : wr.cell? ⟨b0, o0 + 4, none⟩ = some (.int .i64 (dHd l).sz) := (hbw.cell (p := ⟨b0, o0 + 4, none⟩) hb0).trans (by simpa using hc0 4 _ rfl)
        have s5 : wr.cell? ⟨b0, o0 + 5, none⟩ = some (.int .i64 (dHd l).ck) := (hbw.cell (p := ⟨b0, o0 + 5, none⟩) hb0).trans (by simpa using hc0 5 _ rfl)
        clear hc0 hx0 e1
        have j0 : (0 : Int) < (k : Int) := by omega
        have j1 : 0 < k := by omega
        have j2 : ((k - 1 : Nat) : Int) = (k : Int) - 1 := by omega
        have j3 : (((k - 1 : Nat) : Int) == 0) = false := by simp; omega
        clear j2
        obtain ⟨m, hm3⟩ : ∃ m, (dpL (podP l) (dHd l).sz (dHd l).ck).length = m := ⟨_, rfl⟩
        have HM3 := Lib.hid hm3
        have hml : m ≤ 2097152 := by
          rw [← hm3]; unfold dpL; split
          · rw [dList_len (Nat.le_refl _), HPL.out]; omega
          · simp
        have DP := fun (w0 : World) (hb : Below wr.heap.size wr w0) => specDescribePacket_c A9 (k - 1) c9 (podP l) w0 HPL.out (by omega) ((r9.below hb).more hb.size) (podP_ok HI3.out) (dHd l).sz (dHd l).ck
        rw [hm3] at DP
        clear hm3
        have hdr : Below wr.heap.size wr wr.drew := (Below.refl _ _).drew
        cases hs : same (dpL (podP l) (dHd l).sz (dHd l).ck) l
        · have hg : podB l = false := by rw [podB, hs, Bool.and_false]
          have HG := Lib.hid hg
          have HSM := Lib.hid hs
          clear hg hs
          go_wp2_with fail
          go_region_held3 (fun w' => w'.cell? ⟨b0, o0 + 4, none⟩ = some (.int .i64 (dHd l).sz) ∧ w'.cell? ⟨b0, o0 + 5, none⟩ = some (.int .i64 (dHd l).ck)) (first | exact ⟨s4, s5⟩ | (refine ⟨?_, ?_⟩ <;> simp [go_sem, *]; done))
            (first
              | (go_at_call 49; refine (DP _ hdr).mono ?_; rintro e w2 ⟨A3, c3, rfl, own3, hb⟩; have hb : Below wr.heap.size wr w2 := below_undrew hb; have s4 := ccell hb _ _ _ s4; have s5 := ccell hb _ _ _ s5; have hown := own_ext hown hb; have k2 := ext_step hbw hsz hb; have rw3 := hr.below k2; have z2 := k2.size; clear hb)
              | (go_at_call 82; refine (l19Same_c _ _ _ _ _ _ _ l _ HM3.out HN.out hml (by omega) (Reads.of_own own3) (rw3.more z2)).mono ?_; rintro e w3 ⟨rfl, hb⟩; rw [HSM.out]; have s4 := ccell hb _ _ _ s4; have s5 := ccell hb _ _ _ s5; have hown := own_ext hown hb; have k3 := ext_step k2 k2.size hb; clear hb))
          go_wp2
          refine bodyPost_ret (v := .tuple #[.slice (some ⟨w3.heap.size, 0, none⟩) 0 0, .int .i64 0, .int .i64 0, .bool false]) (by simp [results, Try.results55, go_sem]) rfl ?_
          exact ⟨some ⟨w3.heap.size, 0, none⟩, 0, by rw [HG.out, (pod_no HG.out).1, (pod_no HG.out).2.1, (pod_no HG.out).2.2]; rfl, by rw [(pod_no HG.out).1]; exact own_empty (Blk.new _ _ []) (by have := (k3).size; omega), by first | exact (k3).alloc (k3).size _ | go_grown⟩
        · have hg : podB l = true := by rw [podB, hs, HN.out, show decide (2 ≤ k) = true by simp; omega]; rfl
          have HG := Lib.hid hg
          have HSM := Lib.hid hs
          clear hg hs
          go_wp2_with fail
          go_region_held3 (fun w' => w'.cell? ⟨b0, o0 + 4, none⟩ = some (.int .i64 (dHd l).sz) ∧ w'.cell? ⟨b0, o0 + 5, none⟩ = some (.int .i64 (dHd l).ck)) (first | exact ⟨s4, s5⟩ | (refine ⟨?_, ?_⟩ <;> simp [go_sem, *]; done))
            (first
              | (go_at_call 49; refine (DP _ hdr).mono ?_; rintro e w2 ⟨A3, c3, rfl, own3, hb⟩; have hb : Below wr.heap.size wr w2 := below_undrew hb; have s4 := ccell hb _ _ _ s4; have s5 := ccell hb _ _ _ s5; have hown := own_ext hown hb; have k2 := ext_step hbw hsz hb; have rw3 := hr.below k2; have z2 := k2.size; clear hb)
              | (go_at_call 82; refine (l19Same_c _ _ _ _ _ _ _ l _ HM3.out HN.out hml (by omega) (Reads.of_own own3) (rw3.more z2)).mono ?_; rintro e w3 ⟨rfl, hb⟩; rw [HSM.out]; have s4 := ccell hb _ _ _ s4; have s5 := ccell hb _ _ _ s5; have hown := own_ext hown hb; have k3 := ext_step k2 k2.size hb; clear hb))
          go_wp2
          go_quiet (fail)
          go_wp2
          refine bodyPost_ret (v := .tuple #[.slice A9 (k - 1) c9, .int .i64 (dHd l).sz, .int .i64 (dHd l).ck, .bool true]) (by simp [results, Try.results55, go_sem]) rfl ?_
          rw [HG.out, (pod_yes HG.out).1, (pod_yes HG.out).2.1, (pod_yes HG.out).2.2, HPL.out]
          exact ⟨A9, c9, rfl, hown, below_drewN k3 _⟩
end Go.Proofs.Yteajedcoidljhaa
