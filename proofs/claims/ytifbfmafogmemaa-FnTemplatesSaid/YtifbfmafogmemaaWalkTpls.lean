/- The walk of laws.FnTemplates. -/
import Derived.Test.YtifbfmafogmemaaDrawSup
import Derived.Test.YtifbfmafogmemaaPktV
import Derived.Test.YtifbfmafogmemaaLawAt
import Derived.Deep.DeepCutAuto
import Derived.Test.YtifbfmafogmemaaRetB
namespace Go.Proofs.Ytifbfmafogmemaa
set_option linter.unusedSimpArgs false
set_option linter.unusedVariables false
open Go.RowKit Go.ChangeShapes Go.WideShapes
set_option maxRecDepth 100000 in
set_option maxHeartbeats 4000000 in
theorem fnTemplates_walk (A : Option Addr) (n c : Nat) (l : List Int) (w : World) (hs : SlBytes w A n c l) :
    Calls Try.prog 5 #[.slice A n c] w fun e w' => e = .returned (.bool true) ∧ Below w.heap.size w w' := by
  obtain ⟨⟨hn, hnc, hc, hr⟩, hok⟩ := hs
  have hm : n ≤ 9223372036854775807 := by omega
  by_cases hbig : (1048576 : Int) < n
  · go_enter Try.func5, Try.ntmps5
    go_wp2_with fail
    refine (big_c _ _ _ _).mono ?_
    rintro e wq ⟨rfl, rfl⟩
    go_wp2
    go_ret
    exact ⟨rfl, Below.refl _ _⟩
  · have hm2 : n ≤ 1048576 := by omega
    go_enter Try.func5, Try.ntmps5
    go_wp2_with fail
    refine (big_c _ _ _ _).mono ?_
    rintro e wq ⟨rfl, rfl⟩
    have k0 : Below w.heap.size w w := Below.refl _ _
    have p0 : w.heap.size ≤ w.heap.size := Nat.le_refl _
    have r_u := hr
    have hn_u := hn
    go_wp2_with fail
    refine (drawSuper_c A n c l _ hn_u hm2 (r_u.more (by omega)) hok).mono ?_
    rintro e w1 ⟨p, ⟨hp, hz⟩, rfl, hb⟩
    have k1 : Below w.heap.size w w1 := ext_step k0 (by omega) hb
    have p1 := hb.size
    replace r_u := r_u.below (hb.mono (by omega))
    clear hb
    obtain ⟨hgd, hou⟩ := good_tmpl hp
    obtain ⟨hrc, hrp⟩ := read_img hp
    have hrq : rdQ (imgS p) = p := by rw [rdQ, hrc, if_pos rfl, hrp]
    have hts := tmpl_size p
    obtain ⟨_, his⟩ := img_size hp
    have hT := fun u => implTemplate_c p u (by omega)
    have hF := fun u => implFillSums_c (tmplS p) u (by omega)
    have hB := fun u => implBuildImage_c p u (by omega)
    have hR := fun u => implReadImage_c (imgS p) u (by omega)
    simp only [hp, if_true] at hT hB
    simp only [hgd, hou] at hF
    simp only [hrc, hrq] at hR
    obtain ⟨t, e_t⟩ : ∃ x, tmplS p = x := ⟨_, rfl⟩
    obtain ⟨i, e_i⟩ : ∃ x, imgS p = x := ⟨_, rfl⟩
    simp only [e_t, e_i] at hT hF hB hR hts
    clear hgd hou hrc hrp hrq e_t e_i hp hz his
    go_upto_region 4 with fail
    obtain ⟨w2, hW0⟩ : ∃ W, W = (w1.alloc (.cells #[.int .i64 p.dmac, .int .i64 p.smac, .int .i64 p.vlan, .int .i64 p.tos, .int .i64 p.id, .int .i64 p.ttl, .int .i64 p.sip, .int .i64 p.dip, .int .i64 p.seg_kind, .int .i64 p.seg_sport, .int .i64 p.seg_dport, .int .i64 p.seg_seq, .int .i64 p.seg_ack, .int .i64 p.seg_flags, .int .i64 p.seg_win, .string p.seg_body] 31)) := ⟨_, rfl⟩
    have hb : Below w1.heap.size w1 w2 := by rw [hW0]; go_grown
    have hkz : Blk w2 w1.heap.size 31 [.int .i64 p.dmac, .int .i64 p.smac, .int .i64 p.vlan, .int .i64 p.tos, .int .i64 p.id, .int .i64 p.ttl, .int .i64 p.sip, .int .i64 p.dip, .int .i64 p.seg_kind, .int .i64 p.seg_sport, .int .i64 p.seg_dport, .int .i64 p.seg_seq, .int .i64 p.seg_ack, .int .i64 p.seg_flags, .int .i64 p.seg_win, .string p.seg_body] := by rw [hW0]; exact Blk.new _ _ _
    rw [← hW0]
    clear hW0
    have bl0 := hkz.lt
    have k2 : Below w.heap.size w w2 := ext_step k1 (by omega) hb
    have p2 := hb.size
    replace r_u := r_u.below (hb.mono (by omega))
    have bx0_0 := hkz.at_ 0 _ rfl
    have bx0_1 := hkz.at_ 1 _ rfl
    have bx0_2 := hkz.at_ 2 _ rfl
    have bx0_3 := hkz.at_ 3 _ rfl
    have bx0_4 := hkz.at_ 4 _ rfl
    have bx0_5 := hkz.at_ 5 _ rfl
    have bx0_6 := hkz.at_ 6 _ rfl
    have bx0_7 := hkz.at_ 7 _ rfl
    have bx0_8 := hkz.at_ 8 _ rfl
    have bx0_9 := hkz.at_ 9 _ rfl
    have bx0_10 := hkz.at_ 10 _ rfl
    have bx0_11 := hkz.at_ 11 _ rfl
    have bx0_12 := hkz.at_ 12 _ rfl
    have bx0_13 := hkz.at_ 13 _ rfl
    have bx0_14 := hkz.at_ 14 _ rfl
    have bx0_15 := hkz.at_ 15 _ rfl
    clear hb hkz
    go_wp2_with fail
    refine (hT _).mono ?_
    rintro e w3 ⟨rfl, hb⟩
    have k3 : Below w.heap.size w w3 := ext_step k2 (by omega) hb
    have p3 := hb.size
    replace bx0_0 := ccell hb _ _ _ bx0_0
    replace bx0_1 := ccell hb _ _ _ bx0_1
    replace bx0_2 := ccell hb _ _ _ bx0_2
    replace bx0_3 := ccell hb _ _ _ bx0_3
    replace bx0_4 := ccell hb _ _ _ bx0_4
    replace bx0_5 := ccell hb _ _ _ bx0_5
    replace bx0_6 := ccell hb _ _ _ bx0_6
    replace bx0_7 := ccell hb _ _ _ bx0_7
    replace bx0_8 := ccell hb _ _ _ bx0_8
    replace bx0_9 := ccell hb _ _ _ bx0_9
    replace bx0_10 := ccell hb _ _ _ bx0_10
    replace bx0_11 := ccell hb _ _ _ bx0_11
    replace bx0_12 := ccell hb _ _ _ bx0_12
    replace bx0_13 := ccell hb _ _ _ bx0_13
    replace bx0_14 := ccell hb _ _ _ bx0_14
    replace bx0_15 := ccell hb _ _ _ bx0_15
    have bl0 := Nat.lt_of_lt_of_le bl0 hb.size
    replace r_u := r_u.below (hb.mono (by omega))
    clear hb
    go_wp2_with fail
    refine (hF _).mono ?_
    rintro e w4 ⟨rfl, hb⟩
    have k4 : Below w.heap.size w w4 := ext_step k3 (by omega) hb
    have p4 := hb.size
    replace bx0_0 := ccell hb _ _ _ bx0_0
    replace bx0_1 := ccell hb _ _ _ bx0_1
    replace bx0_2 := ccell hb _ _ _ bx0_2
    replace bx0_3 := ccell hb _ _ _ bx0_3
    replace bx0_4 := ccell hb _ _ _ bx0_4
    replace bx0_5 := ccell hb _ _ _ bx0_5
    replace bx0_6 := ccell hb _ _ _ bx0_6
    replace bx0_7 := ccell hb _ _ _ bx0_7
    replace bx0_8 := ccell hb _ _ _ bx0_8
    replace bx0_9 := ccell hb _ _ _ bx0_9
    replace bx0_10 := ccell hb _ _ _ bx0_10
    replace bx0_11 := ccell hb _ _ _ bx0_11
    replace bx0_12 := ccell hb _ _ _ bx0_12
    replace bx0_13 := ccell hb _ _ _ bx0_13
    replace bx0_14 := ccell hb _ _ _ bx0_14
    replace bx0_15 := ccell hb _ _ _ bx0_15
    have bl0 := Nat.lt_of_lt_of_le bl0 hb.size
    replace r_u := r_u.below (hb.mono (by omega))
    clear hb
    as_aux_lemma =>
      go_wp2_with fail
      refine (hB _).mono ?_
      rintro e w5 ⟨rfl, hb⟩
      have k5 : Below w.heap.size w w5 := ext_step k4 (by omega) hb
      have p5 := hb.size
      replace bx0_0 := ccell hb _ _ _ bx0_0
      replace bx0_1 := ccell hb _ _ _ bx0_1
      replace bx0_2 := ccell hb _ _ _ bx0_2
      replace bx0_3 := ccell hb _ _ _ bx0_3
      replace bx0_4 := ccell hb _ _ _ bx0_4
      replace bx0_5 := ccell hb _ _ _ bx0_5
      replace bx0_6 := ccell hb _ _ _ bx0_6
      replace bx0_7 := ccell hb _ _ _ bx0_7
      replace bx0_8 := ccell hb _ _ _ bx0_8
      replace bx0_9 := ccell hb _ _ _ bx0_9
      replace bx0_10 := ccell hb _ _ _ bx0_10
      replace bx0_11 := ccell hb _ _ _ bx0_11
      replace bx0_12 := ccell hb _ _ _ bx0_12
      replace bx0_13 := ccell hb _ _ _ bx0_13
      replace bx0_14 := ccell hb _ _ _ bx0_14
      replace bx0_15 := ccell hb _ _ _ bx0_15
      have bl0 := Nat.lt_of_lt_of_le bl0 hb.size
      replace r_u := r_u.below (hb.mono (by omega))
      clear hb
      go_wp2_with fail
      refine (hR _).mono ?_
      rintro e w6 ⟨rfl, hb⟩
      have k6 : Below w.heap.size w w6 := ext_step k5 (by omega) hb
      have p6 := hb.size
      replace bx0_0 := ccell hb _ _ _ bx0_0
      replace bx0_1 := ccell hb _ _ _ bx0_1
      replace bx0_2 := ccell hb _ _ _ bx0_2
      replace bx0_3 := ccell hb _ _ _ bx0_3
      replace bx0_4 := ccell hb _ _ _ bx0_4
      replace bx0_5 := ccell hb _ _ _ bx0_5
      replace bx0_6 := ccell hb _ _ _ bx0_6
      replace bx0_7 := ccell hb _ _ _ bx0_7
      replace bx0_8 := ccell hb _ _ _ bx0_8
      replace bx0_9 := ccell hb _ _ _ bx0_9
      replace bx0_10 := ccell hb _ _ _ bx0_10
      replace bx0_11 := ccell hb _ _ _ bx0_11
      replace bx0_12 := ccell hb _ _ _ bx0_12
      replace bx0_13 := ccell hb _ _ _ bx0_13
      replace bx0_14 := ccell hb _ _ _ bx0_14
      replace bx0_15 := ccell hb _ _ _ bx0_15
      have bl0 := Nat.lt_of_lt_of_le bl0 hb.size
      replace r_u := r_u.below (hb.mono (by omega))
      clear hb
      go_upto_region 8 with fail
      obtain ⟨w7, hW0⟩ : ∃ W, W = (w6.alloc (.cells #[.int .i64 p.dmac, .int .i64 p.smac, .int .i64 p.vlan, .int .i64 p.tos, .int .i64 p.id, .int .i64 p.ttl, .int .i64 p.sip, .int .i64 p.dip, .int .i64 p.seg_kind, .int .i64 p.seg_sport, .int .i64 p.seg_dport, .int .i64 p.seg_seq, .int .i64 p.seg_ack, .int .i64 p.seg_flags, .int .i64 p.seg_win, .string p.seg_body] 31)) := ⟨_, rfl⟩
      have hb : Below w6.heap.size w6 w7 := by rw [hW0]; go_grown
      have hkz : Blk w7 w6.heap.size 31 [.int .i64 p.dmac, .int .i64 p.smac, .int .i64 p.vlan, .int .i64 p.tos, .int .i64 p.id, .int .i64 p.ttl, .int .i64 p.sip, .int .i64 p.dip, .int .i64 p.seg_kind, .int .i64 p.seg_sport, .int .i64 p.seg_dport, .int .i64 p.seg_seq, .int .i64 p.seg_ack, .int .i64 p.seg_flags, .int .i64 p.seg_win, .string p.seg_body] := by rw [hW0]; exact Blk.new _ _ _
      rw [← hW0]
      clear hW0
      have bl1 := hkz.lt
      have k7 : Below w.heap.size w w7 := ext_step k6 (by omega) hb
      have p7 := hb.size
      replace bx0_0 := ccell hb _ _ _ bx0_0
      replace bx0_1 := ccell hb _ _ _ bx0_1
      replace bx0_2 := ccell hb _ _ _ bx0_2
      replace bx0_3 := ccell hb _ _ _ bx0_3
      replace bx0_4 := ccell hb _ _ _ bx0_4
      replace bx0_5 := ccell hb _ _ _ bx0_5
      replace bx0_6 := ccell hb _ _ _ bx0_6
      replace bx0_7 := ccell hb _ _ _ bx0_7
      replace bx0_8 := ccell hb _ _ _ bx0_8
      replace bx0_9 := ccell hb _ _ _ bx0_9
      replace bx0_10 := ccell hb _ _ _ bx0_10
      replace bx0_11 := ccell hb _ _ _ bx0_11
      replace bx0_12 := ccell hb _ _ _ bx0_12
      replace bx0_13 := ccell hb _ _ _ bx0_13
      replace bx0_14 := ccell hb _ _ _ bx0_14
      replace bx0_15 := ccell hb _ _ _ bx0_15
      have bl0 := Nat.lt_of_lt_of_le bl0 hb.size
      replace r_u := r_u.below (hb.mono (by omega))
      have bx1_0 := hkz.at_ 0 _ rfl
      have bx1_1 := hkz.at_ 1 _ rfl
      have bx1_2 := hkz.at_ 2 _ rfl
      have bx1_3 := hkz.at_ 3 _ rfl
      have bx1_4 := hkz.at_ 4 _ rfl
      have bx1_5 := hkz.at_ 5 _ rfl
      have bx1_6 := hkz.at_ 6 _ rfl
      have bx1_7 := hkz.at_ 7 _ rfl
      have bx1_8 := hkz.at_ 8 _ rfl
      have bx1_9 := hkz.at_ 9 _ rfl
      have bx1_10 := hkz.at_ 10 _ rfl
      have bx1_11 := hkz.at_ 11 _ rfl
      have bx1_12 := hkz.at_ 12 _ rfl
      have bx1_13 := hkz.at_ 13 _ rfl
      have bx1_14 := hkz.at_ 14 _ rfl
      have bx1_15 := hkz.at_ 15 _ rfl
      clear hb hkz
      as_aux_lemma =>
        go_wp2
        go_ret
        exact ⟨by simp [hts], by first | exact k7 | exact k7.alloc k7.size _⟩
end Go.Proofs.Ytifbfmafogmemaa
