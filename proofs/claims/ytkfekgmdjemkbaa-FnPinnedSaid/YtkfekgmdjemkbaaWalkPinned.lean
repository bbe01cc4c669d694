/- The walk of laws.FnPinned. -/
import Derived.Test.YtkfekgmdjemkbaaDrawSt4
import Derived.Test.YtkfekgmdjemkbaaStPin
import Derived.Test.YtkfekgmdjemkbaaStJ
import Derived.Test.YtkfekgmdjemkbaaStK
import Derived.Test.YtkfekgmdjemkbaaOpenA
namespace Go.Proofs.Ytkfekgmdjemkbaa
set_option linter.unusedSimpArgs false
set_option linter.unusedVariables false
open Go.RowKit Go.ChangeShapes Go.WideShapes
theorem SteO.chg {base B : Nat} {rs : List Rule} {l : List Slot} {key : ByteArray} {tb : List Int} {w w' : World} {v : Value} (h : SteO base rs l key tb w v) (hc : Chg B 32 w w') : SteO base rs l key tb w' v := by
  obtain ⟨A1, c1, A2, c2, A3, c3, h0, h1, h2, h3⟩ := h
  exact ⟨A1, c1, A2, c2, A3, c3, h0, own_chg h1 hc (by decide), own_chg h2 hc (by decide), own_chg h3 hc (by decide)⟩
/-- A steering of the call's own and a number. -/
def PinP (base : Nat) (rs : List Rule) (l : List Slot) (key : ByteArray) (tb : List Int) (N : Int) (w : World) (v : Value) : Prop := ∃ A1 c1 A2 c2 A3 c3, v = .tuple #[.agg #[.slice A1 rs.length c1, .slice A2 l.length c2, .string key, .slice A3 tb.length c3], .int .i64 N] ∧ w.ownsRow base 58 9 (.slice A1 rs.length c1) rs.length (rs.flatMap Rule.cells) ∧ w.ownsRow base 61 7 (.slice A2 l.length c2) l.length (l.flatMap Slot.cells) ∧ w.ownsRow base 3 1 (.slice A3 tb.length c3) tb.length (tb.flatMap fun x : Int => [Value.int .i64 x])
theorem PinP.keep {base : Nat} {rs : List Rule} {l : List Slot} {key : ByteArray} {tb : List Int} {N : Int} {w w' : World} {v : Value} (h : PinP base rs l key tb N w v) (hb : Below w.heap.size w w') : PinP base rs l key tb N w' v := by
  obtain ⟨A1, c1, A2, c2, A3, c3, h0, h1, h2, h3⟩ := h
  exact ⟨A1, c1, A2, c2, A3, c3, h0, own_ext h1 hb, own_ext h2 hb, own_ext h3 hb⟩
theorem PinP.chg {base B : Nat} {rs : List Rule} {l : List Slot} {key : ByteArray} {tb : List Int} {N : Int} {w w' : World} {v : Value} (h : PinP base rs l key tb N w v) (hc : Chg B 32 w w') : PinP base rs l key tb N w' v := by
  obtain ⟨A1, c1, A2, c2, A3, c3, h0, h1, h2, h3⟩ := h
  exact ⟨A1, c1, A2, c2, A3, c3, h0, own_chg h1 hc (by decide), own_chg h2 hc (by decide), own_chg h3 hc (by decide)⟩
/-- A pointer to a box that holds a steering of the call's own. -/
def StoS (base : Nat) (rs : List Rule) (l : List Slot) (key : ByteArray) (tb : List Int) (w : World) (v : Value) : Prop := ∃ b A1 c1 A2 c2 A3 c3, v = .pointer (some ⟨b, 0, none⟩) ∧ base ≤ b ∧ Blk w b 32 [.slice A1 rs.length c1, .slice A2 l.length c2, .string key, .slice A3 tb.length c3] ∧ w.ownsRow base 58 9 (.slice A1 rs.length c1) rs.length (rs.flatMap Rule.cells) ∧ w.ownsRow base 61 7 (.slice A2 l.length c2) l.length (l.flatMap Slot.cells) ∧ w.ownsRow base 3 1 (.slice A3 tb.length c3) tb.length (tb.flatMap fun x : Int => [Value.int .i64 x])
theorem StoS.keep {base : Nat} {rs : List Rule} {l : List Slot} {key : ByteArray} {tb : List Int} {w w' : World} {v : Value} (h : StoS base rs l key tb w v) (hb : Below w.heap.size w w') : StoS base rs l key tb w' v := by
  obtain ⟨b, A1, c1, A2, c2, A3, c3, h0, h4, h5, h1, h2, h3⟩ := h
  exact ⟨b, A1, c1, A2, c2, A3, c3, h0, h4, h5.ext hb, own_ext h1 hb, own_ext h2 hb, own_ext h3 hb⟩
theorem onePp (p : Packet) : ∀ v ∈ ([.int .i64 p.dmac, .int .i64 p.smac, .int .i64 p.vlan, .int .i64 p.tos, .int .i64 p.id, .int .i64 p.ttl, .int .i64 p.sip, .int .i64 p.dip, .int .i64 p.seg_kind, .int .i64 p.seg_sport, .int .i64 p.seg_dport, .int .i64 p.seg_seq, .int .i64 p.seg_ack, .int .i64 p.seg_flags, .int .i64 p.seg_win, .string p.seg_body] : List Value), v.oneCell' = true := by
  intro v hv
  simp only [List.mem_cons, List.not_mem_nil, or_false] at hv
  rcases hv with rfl | rfl | rfl | rfl | rfl | rfl | rfl | rfl | rfl | rfl | rfl | rfl | rfl | rfl | rfl | rfl <;> rfl
theorem sup_size {p : Packet} (h : superB p = true) : p.seg_body.size ≤ 1048576 := by
  have := (segB_t (sup_seg h)).1.2.2
  omega
set_option maxRecDepth 100000 in
set_option maxHeartbeats 4000000 in
theorem fnPinned_walk (A : Option Addr) (n c : Nat) (l : List Int) (w : World) (hs : SlBytes w A n c l) :
    Calls Try.prog 4 #[.slice A n c] w fun e w' => e = .returned (.bool true) ∧ Below w.heap.size w w' := by
  obtain ⟨⟨hn, hnc, hc, hr⟩, hok⟩ := hs
  have hm : n ≤ 9223372036854775807 := by omega
  by_cases hbig : (1048576 : Int) < n
  · go_enter Try.func4, Try.ntmps4
    go_wp2_with fail
    refine (big_c _ _ _ _).mono ?_
    rintro e wq ⟨rfl, rfl⟩
    go_wp2
    go_ret
    exact ⟨rfl, Below.refl _ _⟩
  · have hm2 : n ≤ 1048576 := by omega
    go_enter Try.func4, Try.ntmps4
    go_wp2_with fail
    refine (big_c _ _ _ _).mono ?_
    rintro e wq ⟨rfl, rfl⟩
    have k0 : Below w.heap.size w w := Below.refl _ _
    have p0 : w.heap.size ≤ w.heap.size := Nat.le_refl _
    have r_u := hr
    have hn_u := hn
    go_wp2_with fail
    refine (drawSteering_c A n c l _ hn_u hm2 (r_u.more (by omega)) hok).mono ?_
    rintro e w1 ⟨rs, ls, key, tb, qn, v, lp, A_p, c_p, ⟨hsb, hq1, hq4, hrl, hll, htl, hp1, hp8, hpo⟩, rfl, ⟨A_r, c_r, A_s, c_s, A_t, c_t, rfl, o_r, o_s, o_t⟩, o_p, hb⟩
    have k1 : Below w.heap.size w w1 := ext_step k0 (by omega) hb
    have p1 := hb.size
    replace r_u := r_u.below (hb.mono (by omega))
    have r_r := Reads.of_own o_r
    clear o_r
    have r_s := Reads.of_own o_s
    clear o_s
    have r_t := Reads.of_own o_t
    clear o_t
    have r_p := Reads.of_own o_p
    clear o_p
    clear hb
    have HS := Lib.hid hsb
    have HLL := Lib.hid hll
    have hl9 : ls.length ≤ 8 := by omega
    clear hsb hll
    go_wp2_with fail
    obtain ⟨w2, hW0⟩ : ∃ W, W = (w1.alloc (.cells #[.slice A_r rs.length c_r, .slice A_s ls.length c_s, .string key, .slice A_t tb.length c_t] 32)) := ⟨_, rfl⟩
    have hb : Below w1.heap.size w1 w2 := by rw [hW0]; go_grown
    have hkz : Blk w2 w1.heap.size 32 [.slice A_r rs.length c_r, .slice A_s ls.length c_s, .string key, .slice A_t tb.length c_t] := by rw [hW0]; exact Blk.new _ _ _
    rw [← hW0]
    clear hW0
    have bl0 := hkz.lt
    have k2 : Below w.heap.size w w2 := ext_step k1 (by omega) hb
    have p2 := hb.size
    replace r_u := r_u.below (hb.mono (by omega))
    replace r_r := r_r.below (hb.mono (by omega))
    replace r_s := r_s.below (hb.mono (by omega))
    replace r_t := r_t.below (hb.mono (by omega))
    replace r_p := r_p.below (hb.mono (by omega))
    have bx0_0 := hkz.at_ 0 _ rfl
    have bx0_1 := hkz.at_ 1 _ rfl
    have bx0_2 := hkz.at_ 2 _ rfl
    have bx0_3 := hkz.at_ 3 _ rfl
    clear hb hkz
    refine (at_c A n c l 0 _ (by omega) hn_u hm (r_u.more (by omega)) hok).mono ?_
    rintro e w3 ⟨rfl, hb⟩
    have k3 : Below w.heap.size w w3 := ext_step k2 (by omega) hb
    have p3 := hb.size
    replace bx0_0 := ccell hb _ _ _ bx0_0
    replace bx0_1 := ccell hb _ _ _ bx0_1
    replace bx0_2 := ccell hb _ _ _ bx0_2
    replace bx0_3 := ccell hb _ _ _ bx0_3
    have bl0 := Nat.lt_of_lt_of_le bl0 hb.size
    replace r_u := r_u.below (hb.mono (by omega))
    replace r_r := r_r.below (hb.mono (by omega))
    replace r_s := r_s.below (hb.mono (by omega))
    replace r_t := r_t.below (hb.mono (by omega))
    replace r_p := r_p.below (hb.mono (by omega))
    clear hb
    have hxb := atI_bd hok 0
    generalize atI l 0 = x0 at *
    obtain ⟨kp, hkpe⟩ : ∃ k : Nat, x0 % (lp.length : Int) = k := Int.eq_ofNat_of_zero_le (Int.emod_nonneg _ (by omega))
    have hklt : kp < lp.length := by have := Int.emod_lt_of_pos x0 (show (0 : Int) < lp.length by omega); omega
    have htm0 : x0.tmod (lp.length : Int) = kp := by rw [Int.tmod_eq_emod_of_nonneg hxb.1]; exact hkpe
    have hne0 : ¬ (lp.length : Int) = 0 := by omega
    have hnb0 : ((lp.length : Int) == 0) = false := beq_eq_false_iff_ne.2 hne0
    obtain ⟨b, o, p, hAe, hbl, hx, hc⟩ := (r_p.more (by omega) : Reads w3 w3.heap.size 16 A_p lp.length (lp.flatMap Packet.cells)).el (cells := Packet.cells) (fun _ => rfl) (by decide) rfl hklt
    subst hAe
    have hR : w3.rangeAt b (o + kp * 16) [.int .i64 p.dmac, .int .i64 p.smac, .int .i64 p.vlan, .int .i64 p.tos, .int .i64 p.id, .int .i64 p.ttl, .int .i64 p.sip, .int .i64 p.dip, .int .i64 p.seg_kind, .int .i64 p.seg_sport, .int .i64 p.seg_dport, .int .i64 p.seg_seq, .int .i64 p.seg_ack, .int .i64 p.seg_flags, .int .i64 p.seg_win, .string p.seg_body] := range_below hc (Below.refl _ _) hbl
    have hsup := hpo p (List.mem_of_getElem? hx)
    have hkl2 : (kp : Int) < (lp.length : Int) := by omega
    clear hx hc hkpe
    go_wp2_with (first | (with_reducible_and_instances show wpList _ _ _ (⟨_, .load 41 (.tmp 25), _, _, _, _⟩ :: _) _ _; refine wpList_load_mid rfl _ _ rfl _ _ (by simp [go_sem]) [.int .i64 p.dmac, .int .i64 p.smac, .int .i64 p.vlan, .int .i64 p.tos, .int .i64 p.id, .int .i64 p.ttl, .int .i64 p.sip, .int .i64 p.dip, .int .i64 p.seg_kind, .int .i64 p.seg_sport, .int .i64 p.seg_dport, .int .i64 p.seg_seq, .int .i64 p.seg_ack, .int .i64 p.seg_flags, .int .i64 p.seg_win, .string p.seg_body] _ hR Try.underlying41 rfl infoZ_ip ?_) | (with_reducible_and_instances show wpList _ _ _ (⟨_, .store 41 (.tmp 6) (.tmp 26), _, _, _, _⟩ :: _) _ _; refine wpList_store_new (w := w3) (t := 41) (zs := [.int .i64 0, .int .i64 0, .int .i64 0, .int .i64 0, .int .i64 0, .int .i64 0, .int .i64 0, .int .i64 0, .int .i64 0, .int .i64 0, .int .i64 0, .int .i64 0, .int .i64 0, .int .i64 0, .int .i64 0, .string ⟨#[]⟩]) rfl _ _ _ rfl [.int .i64 p.dmac, .int .i64 p.smac, .int .i64 p.vlan, .int .i64 p.tos, .int .i64 p.id, .int .i64 p.ttl, .int .i64 p.sip, .int .i64 p.dip, .int .i64 p.seg_kind, .int .i64 p.seg_sport, .int .i64 p.seg_dport, .int .i64 p.seg_seq, .int .i64 p.seg_ack, .int .i64 p.seg_flags, .int .i64 p.seg_win, .string p.seg_body] (by simp [go_sem]) (by simp [go_sem]) rfl infoZ_ip (onePp p) ?_; intro w4 hkp hb hs1; clear hR))
    have k4 := ext_step k3 (by omega) hb
    have p4 := hb.size
    replace bx0_0 := ccell hb _ _ _ bx0_0
    replace bx0_1 := ccell hb _ _ _ bx0_1
    replace bx0_2 := ccell hb _ _ _ bx0_2
    replace bx0_3 := ccell hb _ _ _ bx0_3
    have bl0 := Nat.lt_of_lt_of_le bl0 hb.size
    replace r_u := r_u.below (hb.mono (by omega))
    replace r_r := r_r.below (hb.mono (by omega))
    replace r_s := r_s.below (hb.mono (by omega))
    replace r_t := r_t.below (hb.mono (by omega))
    replace r_p := r_p.below (hb.mono (by omega))
    have blp := hkp.lt
    clear hb
    clear htm0 hne0 hnb0 hkl2 hxb
    refine (at_c A n c l 1 _ (by omega) hn_u hm (r_u.more (by omega)) hok).mono ?_
    rintro e w5 ⟨rfl, hb⟩
    have k5 : Below w.heap.size w w5 := ext_step k4 (by omega) hb
    have p5 := hb.size
    replace hkp := hkp.ext hb
    replace bx0_0 := ccell hb _ _ _ bx0_0
    replace bx0_1 := ccell hb _ _ _ bx0_1
    replace bx0_2 := ccell hb _ _ _ bx0_2
    replace bx0_3 := ccell hb _ _ _ bx0_3
    have bl0 := Nat.lt_of_lt_of_le bl0 hb.size
    replace r_u := r_u.below (hb.mono (by omega))
    replace r_r := r_r.below (hb.mono (by omega))
    replace r_s := r_s.below (hb.mono (by omega))
    replace r_t := r_t.below (hb.mono (by omega))
    replace r_p := r_p.below (hb.mono (by omega))
    clear hb
    have hxb := atI_bd hok 1
    generalize atI l 1 = x1 at *
    obtain ⟨qq, hqe⟩ : ∃ y, x1 % qn = y := ⟨_, rfl⟩
    have hqq0 : 0 ≤ qq := by rw [← hqe]; exact Int.emod_nonneg _ (by omega)
    have hqq1 : qq < qn := by rw [← hqe]; exact Int.emod_lt_of_pos _ (by omega)
    have htm1 : x1.tmod qn = qq := by rw [Int.tmod_eq_emod_of_nonneg hxb.1]; exact hqe
    have hne1 : ¬ qn = 0 := by omega
    have hnb1 : (qn == 0) = false := by simp; omega
    clear hqe
    go_upto_region 6 with fail
    clear htm1 hne1 hnb1
    obtain ⟨e_lz, e_N, hs2⟩ := pin_one HS.out hqq0 hqq1 (flowP p)
    have HS2 := Lib.hid hs2
    clear hs2
    have hpin := fun (A4 : Option Addr) (c4 : Nat) (u : World) h1 h2 h3 h4 => implPinFlows_c A_r c_r rs A_s c_s ls key A_t c_t tb qn A4 1 c4 [flowP p] qq u (by omega) (by omega) (by omega) h1 h2 h3 rfl (by decide) h4
    rw [e_lz, e_N] at hpin
    obtain ⟨lz, hlz⟩ : ∃ x, tpL ls (flowP p) qq = x := ⟨_, rfl⟩
    obtain ⟨N, hN⟩ : ∃ x : Int, (if tpB ls (flowP p) qq = true then 1 else 0) = x := ⟨_, rfl⟩
    have hzl : lz.length ≤ 8 := by rw [← hlz, tpL_len]; exact hl9
    rw [hlz] at HS2
    rw [hlz, hN] at hpin
    have HLZ := Lib.hid hlz
    have HNN := Lib.hid hN
    clear hlz hN e_lz e_N
    have cp0 := hkp.at_ 0 _ rfl
    have cp1 := hkp.at_ 1 _ rfl
    have cp2 := hkp.at_ 2 _ rfl
    have cp3 := hkp.at_ 3 _ rfl
    have cp4 := hkp.at_ 4 _ rfl
    have cp5 := hkp.at_ 5 _ rfl
    have cp6 := hkp.at_ 6 _ rfl
    have cp7 := hkp.at_ 7 _ rfl
    have cp8 := hkp.at_ 8 _ rfl
    have cp9 := hkp.at_ 9 _ rfl
    have cp10 := hkp.at_ 10 _ rfl
    have cp11 := hkp.at_ 11 _ rfl
    have cp12 := hkp.at_ 12 _ rfl
    have cp13 := hkp.at_ 13 _ rfl
    have cp14 := hkp.at_ 14 _ rfl
    have cp15 := hkp.at_ 15 _ rfl
    have hBB : w5.heap.size ≤ w5.heap.size := by omega
    refine wp_region_slotsS (w5.heap.size) [(32, fun _ v => v = .agg #[.slice A_r rs.length c_r, .slice A_s ls.length c_s, .string key, .slice A_t tb.length c_t]), (33, fun _ v => v = .int .i64 qn), (34, fun _ v => v = .agg #[.int .i64 p.dmac, .int .i64 p.smac, .int .i64 p.vlan, .int .i64 p.tos, .int .i64 p.id, .int .i64 p.ttl, .int .i64 p.sip, .int .i64 p.dip, .int .i64 p.seg_kind, .int .i64 p.seg_sport, .int .i64 p.seg_dport, .int .i64 p.seg_seq, .int .i64 p.seg_ack, .int .i64 p.seg_flags, .int .i64 p.seg_win, .string p.seg_body]), (35, fun _ v => v = .agg #[.int .i64 p.seg_kind, .int .i64 p.sip, .int .i64 p.dip, .int .i64 p.seg_sport, .int .i64 p.seg_dport]), (36, RowP w5.heap.size 44 5 1 (Flow.cells (flowP p)) (fun A c => .slice A 1 c)), (37, fun _ v => v = .int .i64 qq), (38, PinP w5.heap.size rs lz key tb N), (31, PinP w5.heap.size rs lz key tb N), (39, SteO w5.heap.size rs lz key tb), (40, fun _ v => v = .int .i64 N), (8, BoxP w5.heap.size 32 4), (9, fun _ v => v = .int .i64 N)] [⟨11, 8, fun _ => True, StoS w5.heap.size rs lz key tb⟩] (fun _ => True) (by kernel_rfl) hBB (by kernel_rfl) (by kernel_rfl) (by kernel_rfl) (by kernel_rfl) ?_ ?_ ?_ ?_ ?_ ?_ ?_
    · intro p hp
      simp only [List.mem_cons, List.not_mem_nil, or_false] at hp
      rcases hp with rfl | rfl | rfl | rfl | rfl | rfl | rfl | rfl | rfl | rfl | rfl | rfl
      all_goals (intro u u' v hb hv; first | exact hv | exact BoxP.keep hv hb | exact RowP.keep hv hb | exact PinP.keep hv hb | exact SteO.keep hv hb)
    · intro s hs u u' hb
      simp only [List.mem_cons, List.not_mem_nil, or_false] at hs
      rcases hs with rfl
      all_goals (refine ⟨fun h => ?_, fun _ h => ?_⟩ <;> first | exact h | exact StoP.keep h hb | exact StoR.keep h hb | exact Blk.ext h hb | exact StaR.keep h hb | trivial | exact own_ext h hb | exact StoS.keep h hb)
    · intro s hs
      simp only [List.mem_cons, List.not_mem_nil, or_false] at hs
      rcases hs with rfl
      all_goals first | trivial
    · exact trivial
    · intro u u' hb hj
      exact trivial
    · intro hGk hSk hJk
      refine allStep_cons (stepS_plain hGk hSk hBB hJk (by kernel_rfl) rfl ?_) ?_
      · intro a u hb hz hj hl hp K Q hK
        have e3 : a.tmps[3]?.getD undef = .pointer (some ⟨w1.heap.size, 0, none⟩) := gd (hl 3 (by kernel_rfl))
        have bx0_0 := ccell hb _ _ _ bx0_0
        have bx0_1 := ccell hb _ _ _ bx0_1
        have bx0_2 := ccell hb _ _ _ bx0_2
        have bx0_3 := ccell hb _ _ _ bx0_3
        go_simp
        exact hK _ _ (Below.refl _ _) (by intro d hd; cases hd; exact rfl)
      refine allStep_cons (stepS_plain hGk hSk hBB hJk (by kernel_rfl) rfl ?_) ?_
      · intro a u hb hz hj hl hp K Q hK
        have e4 : a.tmps[4]?.getD undef = .int .i64 qn := gd (hl 4 (by kernel_rfl))
        go_simp
        exact hK _ _ (Below.refl _ _) (by intro d hd; cases hd; exact rfl)
      refine allStep_cons (stepS_plain hGk hSk hBB hJk (by kernel_rfl) rfl ?_) ?_
      · intro a u hb hz hj hl hp K Q hK
        have e6 : a.tmps[6]?.getD undef = .pointer (some ⟨w3.heap.size, 0, none⟩) := gd (hl 6 (by kernel_rfl))
        have cp0 := ccell hb _ _ _ cp0
        have cp1 := ccell hb _ _ _ cp1
        have cp2 := ccell hb _ _ _ cp2
        have cp3 := ccell hb _ _ _ cp3
        have cp4 := ccell hb _ _ _ cp4
        have cp5 := ccell hb _ _ _ cp5
        have cp6 := ccell hb _ _ _ cp6
        have cp7 := ccell hb _ _ _ cp7
        have cp8 := ccell hb _ _ _ cp8
        have cp9 := ccell hb _ _ _ cp9
        have cp10 := ccell hb _ _ _ cp10
        have cp11 := ccell hb _ _ _ cp11
        have cp12 := ccell hb _ _ _ cp12
        have cp13 := ccell hb _ _ _ cp13
        have cp14 := ccell hb _ _ _ cp14
        have cp15 := ccell hb _ _ _ cp15
        go_simp
        exact hK _ _ (Below.refl _ _) (by intro d hd; cases hd; exact rfl)
      refine allStep_cons (stepS_plain hGk hSk hBB hJk (by kernel_rfl) rfl ?_) ?_
      · intro a u hb hz hj hl hp K Q hK
        have e34 : a.tmps[34]?.getD undef = .agg #[.int .i64 p.dmac, .int .i64 p.smac, .int .i64 p.vlan, .int .i64 p.tos, .int .i64 p.id, .int .i64 p.ttl, .int .i64 p.sip, .int .i64 p.dip, .int .i64 p.seg_kind, .int .i64 p.seg_sport, .int .i64 p.seg_dport, .int .i64 p.seg_seq, .int .i64 p.seg_ack, .int .i64 p.seg_flags, .int .i64 p.seg_win, .string p.seg_body] := gd (hl 34 (by kernel_rfl))
        go_simp
        refine (specFlowOf_c p _).mono ?_
        rintro e u1 ⟨rfl, hb1⟩
        exact hK _ _ hb1 (by intro d hd; cases hd; exact rfl)
      refine allStep_cons (stepS_plain hGk hSk hBB hJk (by kernel_rfl) rfl ?_) ?_
      · intro a u hb hz hj hl hp K Q hK
        have e35 : a.tmps[35]?.getD undef = .agg #[.int .i64 p.seg_kind, .int .i64 p.sip, .int .i64 p.dip, .int .i64 p.seg_sport, .int .i64 p.seg_dport] := gd (hl 35 (by kernel_rfl))
        go_simp
        exact hK _ _ (by go_grown) (by intro d hd; cases hd; exact ⟨_, 1, rfl, (Blk.new u 44 (Flow.cells (flowP p))).own (base := w5.heap.size) (size := 5) (n := 1) (by omega) rfl (by unfold maxLen; omega) rfl⟩)
      refine allStep_cons (stepS_plain hGk hSk hBB hJk (by kernel_rfl) rfl ?_) ?_
      · intro a u hb hz hj hl hp K Q hK
        have e7 : a.tmps[7]?.getD undef = .int .i64 qq := gd (hl 7 (by kernel_rfl))
        go_simp
        exact hK _ _ (Below.refl _ _) (by intro d hd; cases hd; exact rfl)
      refine allStep_cons (stepS_plain hGk hSk hBB hJk (by kernel_rfl) rfl ?_) ?_
      · intro a u hb hz hj hl hp K Q hK
        have e32 : a.tmps[32]?.getD undef = .agg #[.slice A_r rs.length c_r, .slice A_s ls.length c_s, .string key, .slice A_t tb.length c_t] := gd (hl 32 (by kernel_rfl))
        have e33 : a.tmps[33]?.getD undef = .int .i64 qn := gd (hl 33 (by kernel_rfl))
        obtain ⟨A3, c3, ex36, o3⟩ : RowP w5.heap.size 44 5 1 (Flow.cells (flowP p)) (fun A c => .slice A 1 c) u (a.tmps.getD 36 undef) := hl 36 (by kernel_rfl)
        have e36 := gd ex36
        have e37 : a.tmps[37]?.getD undef = .int .i64 qq := gd (hl 37 (by kernel_rfl))
        go_simp
        refine (hpin _ _ _ ((r_r.below (hb.mono (by omega))).more (by omega)) ((r_s.below (hb.mono (by omega))).more (by omega)) ((r_t.below (hb.mono (by omega))).more (by omega)) (Reads.of_own o3)).mono ?_
        rintro e u1 ⟨v, rfl, ⟨Aa, ca, Ab, cb, Ac, cc, rfl, oo1, oo2, oo3⟩, hb1⟩
        exact hK _ _ hb1 (by intro d hd; cases hd; exact ⟨Aa, ca, Ab, cb, Ac, cc, rfl, own_base oo1 (by omega), own_base oo2 (by omega), own_base oo3 (by omega)⟩)
      refine allStep_cons (stepS_plain hGk hSk hBB hJk (by kernel_rfl) rfl ?_) ?_
      · intro a u hb hz hj hl hp K Q hK
        obtain ⟨Aa1, ca1, Ab1, cb1, Ac1, cc1, ex38, o1_1, o2_1, o3_1⟩ : (PinP w5.heap.size rs lz key tb N) u (a.tmps.getD 38 undef) := hl 38 (by kernel_rfl)
        have e38 := gd ex38
        go_simp
        exact hK _ _ (Below.refl _ _) (by intro d hd; cases hd; exact ⟨Aa1, ca1, Ab1, cb1, Ac1, cc1, rfl, o1_1, o2_1, o3_1⟩)
      refine allStep_cons (stepS_plain hGk hSk hBB hJk (by kernel_rfl) rfl ?_) ?_
      · intro a u hb hz hj hl hp K Q hK
        obtain ⟨Aa1, ca1, Ab1, cb1, Ac1, cc1, ex31, o1_1, o2_1, o3_1⟩ : (PinP w5.heap.size rs lz key tb N) u (a.tmps.getD 31 undef) := hl 31 (by kernel_rfl)
        have e31 := gd ex31
        go_simp
        exact hK _ _ (Below.refl _ _) (by intro d hd; cases hd; exact ⟨Aa1, ca1, Ab1, cb1, Ac1, cc1, rfl, o1_1, o2_1, o3_1⟩)
      refine allStep_cons (stepS_plain hGk hSk hBB hJk (by kernel_rfl) rfl ?_) ?_
      · intro a u hb hz hj hl hp K Q hK
        obtain ⟨Aa1, ca1, Ab1, cb1, Ac1, cc1, ex31, o1_1, o2_1, o3_1⟩ : (PinP w5.heap.size rs lz key tb N) u (a.tmps.getD 31 undef) := hl 31 (by kernel_rfl)
        have e31 := gd ex31
        go_simp
        exact hK _ _ (Below.refl _ _) (by intro d hd; cases hd; exact rfl)
      refine allStep_cons (stepS_plain hGk hSk hBB hJk (by kernel_rfl) rfl ?_) ?_
      · intro a u hb hz hj hl hp K Q hK
        go_simp
        exact hK _ _ (by go_grown) (by intro d hd; cases hd; exact BoxP.new _ _ [.slice none 0 0, .slice none 0 0, .string ⟨#[]⟩, .slice none 0 0] (by omega) rfl)
      refine allStep_cons (stepS_store (Chg w5.heap.size 32) (fun _ _ hc hb => hc.below' (by omega) hb) (fun _ _ hc => hc.size) (hold_rel ?_) ?_ ?_ rfl rfl ?_) ?_
      · intro p hp
        simp only [List.mem_cons, List.not_mem_nil, or_false] at hp
        rcases hp with rfl | rfl | rfl | rfl | rfl | rfl | rfl | rfl | rfl | rfl | rfl | rfl
        all_goals (intro u u' v hb hv; first | exact hv | exact BoxP.chg hv hb | exact RowP.chg hv hb (by decide) | exact PinP.chg hv hb | exact SteO.chg hv hb)
      · intro s hs hne u u' hb
        simp only [List.mem_cons, List.not_mem_nil, or_false] at hs
        rcases hs with rfl
        all_goals first | exact absurd (by rfl) hne | (refine ⟨fun h => ?_, fun _ h => ?_⟩ <;> first | exact h | exact StoP.chg h hb (by decide) | exact StoR.chg h hb (by decide) (by decide) | exact Blk.chgL h hb (by omega) | exact StaR.chgL h hb (by omega) (by decide))
      · intro u u' hb hj
        exact trivial
      · intro a u hb hz hj hl hp K Q hK
        obtain ⟨b, exb, hB, zs, hzl, hbk⟩ : BoxP w5.heap.size 32 4 u (a.tmps.getD 8 undef) := hl 8 (by kernel_rfl)
        have e8 := gd exb
        obtain ⟨Aa2, ca2, Ab2, cb2, Ac2, cc2, ex39, o1_2, o2_2, o3_2⟩ : (SteO w5.heap.size rs lz key tb) u (a.tmps.getD 39 undef) := hl 39 (by kernel_rfl)
        have e39 := gd ex39
        obtain ⟨z0, z1, z2, z3, rfl⟩ : ∃ z0 z1 z2 z3, zs = [z0, z1, z2, z3] := (by match zs, hzl with | [z0, z1, z2, z3], _ => exact ⟨_, _, _, _, rfl⟩)
        have hlt := hbk.lt
        have g0 : u.cell? ⟨b, 0, none⟩ = some z0 := (hbk.cell 0).trans rfl
        have f0 := hbk.frozen 0
        have g1 : u.cell? ⟨b, 1, none⟩ = some z1 := (hbk.cell 1).trans rfl
        have f1 := hbk.frozen 1
        have g2 : u.cell? ⟨b, 2, none⟩ = some z2 := (hbk.cell 2).trans rfl
        have f2 := hbk.frozen 2
        have g3 : u.cell? ⟨b, 3, none⟩ = some z3 := (hbk.cell 3).trans rfl
        have f3 := hbk.frozen 3
        go_simp
        refine hK undef _ (((((Chg.refl _ _ _).set hbk hB 0 _).set (hbk.set_ 0 _) hB 1 _).set ((hbk.set_ 0 _).set_ 1 _) hB 2 _).set (((hbk.set_ 0 _).set_ 1 _).set_ 2 _) hB 3 _) (fun s hs he => ?_)
        simp only [List.mem_cons, List.not_mem_nil, or_false] at hs
        rcases hs with rfl
        · exact ⟨b, Aa2, ca2, Ab2, cb2, Ac2, cc2, exb, hB, ((((hbk.set_ 0 _).set_ 1 _).set_ 2 _).set_ 3 _), own_chg o1_2 (((((Chg.refl _ _ _).set hbk hB 0 _).set (hbk.set_ 0 _) hB 1 _).set ((hbk.set_ 0 _).set_ 1 _) hB 2 _).set (((hbk.set_ 0 _).set_ 1 _).set_ 2 _) hB 3 _) (by decide), own_chg o2_2 (((((Chg.refl _ _ _).set hbk hB 0 _).set (hbk.set_ 0 _) hB 1 _).set ((hbk.set_ 0 _).set_ 1 _) hB 2 _).set (((hbk.set_ 0 _).set_ 1 _).set_ 2 _) hB 3 _) (by decide), own_chg o3_2 (((((Chg.refl _ _ _).set hbk hB 0 _).set (hbk.set_ 0 _) hB 1 _).set ((hbk.set_ 0 _).set_ 1 _) hB 2 _).set (((hbk.set_ 0 _).set_ 1 _).set_ 2 _) hB 3 _) (by decide)⟩
      refine allStep_cons (stepS_plain hGk hSk hBB hJk (by kernel_rfl) rfl ?_) ?_
      · intro a u hb hz hj hl hp K Q hK
        have e40 : a.tmps[40]?.getD undef = .int .i64 N := gd (hl 40 (by kernel_rfl))
        go_simp
        exact hK _ _ (Below.refl _ _) (by intro d hd; cases hd; exact rfl)
      exact allStep_nil
    intro xT w6 hb hz hj hL hSt
    have fx9 : xT 9 = .int .i64 N := hL _ (List.mem_of_getElem? (i := 11) rfl)
    obtain ⟨bk_1, A_x, c_x, A_y, c_y, A_z, c_z, fx8, lo1, hk1, o_x, o_y, o_z⟩ : StoS w5.heap.size rs lz key tb w6 (xT 8) := hSt _ (List.mem_of_getElem? (i := 0) rfl)
    simp only [List.map, putAll, fx9, fx8]
    have bl1 := hk1.lt
    have bx1_0 : w6.cell? ⟨bk_1, 0, none⟩ = some (.slice A_x rs.length c_x) := (hk1.cell 0).trans rfl
    have bx1_1 : w6.cell? ⟨bk_1, 1, none⟩ = some (.slice A_y lz.length c_y) := (hk1.cell 1).trans rfl
    have bx1_2 : w6.cell? ⟨bk_1, 2, none⟩ = some (.string key) := (hk1.cell 2).trans rfl
    have bx1_3 : w6.cell? ⟨bk_1, 3, none⟩ = some (.slice A_z tb.length c_z) := (hk1.cell 3).trans rfl
    have k6 : Below w.heap.size w w6 := ext_step k5 (by omega) hb
    have p6 := hb.size
    replace hkp := hkp.ext hb
    replace bx0_0 := ccell hb _ _ _ bx0_0
    replace bx0_1 := ccell hb _ _ _ bx0_1
    replace bx0_2 := ccell hb _ _ _ bx0_2
    replace bx0_3 := ccell hb _ _ _ bx0_3
    have bl0 := Nat.lt_of_lt_of_le bl0 hb.size
    replace r_u := r_u.below (hb.mono (by omega))
    replace r_r := r_r.below (hb.mono (by omega))
    replace r_s := r_s.below (hb.mono (by omega))
    replace r_t := r_t.below (hb.mono (by omega))
    replace r_p := r_p.below (hb.mono (by omega))
    have r_x := Reads.of_own o_x
    have u_x := fun k hk => (o_x.lt k hk).2
    have r_y := Reads.of_own o_y
    have u_y := fun k hk => (o_y.lt k hk).2
    have r_z := Reads.of_own o_z
    have u_z := fun k hk => (o_z.lt k hk).2
    clear hL hSt hb hz fx9 fx8 hk1
    clear hpin cp0 cp1 cp2 cp3 cp4 cp5 cp6 cp7 cp8 cp9 cp10 cp11 cp12 cp13 cp14 cp15
    have hgot := fun (u : World) h1 h2 h3 => implSteerPacket_c A_x rs.length c_x rs A_y lz.length c_y lz key A_z tb.length c_z tb qn u rfl (by omega) h1 rfl (by omega) h2 rfl (by omega) h3 p (sup_size hsup)
    have hsp := fun (u : World) h1 h2 h3 => specSteerPacket_c A_r rs.length c_r rs A_s ls.length c_s ls key A_t tb.length c_t tb qn u rfl (by omega) h1 rfl (by omega) h2 rfl (by omega) h3 p (sup_size hsup)
    have hfr := fun (u : World) h1 => specFindRule_c A_r rs.length c_r rs u rfl (by omega) h1 p (sup_size hsup)
    have hok2 := fun (u : World) h1 h2 h3 => implSteeringOk_c A_x rs.length c_x rs A_y lz.length c_y lz key A_z tb.length c_z tb qn u rfl (by omega) h1 rfl (by omega) h2 rfl (by omega) h3
    rw [HS2.out] at hok2
    have e_a := fun hr => pin_rule (p := p) HS.out HS2.out hr
    have e_b := fun hb hr => pin_got (qq := qq) (p := p) HS.out hqq1 hsup hr hb
    rw [HLZ.out] at e_b
    have e_c : tpB ls (flowP p) qq = false → lz = ls := fun h => by rw [← HLZ.out, tpL, if_neg (by rw [h]; decide)]
    have e_n := HNN.out
    generalize tpB ls (flowP p) qq = T at *
    obtain ⟨I1, hI1⟩ : ∃ x, steerI rs lz key tb qn p = x := ⟨_, rfl⟩
    obtain ⟨I0, hI0⟩ : ∃ x, steerI rs ls key tb qn p = x := ⟨_, rfl⟩
    obtain ⟨R, hR⟩ : ∃ x, ruleI rs p = x := ⟨_, rfl⟩
    have e_d : T = false → I1 = I0 := fun h => by rw [← hI1, ← hI0, e_c h]
    simp only [hI1, hI0, hR] at hgot hsp hfr e_a e_b
    clear hI1 hI0 hR e_c HLZ HNN
    by_cases hR0 : 0 ≤ R
    · obtain rfl := e_a hR0
      cases T
      · obtain rfl : N = 0 := by rw [← e_n]; rfl
        go_wp2_with (with_reducible_and_instances show wpList _ _ _ (⟨_, .load 41 (.tmp 6), _, _, _, _⟩ :: _) _ _; refine wpList_load_mid rfl _ _ rfl w3.heap.size 0 (by simp [go_sem]) [.int .i64 p.dmac, .int .i64 p.smac, .int .i64 p.vlan, .int .i64 p.tos, .int .i64 p.id, .int .i64 p.ttl, .int .i64 p.sip, .int .i64 p.dip, .int .i64 p.seg_kind, .int .i64 p.seg_sport, .int .i64 p.seg_dport, .int .i64 p.seg_seq, .int .i64 p.seg_ack, .int .i64 p.seg_flags, .int .i64 p.seg_win, .string p.seg_body] _ hkp.range Try.underlying41 rfl infoZ_ip ?_)
        refine (hgot _ (r_x.more (by omega)) (r_y.more (by omega)) (r_z.more (by omega))).mono ?_
        rintro e w7 ⟨rfl, hb⟩
        have k7 : Below w.heap.size w w7 := ext_step k6 (by omega) hb
        have p7 := hb.size
        replace hkp := hkp.ext hb
        replace bx0_0 := ccell hb _ _ _ bx0_0
        replace bx0_1 := ccell hb _ _ _ bx0_1
        replace bx0_2 := ccell hb _ _ _ bx0_2
        replace bx0_3 := ccell hb _ _ _ bx0_3
        replace bx1_0 := ccell hb _ _ _ bx1_0
        replace bx1_1 := ccell hb _ _ _ bx1_1
        replace bx1_2 := ccell hb _ _ _ bx1_2
        replace bx1_3 := ccell hb _ _ _ bx1_3
        have bl0 := Nat.lt_of_lt_of_le bl0 hb.size
        have bl1 := Nat.lt_of_lt_of_le bl1 hb.size
        replace r_u := r_u.below (hb.mono (by omega))
        replace r_r := r_r.below (hb.mono (by omega))
        replace r_s := r_s.below (hb.mono (by omega))
        replace r_t := r_t.below (hb.mono (by omega))
        replace r_p := r_p.below (hb.mono (by omega))
        replace r_x := r_x.below (hb.mono (by omega))
        replace o_x := own_ext o_x hb
        replace r_y := r_y.below (hb.mono (by omega))
        replace o_y := own_ext o_y hb
        replace r_z := r_z.below (hb.mono (by omega))
        replace o_z := own_ext o_z hb
        clear hb
        go_wp2_with (with_reducible_and_instances show wpList _ _ _ (⟨_, .load 41 (.tmp 6), _, _, _, _⟩ :: _) _ _; refine wpList_load_mid rfl _ _ rfl w3.heap.size 0 (by simp [go_sem]) [.int .i64 p.dmac, .int .i64 p.smac, .int .i64 p.vlan, .int .i64 p.tos, .int .i64 p.id, .int .i64 p.ttl, .int .i64 p.sip, .int .i64 p.dip, .int .i64 p.seg_kind, .int .i64 p.seg_sport, .int .i64 p.seg_dport, .int .i64 p.seg_seq, .int .i64 p.seg_ack, .int .i64 p.seg_flags, .int .i64 p.seg_win, .string p.seg_body] _ hkp.range Try.underlying41 rfl infoZ_ip ?_)
        refine (hfr _ (r_r.more (by omega))).mono ?_
        rintro e w8 ⟨rfl, hb⟩
        have k8 : Below w.heap.size w w8 := ext_step k7 (by omega) hb
        have p8 := hb.size
        replace hkp := hkp.ext hb
        replace bx0_0 := ccell hb _ _ _ bx0_0
        replace bx0_1 := ccell hb _ _ _ bx0_1
        replace bx0_2 := ccell hb _ _ _ bx0_2
        replace bx0_3 := ccell hb _ _ _ bx0_3
        replace bx1_0 := ccell hb _ _ _ bx1_0
        replace bx1_1 := ccell hb _ _ _ bx1_1
        replace bx1_2 := ccell hb _ _ _ bx1_2
        replace bx1_3 := ccell hb _ _ _ bx1_3
        have bl0 := Nat.lt_of_lt_of_le bl0 hb.size
        have bl1 := Nat.lt_of_lt_of_le bl1 hb.size
        replace r_u := r_u.below (hb.mono (by omega))
        replace r_r := r_r.below (hb.mono (by omega))
        replace r_s := r_s.below (hb.mono (by omega))
        replace r_t := r_t.below (hb.mono (by omega))
        replace r_p := r_p.below (hb.mono (by omega))
        replace r_x := r_x.below (hb.mono (by omega))
        replace o_x := own_ext o_x hb
        replace r_y := r_y.below (hb.mono (by omega))
        replace o_y := own_ext o_y hb
        replace r_z := r_z.below (hb.mono (by omega))
        replace o_z := own_ext o_z hb
        clear hb
        go_wp2_with (with_reducible_and_instances show wpList _ _ _ (⟨_, .load 41 (.tmp 6), _, _, _, _⟩ :: _) _ _; refine wpList_load_mid rfl _ _ rfl w3.heap.size 0 (by simp [go_sem]) [.int .i64 p.dmac, .int .i64 p.smac, .int .i64 p.vlan, .int .i64 p.tos, .int .i64 p.id, .int .i64 p.ttl, .int .i64 p.sip, .int .i64 p.dip, .int .i64 p.seg_kind, .int .i64 p.seg_sport, .int .i64 p.seg_dport, .int .i64 p.seg_seq, .int .i64 p.seg_ack, .int .i64 p.seg_flags, .int .i64 p.seg_win, .string p.seg_body] _ hkp.range Try.underlying41 rfl infoZ_ip ?_)
        refine (hsp _ (r_r.more (by omega)) (r_s.more (by omega)) (r_t.more (by omega))).mono ?_
        rintro e w9 ⟨rfl, hb⟩
        have k9 : Below w.heap.size w w9 := ext_step k8 (by omega) hb
        have p9 := hb.size
        replace hkp := hkp.ext hb
        replace bx0_0 := ccell hb _ _ _ bx0_0
        replace bx0_1 := ccell hb _ _ _ bx0_1
        replace bx0_2 := ccell hb _ _ _ bx0_2
        replace bx0_3 := ccell hb _ _ _ bx0_3
        replace bx1_0 := ccell hb _ _ _ bx1_0
        replace bx1_1 := ccell hb _ _ _ bx1_1
        replace bx1_2 := ccell hb _ _ _ bx1_2
        replace bx1_3 := ccell hb _ _ _ bx1_3
        have bl0 := Nat.lt_of_lt_of_le bl0 hb.size
        have bl1 := Nat.lt_of_lt_of_le bl1 hb.size
        replace r_u := r_u.below (hb.mono (by omega))
        replace r_r := r_r.below (hb.mono (by omega))
        replace r_s := r_s.below (hb.mono (by omega))
        replace r_t := r_t.below (hb.mono (by omega))
        replace r_p := r_p.below (hb.mono (by omega))
        replace r_x := r_x.below (hb.mono (by omega))
        replace o_x := own_ext o_x hb
        replace r_y := r_y.below (hb.mono (by omega))
        replace o_y := own_ext o_y hb
        replace r_z := r_z.below (hb.mono (by omega))
        replace o_z := own_ext o_z hb
        clear hb
        go_wp2
        go_ret
        exact ⟨rfl, k9⟩
      · obtain rfl : N = 1 := by rw [← e_n]; rfl
        go_wp2_with (with_reducible_and_instances show wpList _ _ _ (⟨_, .load 41 (.tmp 6), _, _, _, _⟩ :: _) _ _; refine wpList_load_mid rfl _ _ rfl w3.heap.size 0 (by simp [go_sem]) [.int .i64 p.dmac, .int .i64 p.smac, .int .i64 p.vlan, .int .i64 p.tos, .int .i64 p.id, .int .i64 p.ttl, .int .i64 p.sip, .int .i64 p.dip, .int .i64 p.seg_kind, .int .i64 p.seg_sport, .int .i64 p.seg_dport, .int .i64 p.seg_seq, .int .i64 p.seg_ack, .int .i64 p.seg_flags, .int .i64 p.seg_win, .string p.seg_body] _ hkp.range Try.underlying41 rfl infoZ_ip ?_)
        refine (hgot _ (r_x.more (by omega)) (r_y.more (by omega)) (r_z.more (by omega))).mono ?_
        rintro e w7 ⟨rfl, hb⟩
        have k7 : Below w.heap.size w w7 := ext_step k6 (by omega) hb
        have p7 := hb.size
        replace hkp := hkp.ext hb
        replace bx0_0 := ccell hb _ _ _ bx0_0
        replace bx0_1 := ccell hb _ _ _ bx0_1
        replace bx0_2 := ccell hb _ _ _ bx0_2
        replace bx0_3 := ccell hb _ _ _ bx0_3
        replace bx1_0 := ccell hb _ _ _ bx1_0
        replace bx1_1 := ccell hb _ _ _ bx1_1
        replace bx1_2 := ccell hb _ _ _ bx1_2
        replace bx1_3 := ccell hb _ _ _ bx1_3
        have bl0 := Nat.lt_of_lt_of_le bl0 hb.size
        have bl1 := Nat.lt_of_lt_of_le bl1 hb.size
        replace r_u := r_u.below (hb.mono (by omega))
        replace r_r := r_r.below (hb.mono (by omega))
        replace r_s := r_s.below (hb.mono (by omega))
        replace r_t := r_t.below (hb.mono (by omega))
        replace r_p := r_p.below (hb.mono (by omega))
        replace r_x := r_x.below (hb.mono (by omega))
        replace o_x := own_ext o_x hb
        replace r_y := r_y.below (hb.mono (by omega))
        replace o_y := own_ext o_y hb
        replace r_z := r_z.below (hb.mono (by omega))
        replace o_z := own_ext o_z hb
        clear hb
        go_wp2_with (with_reducible_and_instances show wpList _ _ _ (⟨_, .load 41 (.tmp 6), _, _, _, _⟩ :: _) _ _; refine wpList_load_mid rfl _ _ rfl w3.heap.size 0 (by simp [go_sem]) [.int .i64 p.dmac, .int .i64 p.smac, .int .i64 p.vlan, .int .i64 p.tos, .int .i64 p.id, .int .i64 p.ttl, .int .i64 p.sip, .int .i64 p.dip, .int .i64 p.seg_kind, .int .i64 p.seg_sport, .int .i64 p.seg_dport, .int .i64 p.seg_seq, .int .i64 p.seg_ack, .int .i64 p.seg_flags, .int .i64 p.seg_win, .string p.seg_body] _ hkp.range Try.underlying41 rfl infoZ_ip ?_)
        refine (hfr _ (r_r.more (by omega))).mono ?_
        rintro e w8 ⟨rfl, hb⟩
        have k8 : Below w.heap.size w w8 := ext_step k7 (by omega) hb
        have p8 := hb.size
        replace hkp := hkp.ext hb
        replace bx0_0 := ccell hb _ _ _ bx0_0
        replace bx0_1 := ccell hb _ _ _ bx0_1
        replace bx0_2 := ccell hb _ _ _ bx0_2
        replace bx0_3 := ccell hb _ _ _ bx0_3
        replace bx1_0 := ccell hb _ _ _ bx1_0
        replace bx1_1 := ccell hb _ _ _ bx1_1
        replace bx1_2 := ccell hb _ _ _ bx1_2
        replace bx1_3 := ccell hb _ _ _ bx1_3
        have bl0 := Nat.lt_of_lt_of_le bl0 hb.size
        have bl1 := Nat.lt_of_lt_of_le bl1 hb.size
        replace r_u := r_u.below (hb.mono (by omega))
        replace r_r := r_r.below (hb.mono (by omega))
        replace r_s := r_s.below (hb.mono (by omega))
        replace r_t := r_t.below (hb.mono (by omega))
        replace r_p := r_p.below (hb.mono (by omega))
        replace r_x := r_x.below (hb.mono (by omega))
        replace o_x := own_ext o_x hb
        replace r_y := r_y.below (hb.mono (by omega))
        replace o_y := own_ext o_y hb
        replace r_z := r_z.below (hb.mono (by omega))
        replace o_z := own_ext o_z hb
        clear hb
        go_wp2_with (with_reducible_and_instances show wpList _ _ _ (⟨_, .load 41 (.tmp 6), _, _, _, _⟩ :: _) _ _; refine wpList_load_mid rfl _ _ rfl w3.heap.size 0 (by simp [go_sem]) [.int .i64 p.dmac, .int .i64 p.smac, .int .i64 p.vlan, .int .i64 p.tos, .int .i64 p.id, .int .i64 p.ttl, .int .i64 p.sip, .int .i64 p.dip, .int .i64 p.seg_kind, .int .i64 p.seg_sport, .int .i64 p.seg_dport, .int .i64 p.seg_seq, .int .i64 p.seg_ack, .int .i64 p.seg_flags, .int .i64 p.seg_win, .string p.seg_body] _ hkp.range Try.underlying41 rfl infoZ_ip ?_)
        refine (hsp _ (r_r.more (by omega)) (r_s.more (by omega)) (r_t.more (by omega))).mono ?_
        rintro e w9 ⟨rfl, hb⟩
        have k9 : Below w.heap.size w w9 := ext_step k8 (by omega) hb
        have p9 := hb.size
        replace hkp := hkp.ext hb
        replace bx0_0 := ccell hb _ _ _ bx0_0
        replace bx0_1 := ccell hb _ _ _ bx0_1
        replace bx0_2 := ccell hb _ _ _ bx0_2
        replace bx0_3 := ccell hb _ _ _ bx0_3
        replace bx1_0 := ccell hb _ _ _ bx1_0
        replace bx1_1 := ccell hb _ _ _ bx1_1
        replace bx1_2 := ccell hb _ _ _ bx1_2
        replace bx1_3 := ccell hb _ _ _ bx1_3
        have bl0 := Nat.lt_of_lt_of_le bl0 hb.size
        have bl1 := Nat.lt_of_lt_of_le bl1 hb.size
        replace r_u := r_u.below (hb.mono (by omega))
        replace r_r := r_r.below (hb.mono (by omega))
        replace r_s := r_s.below (hb.mono (by omega))
        replace r_t := r_t.below (hb.mono (by omega))
        replace r_p := r_p.below (hb.mono (by omega))
        replace r_x := r_x.below (hb.mono (by omega))
        replace o_x := own_ext o_x hb
        replace r_y := r_y.below (hb.mono (by omega))
        replace o_y := own_ext o_y hb
        replace r_z := r_z.below (hb.mono (by omega))
        replace o_z := own_ext o_z hb
        clear hb
        go_wp2_with fail
        refine (hok2 _ (r_x.more (by omega)) (r_y.more (by omega)) (r_z.more (by omega))).mono ?_
        rintro e w10 ⟨rfl, hb⟩
        have k10 : Below w.heap.size w w10 := ext_step k9 (by omega) hb
        have p10 := hb.size
        replace hkp := hkp.ext hb
        replace bx0_0 := ccell hb _ _ _ bx0_0
        replace bx0_1 := ccell hb _ _ _ bx0_1
        replace bx0_2 := ccell hb _ _ _ bx0_2
        replace bx0_3 := ccell hb _ _ _ bx0_3
        replace bx1_0 := ccell hb _ _ _ bx1_0
        replace bx1_1 := ccell hb _ _ _ bx1_1
        replace bx1_2 := ccell hb _ _ _ bx1_2
        replace bx1_3 := ccell hb _ _ _ bx1_3
        have bl0 := Nat.lt_of_lt_of_le bl0 hb.size
        have bl1 := Nat.lt_of_lt_of_le bl1 hb.size
        replace r_u := r_u.below (hb.mono (by omega))
        replace r_r := r_r.below (hb.mono (by omega))
        replace r_s := r_s.below (hb.mono (by omega))
        replace r_t := r_t.below (hb.mono (by omega))
        replace r_p := r_p.below (hb.mono (by omega))
        replace r_x := r_x.below (hb.mono (by omega))
        replace o_x := own_ext o_x hb
        replace r_y := r_y.below (hb.mono (by omega))
        replace o_y := own_ext o_y hb
        replace r_z := r_z.below (hb.mono (by omega))
        replace o_z := own_ext o_z hb
        clear hb
        go_wp2
        go_ret
        exact ⟨rfl, k10⟩
    · cases T
      · obtain rfl : N = 0 := by rw [← e_n]; rfl
        obtain rfl := e_d rfl
        go_wp2_with (with_reducible_and_instances show wpList _ _ _ (⟨_, .load 41 (.tmp 6), _, _, _, _⟩ :: _) _ _; refine wpList_load_mid rfl _ _ rfl w3.heap.size 0 (by simp [go_sem]) [.int .i64 p.dmac, .int .i64 p.smac, .int .i64 p.vlan, .int .i64 p.tos, .int .i64 p.id, .int .i64 p.ttl, .int .i64 p.sip, .int .i64 p.dip, .int .i64 p.seg_kind, .int .i64 p.seg_sport, .int .i64 p.seg_dport, .int .i64 p.seg_seq, .int .i64 p.seg_ack, .int .i64 p.seg_flags, .int .i64 p.seg_win, .string p.seg_body] _ hkp.range Try.underlying41 rfl infoZ_ip ?_)
        refine (hgot _ (r_x.more (by omega)) (r_y.more (by omega)) (r_z.more (by omega))).mono ?_
        rintro e w7 ⟨rfl, hb⟩
        have k7 : Below w.heap.size w w7 := ext_step k6 (by omega) hb
        have p7 := hb.size
        replace hkp := hkp.ext hb
        replace bx0_0 := ccell hb _ _ _ bx0_0
        replace bx0_1 := ccell hb _ _ _ bx0_1
        replace bx0_2 := ccell hb _ _ _ bx0_2
        replace bx0_3 := ccell hb _ _ _ bx0_3
        replace bx1_0 := ccell hb _ _ _ bx1_0
        replace bx1_1 := ccell hb _ _ _ bx1_1
        replace bx1_2 := ccell hb _ _ _ bx1_2
        replace bx1_3 := ccell hb _ _ _ bx1_3
        have bl0 := Nat.lt_of_lt_of_le bl0 hb.size
        have bl1 := Nat.lt_of_lt_of_le bl1 hb.size
        replace r_u := r_u.below (hb.mono (by omega))
        replace r_r := r_r.below (hb.mono (by omega))
        replace r_s := r_s.below (hb.mono (by omega))
        replace r_t := r_t.below (hb.mono (by omega))
        replace r_p := r_p.below (hb.mono (by omega))
        replace r_x := r_x.below (hb.mono (by omega))
        replace o_x := own_ext o_x hb
        replace r_y := r_y.below (hb.mono (by omega))
        replace o_y := own_ext o_y hb
        replace r_z := r_z.below (hb.mono (by omega))
        replace o_z := own_ext o_z hb
        clear hb
        go_wp2_with (with_reducible_and_instances show wpList _ _ _ (⟨_, .load 41 (.tmp 6), _, _, _, _⟩ :: _) _ _; refine wpList_load_mid rfl _ _ rfl w3.heap.size 0 (by simp [go_sem]) [.int .i64 p.dmac, .int .i64 p.smac, .int .i64 p.vlan, .int .i64 p.tos, .int .i64 p.id, .int .i64 p.ttl, .int .i64 p.sip, .int .i64 p.dip, .int .i64 p.seg_kind, .int .i64 p.seg_sport, .int .i64 p.seg_dport, .int .i64 p.seg_seq, .int .i64 p.seg_ack, .int .i64 p.seg_flags, .int .i64 p.seg_win, .string p.seg_body] _ hkp.range Try.underlying41 rfl infoZ_ip ?_)
        refine (hfr _ (r_r.more (by omega))).mono ?_
        rintro e w8 ⟨rfl, hb⟩
        have k8 : Below w.heap.size w w8 := ext_step k7 (by omega) hb
        have p8 := hb.size
        replace hkp := hkp.ext hb
        replace bx0_0 := ccell hb _ _ _ bx0_0
        replace bx0_1 := ccell hb _ _ _ bx0_1
        replace bx0_2 := ccell hb _ _ _ bx0_2
        replace bx0_3 := ccell hb _ _ _ bx0_3
        replace bx1_0 := ccell hb _ _ _ bx1_0
        replace bx1_1 := ccell hb _ _ _ bx1_1
        replace bx1_2 := ccell hb _ _ _ bx1_2
        replace bx1_3 := ccell hb _ _ _ bx1_3
        have bl0 := Nat.lt_of_lt_of_le bl0 hb.size
        have bl1 := Nat.lt_of_lt_of_le bl1 hb.size
        replace r_u := r_u.below (hb.mono (by omega))
        replace r_r := r_r.below (hb.mono (by omega))
        replace r_s := r_s.below (hb.mono (by omega))
        replace r_t := r_t.below (hb.mono (by omega))
        replace r_p := r_p.below (hb.mono (by omega))
        replace r_x := r_x.below (hb.mono (by omega))
        replace o_x := own_ext o_x hb
        replace r_y := r_y.below (hb.mono (by omega))
        replace o_y := own_ext o_y hb
        replace r_z := r_z.below (hb.mono (by omega))
        replace o_z := own_ext o_z hb
        clear hb
        go_wp2_with (with_reducible_and_instances show wpList _ _ _ (⟨_, .load 41 (.tmp 6), _, _, _, _⟩ :: _) _ _; refine wpList_load_mid rfl _ _ rfl w3.heap.size 0 (by simp [go_sem]) [.int .i64 p.dmac, .int .i64 p.smac, .int .i64 p.vlan, .int .i64 p.tos, .int .i64 p.id, .int .i64 p.ttl, .int .i64 p.sip, .int .i64 p.dip, .int .i64 p.seg_kind, .int .i64 p.seg_sport, .int .i64 p.seg_dport, .int .i64 p.seg_seq, .int .i64 p.seg_ack, .int .i64 p.seg_flags, .int .i64 p.seg_win, .string p.seg_body] _ hkp.range Try.underlying41 rfl infoZ_ip ?_)
        refine (hsp _ (r_r.more (by omega)) (r_s.more (by omega)) (r_t.more (by omega))).mono ?_
        rintro e w9 ⟨rfl, hb⟩
        have k9 : Below w.heap.size w w9 := ext_step k8 (by omega) hb
        have p9 := hb.size
        replace hkp := hkp.ext hb
        replace bx0_0 := ccell hb _ _ _ bx0_0
        replace bx0_1 := ccell hb _ _ _ bx0_1
        replace bx0_2 := ccell hb _ _ _ bx0_2
        replace bx0_3 := ccell hb _ _ _ bx0_3
        replace bx1_0 := ccell hb _ _ _ bx1_0
        replace bx1_1 := ccell hb _ _ _ bx1_1
        replace bx1_2 := ccell hb _ _ _ bx1_2
        replace bx1_3 := ccell hb _ _ _ bx1_3
        have bl0 := Nat.lt_of_lt_of_le bl0 hb.size
        have bl1 := Nat.lt_of_lt_of_le bl1 hb.size
        replace r_u := r_u.below (hb.mono (by omega))
        replace r_r := r_r.below (hb.mono (by omega))
        replace r_s := r_s.below (hb.mono (by omega))
        replace r_t := r_t.below (hb.mono (by omega))
        replace r_p := r_p.below (hb.mono (by omega))
        replace r_x := r_x.below (hb.mono (by omega))
        replace o_x := own_ext o_x hb
        replace r_y := r_y.below (hb.mono (by omega))
        replace o_y := own_ext o_y hb
        replace r_z := r_z.below (hb.mono (by omega))
        replace o_z := own_ext o_z hb
        clear hb
        go_wp2
        go_ret
        exact ⟨rfl, k9⟩
      · obtain rfl : N = 1 := by rw [← e_n]; rfl
        obtain rfl := e_b rfl hR0
        go_wp2_with (with_reducible_and_instances show wpList _ _ _ (⟨_, .load 41 (.tmp 6), _, _, _, _⟩ :: _) _ _; refine wpList_load_mid rfl _ _ rfl w3.heap.size 0 (by simp [go_sem]) [.int .i64 p.dmac, .int .i64 p.smac, .int .i64 p.vlan, .int .i64 p.tos, .int .i64 p.id, .int .i64 p.ttl, .int .i64 p.sip, .int .i64 p.dip, .int .i64 p.seg_kind, .int .i64 p.seg_sport, .int .i64 p.seg_dport, .int .i64 p.seg_seq, .int .i64 p.seg_ack, .int .i64 p.seg_flags, .int .i64 p.seg_win, .string p.seg_body] _ hkp.range Try.underlying41 rfl infoZ_ip ?_)
        refine (hgot _ (r_x.more (by omega)) (r_y.more (by omega)) (r_z.more (by omega))).mono ?_
        rintro e w7 ⟨rfl, hb⟩
        have k7 : Below w.heap.size w w7 := ext_step k6 (by omega) hb
        have p7 := hb.size
        replace hkp := hkp.ext hb
        replace bx0_0 := ccell hb _ _ _ bx0_0
        replace bx0_1 := ccell hb _ _ _ bx0_1
        replace bx0_2 := ccell hb _ _ _ bx0_2
        replace bx0_3 := ccell hb _ _ _ bx0_3
        replace bx1_0 := ccell hb _ _ _ bx1_0
        replace bx1_1 := ccell hb _ _ _ bx1_1
        replace bx1_2 := ccell hb _ _ _ bx1_2
        replace bx1_3 := ccell hb _ _ _ bx1_3
        have bl0 := Nat.lt_of_lt_of_le bl0 hb.size
        have bl1 := Nat.lt_of_lt_of_le bl1 hb.size
        replace r_u := r_u.below (hb.mono (by omega))
        replace r_r := r_r.below (hb.mono (by omega))
        replace r_s := r_s.below (hb.mono (by omega))
        replace r_t := r_t.below (hb.mono (by omega))
        replace r_p := r_p.below (hb.mono (by omega))
        replace r_x := r_x.below (hb.mono (by omega))
        replace o_x := own_ext o_x hb
        replace r_y := r_y.below (hb.mono (by omega))
        replace o_y := own_ext o_y hb
        replace r_z := r_z.below (hb.mono (by omega))
        replace o_z := own_ext o_z hb
        clear hb
        go_wp2_with (with_reducible_and_instances show wpList _ _ _ (⟨_, .load 41 (.tmp 6), _, _, _, _⟩ :: _) _ _; refine wpList_load_mid rfl _ _ rfl w3.heap.size 0 (by simp [go_sem]) [.int .i64 p.dmac, .int .i64 p.smac, .int .i64 p.vlan, .int .i64 p.tos, .int .i64 p.id, .int .i64 p.ttl, .int .i64 p.sip, .int .i64 p.dip, .int .i64 p.seg_kind, .int .i64 p.seg_sport, .int .i64 p.seg_dport, .int .i64 p.seg_seq, .int .i64 p.seg_ack, .int .i64 p.seg_flags, .int .i64 p.seg_win, .string p.seg_body] _ hkp.range Try.underlying41 rfl infoZ_ip ?_)
        refine (hfr _ (r_r.more (by omega))).mono ?_
        rintro e w8 ⟨rfl, hb⟩
        have k8 : Below w.heap.size w w8 := ext_step k7 (by omega) hb
        have p8 := hb.size
        replace hkp := hkp.ext hb
        replace bx0_0 := ccell hb _ _ _ bx0_0
        replace bx0_1 := ccell hb _ _ _ bx0_1
        replace bx0_2 := ccell hb _ _ _ bx0_2
        replace bx0_3 := ccell hb _ _ _ bx0_3
        replace bx1_0 := ccell hb _ _ _ bx1_0
        replace bx1_1 := ccell hb _ _ _ bx1_1
        replace bx1_2 := ccell hb _ _ _ bx1_2
        replace bx1_3 := ccell hb _ _ _ bx1_3
        have bl0 := Nat.lt_of_lt_of_le bl0 hb.size
        have bl1 := Nat.lt_of_lt_of_le bl1 hb.size
        replace r_u := r_u.below (hb.mono (by omega))
        replace r_r := r_r.below (hb.mono (by omega))
        replace r_s := r_s.below (hb.mono (by omega))
        replace r_t := r_t.below (hb.mono (by omega))
        replace r_p := r_p.below (hb.mono (by omega))
        replace r_x := r_x.below (hb.mono (by omega))
        replace o_x := own_ext o_x hb
        replace r_y := r_y.below (hb.mono (by omega))
        replace o_y := own_ext o_y hb
        replace r_z := r_z.below (hb.mono (by omega))
        replace o_z := own_ext o_z hb
        clear hb
        go_wp2_with fail
        refine (hok2 _ (r_x.more (by omega)) (r_y.more (by omega)) (r_z.more (by omega))).mono ?_
        rintro e w9 ⟨rfl, hb⟩
        have k9 : Below w.heap.size w w9 := ext_step k8 (by omega) hb
        have p9 := hb.size
        replace hkp := hkp.ext hb
        replace bx0_0 := ccell hb _ _ _ bx0_0
        replace bx0_1 := ccell hb _ _ _ bx0_1
        replace bx0_2 := ccell hb _ _ _ bx0_2
        replace bx0_3 := ccell hb _ _ _ bx0_3
        replace bx1_0 := ccell hb _ _ _ bx1_0
        replace bx1_1 := ccell hb _ _ _ bx1_1
        replace bx1_2 := ccell hb _ _ _ bx1_2
        replace bx1_3 := ccell hb _ _ _ bx1_3
        have bl0 := Nat.lt_of_lt_of_le bl0 hb.size
        have bl1 := Nat.lt_of_lt_of_le bl1 hb.size
        replace r_u := r_u.below (hb.mono (by omega))
        replace r_r := r_r.below (hb.mono (by omega))
        replace r_s := r_s.below (hb.mono (by omega))
        replace r_t := r_t.below (hb.mono (by omega))
        replace r_p := r_p.below (hb.mono (by omega))
        replace r_x := r_x.below (hb.mono (by omega))
        replace o_x := own_ext o_x hb
        replace r_y := r_y.below (hb.mono (by omega))
        replace o_y := own_ext o_y hb
        replace r_z := r_z.below (hb.mono (by omega))
        replace o_z := own_ext o_z hb
        clear hb
        go_wp2
        go_ret
        exact ⟨rfl, k9⟩
end Go.Proofs.Ytkfekgmdjemkbaa
