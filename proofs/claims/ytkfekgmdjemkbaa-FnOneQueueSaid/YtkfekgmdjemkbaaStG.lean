/- Contracts on flow tables: wayOf, l13Find. -/
import Derived.Test.YtkfekgmdjemkbaaStF
namespace Go.Proofs.Ytkfekgmdjemkbaa
set_option linter.unusedSimpArgs false
set_option linter.unusedVariables false
open Go.RowKit Go.ChangeShapes Go.WideShapes
theorem info_i : (Try.prog.info? 3).map (fun i => (i.zero, i.size, i.bytes)) = some (some (.int .i64 0), 1, 8) := by kernel_rfl
theorem blk_keep {w w1 : World} {b : Nat} {T : TypeId} {cs : List Value} {row : Option Nat} (h : Blk w b T cs) (hg : w.grownBy w1 row) (hne : row ≠ some b) : Blk w1 b T cs :=
  (hg.block b h.lt (fun e => hne e.symm)).trans h
/-- The first k places of a flow's way. -/
def wayL (f : Flow) (k : Nat) : List Int := (List.range k).map fun j => ((way f j : Nat) : Int)
theorem wayL_next (f : Flow) (k : Nat) : wayL f (k + 1) = wayL f k ++ [((way f k : Nat) : Int)] := by
  simp [wayL, List.range_succ]
theorem wayL_get {f : Flow} {k n : Nat} (h : k < n) : (wayL f n)[k]? = some ((way f k : Nat) : Int) := by
  simp [wayL, h]
theorem fnd_empty {l : List Slot} {f : Flow} {k : Nat} {x : Slot} (hx : slt l (way f k) = x) (hst : fndG l f (8 - k) k = fndI l f) (hk : k < 8) (h : x.state = 0) : fndI l f = -1 := by
  rw [← hst, show 8 - k = (7 - k) + 1 by omega, fndG, hx, if_pos h]
theorem fnd_hit {l : List Slot} {f : Flow} {k : Nat} {x : Slot} (hx : slt l (way f k) = x) (hst : fndG l f (8 - k) k = fndI l f) (hk : k < 8) (h : ¬ x.state = 0) (hh : hitF f x = true) : fndI l f = (way f k : Nat) := by
  rw [← hst, show 8 - k = (7 - k) + 1 by omega, fndG, hx, if_neg h, if_pos hh]
theorem fnd_on {l : List Slot} {f : Flow} {k : Nat} {x : Slot} (hx : slt l (way f k) = x) (hst : fndG l f (8 - k) k = fndI l f) (hk : k < 8) (h : ¬ x.state = 0) (hh : hitF f x = false) : fndG l f (8 - (k + 1)) (k + 1) = fndI l f := by
  rw [← hst, show 8 - k = (7 - k) + 1 by omega, fndG, hx, if_neg h, if_neg (by rw [hh]; decide), show 8 - (k + 1) = 7 - k by omega]
theorem fnd_end {l : List Slot} {f : Flow} (hst : fndG l f (8 - 8) 8 = fndI l f) : fndI l f = -1 := by rw [← hst]; rfl
set_option maxRecDepth 100000 in
set_option maxHeartbeats 2000000 in
theorem wayOf_c (f : Flow) (w : World) :
    Calls Try.prog 52 #[.agg #[.int .i64 f.kind, .int .i64 f.sip, .int .i64 f.dip, .int .i64 f.sport, .int .i64 f.dport]] w fun e w' => ∃ A c, e = .returned (.slice A 8 c) ∧ w'.ownsRow w.heap.size 3 1 (.slice A (8 : Nat) c) 8 ((wayL f 8).flatMap (fun x : Int => [Value.int .i64 x])) ∧ Below w.heap.size w w' := by
  obtain ⟨i0, hi, hz0, hz1, hz2⟩ := info_parts info_i
  go_enter Try.func52, Try.ntmps52
  go_wp2
  go_loopw [3, 4] (fun v i wr => ∃ k : Nat, k ≤ 8 ∧ i = .int .i64 k ∧ wr.ownsRow w.heap.size 3 1 v k ((wayL f k).flatMap (fun x : Int => [Value.int .i64 x])) ∧ Blk wr w.heap.size 44 [.int .i64 f.kind, .int .i64 f.sip, .int .i64 f.dip, .int .i64 f.sport, .int .i64 f.dport] ∧ Below w.heap.size w wr) (fun _ i _ => 8 - (intOf i).toNat)
  case atStart => exact ⟨0, by decide, rfl, own_empty (g := w.heap.size + 1) (by simpa using Blk.new (w.alloc (.cells #[.int .i64 f.kind, .int .i64 f.sip, .int .i64 f.dip, .int .i64 f.sport, .int .i64 f.dport] 44)) 3 []) (by omega), (Blk.new _ _ _).alloc _, by go_grown⟩
  case round =>
    obtain ⟨k, hk, rfl, hown, hkf, hbw⟩ := hrel
    have hsz := hbw.size
    have hfl := hkf.lt
    have q0 := hkf.at_ 0 _ rfl
    have q1 := hkf.at_ 1 _ rfl
    have q2 := hkf.at_ 2 _ rfl
    have q3 := hkf.at_ 3 _ rfl
    have q4 := hkf.at_ 4 _ rfl
    by_cases hlt : k < 8
    · have hh := homeI_lt f
      have ew : ((homeI f : Int) + (k : Int)) % 8 = ((way f k : Nat) : Int) := by unfold way; omega
      have hwl := way_lt f k
      have HW := Lib.hid (wayL_next f k)
      go_wp2_with fail
      refine (implHomeSlot_c f _).mono ?_
      rintro e w2 ⟨rfl, hbW⟩
      have hk2 : Below w.heap.size w w2 := ext_step hbw hbw.size hbW
      have hs2 := hk2.size
      have hown2 := own_ext hown hbW
      have hkf2 := hkf.ext hbW
      clear hbW
      go_wp2_with (go_loud (at_builtin; refine wpList_append_own _ rfl _ _ 28 rfl w.heap.size 3 i0 (.int .i64 0) 1 8 Try.underlying28 hi hz0 hz1 hz2 rfl (by decide) _ _ _ rfl (hown2.alloc _) ⟨w2.heap.size, 0, none⟩ 1 1 [Value.int .i64 ((way f k : Nat) : Int)] rfl rfl (cells_new _ _ _) ?c2 ?c3 ?c4 ?c5 ?_; (case c2 => (intro u hu; simp only [List.mem_cons, List.not_mem_nil, or_false] at hu; subst hu; rfl)); (case c3 => (unfold maxLen; omega)); (case c4 => omega); (case c5 => go_size); intro v1 w1 hown1 hg1 hn1; have hb1 : Below w.heap.size w w1 := below_app (hk2.alloc hk2.size _) (hown2.alloc _) hg1 (by go_size)))
      have hne := own_ty (hown2.alloc (.cells #[.int .i64 (way f k : Nat)] 3)) (hkf2.alloc (.cells #[.int .i64 (way f k : Nat)] 3)) (by decide)
      have hkf1 := blk_keep (hkf2.alloc _) hg1 (fun e => hne _ e rfl)
      clear hn1 hg1 hne
      go_roundw
      case rel => exact ⟨k + 1, by omega, by go_num, by rw [HW.out, List.flatMap_append]; exact hown1, hkf1, hb1⟩
      case measure => simp [intOf]; omega
    · have hk8 : k = 8 := by omega
      subst hk8
      obtain ⟨A, c, rfl, _⟩ := own_form hown
      go_wp2
      go_ret
      exact ⟨A, c, rfl, hown, hbw⟩
set_option maxRecDepth 100000 in
set_option maxHeartbeats 4000000 in
theorem l13Find_c (A : Option Addr) (c : Nat) (l : List Slot) (f : Flow) (w : World) (hn : l.length = 8) (hr : Reads w w.heap.size 7 A 8 (l.flatMap Slot.cells)) :
    Calls Try.prog 62 #[.agg #[.slice A (8 : Nat) c], .agg #[.int .i64 f.kind, .int .i64 f.sip, .int .i64 f.dip, .int .i64 f.sport, .int .i64 f.dport]] w fun e w' => e = .returned (.int .i64 (fndI l f)) ∧ Below w.heap.size w w' := by
  have HN := Lib.hid hn
  clear hn
  have hk0 : Blk ((w.alloc (.cells #[.slice A 8 c] 27)).alloc (.cells #[.int .i64 f.kind, .int .i64 f.sip, .int .i64 f.dip, .int .i64 f.sport, .int .i64 f.dport] 44)) (w.heap.size + 1) 44 [.int .i64 f.kind, .int .i64 f.sip, .int .i64 f.dip, .int .i64 f.sport, .int .i64 f.dport] := by simpa using Blk.new (w.alloc (.cells #[.slice A 8 c] 27)) 44 [.int .i64 f.kind, .int .i64 f.sip, .int .i64 f.dip, .int .i64 f.sport, .int .i64 f.dport]
  go_enter Try.func62, Try.ntmps62
  go_wp2
  go_loopw [5] (fun i wr => ∃ k : Nat, k ≤ 8 ∧ i = .int .i64 k ∧ Below w.heap.size w wr ∧ Blk wr w.heap.size 27 [.slice A (8 : Nat) c] ∧ Blk wr (w.heap.size + 1) 44 [.int .i64 f.kind, .int .i64 f.sip, .int .i64 f.dip, .int .i64 f.sport, .int .i64 f.dport] ∧ Hid (fndG l f (8 - k) k = fndI l f)) (fun i _ => 8 - (intOf i).toNat)
  case atStart => exact ⟨0, by decide, rfl, by go_grown, (Blk.new _ _ _).alloc _, hk0, rfl⟩
  case round =>
    obtain ⟨k, hk, rfl, hbw, hkt, hkf, hst⟩ := hrel
    have hsz := hbw.size
    have hfl := hkf.lt
    have htl := hkt.lt
    have t0 := hkt.at_ 0 _ rfl
    have q0 := hkf.at_ 0 _ rfl
    have q1 := hkf.at_ 1 _ rfl
    have q2 := hkf.at_ 2 _ rfl
    have q3 := hkf.at_ 3 _ rfl
    have q4 := hkf.at_ 4 _ rfl
    by_cases hlt : k < 8
    · have hh := homeI_lt f
      have ew : ((homeI f : Int) + (k : Int)) % 8 = ((way f k : Nat) : Int) := by unfold way; omega
      have hwl := way_lt f k
      obtain ⟨b, o, x, rfl, hb, hxx, hcx⟩ := hr.el (fun _ => rfl) (by decide) HN.out hwl
      have c0 := (hbw.cell (p := ⟨b, o + way f k * 7, none⟩) hb).trans (by simpa using hcx 0 _ rfl)
      have c1 := (hbw.cell (p := ⟨b, o + way f k * 7 + 1, none⟩) hb).trans (by simpa using hcx 1 _ rfl)
      have c2 := (hbw.cell (p := ⟨b, o + way f k * 7 + 2, none⟩) hb).trans (by simpa using hcx 2 _ rfl)
      have c3 := (hbw.cell (p := ⟨b, o + way f k * 7 + 3, none⟩) hb).trans (by simpa using hcx 3 _ rfl)
      have c4 := (hbw.cell (p := ⟨b, o + way f k * 7 + 4, none⟩) hb).trans (by simpa using hcx 4 _ rfl)
      have c5 := (hbw.cell (p := ⟨b, o + way f k * 7 + 5, none⟩) hb).trans (by simpa using hcx 5 _ rfl)
      have c6 := (hbw.cell (p := ⟨b, o + way f k * 7 + 6, none⟩) hb).trans (by simpa using hcx 6 _ rfl)
      have HXx := Lib.hid hxx
      clear hxx hcx
      have HX := Lib.hid (slt_get HXx.out)
      generalize hwk : way f k = K at *
      have HK := Lib.hid hwk
      clear hwk HXx
      by_cases hs0 : x.state = 0
      · have HP := Lib.hid (fnd_empty (by rw [HK.out]; exact HX.out) hst.out hlt hs0)
        go_wp2_with (go_at_call 68; refine (specHomeSlot_c f _).mono ?_; rintro e w1 ⟨rfl, hbW⟩; have hk1 : Below w.heap.size w w1 := ext_step (by go_grown) (by go_size) hbW; have hkt1 := hkt.ext hbW; have hkf1 := hkf.ext hbW; have t0 := hkt1.at_ 0 _ rfl; have hl1 := hkt1.lt; have hl2 := hkf1.lt; have r0 := hkf1.at_ 0 _ rfl; have r1 := hkf1.at_ 1 _ rfl; have r2 := hkf1.at_ 2 _ rfl; have r3 := hkf1.at_ 3 _ rfl; have r4 := hkf1.at_ 4 _ rfl; have d0 := ccell hbW _ _ _ c0; have d1 := ccell hbW _ _ _ c1; have d2 := ccell hbW _ _ _ c2; have d3 := ccell hbW _ _ _ c3; have d4 := ccell hbW _ _ _ c4; have d5 := ccell hbW _ _ _ c5; have d6 := ccell hbW _ _ _ c6; clear hbW)
        go_ret
        exact ⟨ret_int HP.out.symm, hk1⟩
      · have b0 : (x.state == 0) = false := by simpa using hs0
        cases b1 : (x.state == 1)
        · have hs1 : ¬ x.state = 1 := by simpa using b1
          have HP := Lib.hid (fnd_on (by rw [HK.out]; exact HX.out) hst.out hlt hs0 (hit_no (by omega)))
          go_wp2_with (go_at_call 68; refine (specHomeSlot_c f _).mono ?_; rintro e w1 ⟨rfl, hbW⟩; have hk1 : Below w.heap.size w w1 := ext_step (by go_grown) (by go_size) hbW; have hkt1 := hkt.ext hbW; have hkf1 := hkf.ext hbW; have t0 := hkt1.at_ 0 _ rfl; have hl1 := hkt1.lt; have hl2 := hkf1.lt; have r0 := hkf1.at_ 0 _ rfl; have r1 := hkf1.at_ 1 _ rfl; have r2 := hkf1.at_ 2 _ rfl; have r3 := hkf1.at_ 3 _ rfl; have r4 := hkf1.at_ 4 _ rfl; have d0 := ccell hbW _ _ _ c0; have d1 := ccell hbW _ _ _ c1; have d2 := ccell hbW _ _ _ c2; have d3 := ccell hbW _ _ _ c3; have d4 := ccell hbW _ _ _ c4; have d5 := ccell hbW _ _ _ c5; have d6 := ccell hbW _ _ _ c6; clear hbW)
          go_quiet (fail)
          go_wp2
          go_roundw
          case rel => exact ⟨k + 1, by omega, by go_num, below_drewN hk1 _, hkt1.drewN _, hkf1.drewN _, HP⟩
          case measure => simp [intOf]; omega
        · have hs1 : x.state = 1 := by simpa using b1
          by_cases g0 : x.flow_kind = f.kind
          · have b0 : (x.flow_kind == f.kind) = true := by simpa using g0
            by_cases g1 : x.flow_sip = f.sip
            · have b1 : (x.flow_sip == f.sip) = true := by simpa using g1
              by_cases g2 : x.flow_dip = f.dip
              · have b2 : (x.flow_dip == f.dip) = true := by simpa using g2
                by_cases g3 : x.flow_sport = f.sport
                · have b3 : (x.flow_sport == f.sport) = true := by simpa using g3
                  by_cases g4 : x.flow_dport = f.dport
                  · have b4 : (x.flow_dport == f.dport) = true := by simpa using g4
                    have HP := Lib.hid (fnd_hit (by rw [HK.out]; exact HX.out) hst.out hlt hs0 (hit_yes ⟨by omega, g0, g1, g2, g3, g4⟩))
                    go_wp2_with (go_at_call 68; refine (specHomeSlot_c f _).mono ?_; rintro e w1 ⟨rfl, hbW⟩; have hk1 : Below w.heap.size w w1 := ext_step (by go_grown) (by go_size) hbW; have hkt1 := hkt.ext hbW; have hkf1 := hkf.ext hbW; have t0 := hkt1.at_ 0 _ rfl; have hl1 := hkt1.lt; have hl2 := hkf1.lt; have r0 := hkf1.at_ 0 _ rfl; have r1 := hkf1.at_ 1 _ rfl; have r2 := hkf1.at_ 2 _ rfl; have r3 := hkf1.at_ 3 _ rfl; have r4 := hkf1.at_ 4 _ rfl; have d0 := ccell hbW _ _ _ c0; have d1 := ccell hbW _ _ _ c1; have d2 := ccell hbW _ _ _ c2; have d3 := ccell hbW _ _ _ c3; have d4 := ccell hbW _ _ _ c4; have d5 := ccell hbW _ _ _ c5; have d6 := ccell hbW _ _ _ c6; clear hbW)
                    go_quiet (fail)
                    go_wp2
                    go_ret
                    exact ⟨ret_int (by first | exact (HP.out.trans (congrArg (fun z : Nat => (z : Int)) HK.out)).symm | exact ew.trans (HP.out.trans (congrArg (fun z : Nat => (z : Int)) HK.out)).symm), below_drewN hk1 _⟩
                  · have b4 : (x.flow_dport == f.dport) = false := by simpa using g4
                    have HP := Lib.hid (fnd_on (by rw [HK.out]; exact HX.out) hst.out hlt hs0 (hit_no (by omega)))
                    go_wp2_with (go_at_call 68; refine (specHomeSlot_c f _).mono ?_; rintro e w1 ⟨rfl, hbW⟩; have hk1 : Below w.heap.size w w1 := ext_step (by go_grown) (by go_size) hbW; have hkt1 := hkt.ext hbW; have hkf1 := hkf.ext hbW; have t0 := hkt1.at_ 0 _ rfl; have hl1 := hkt1.lt; have hl2 := hkf1.lt; have r0 := hkf1.at_ 0 _ rfl; have r1 := hkf1.at_ 1 _ rfl; have r2 := hkf1.at_ 2 _ rfl; have r3 := hkf1.at_ 3 _ rfl; have r4 := hkf1.at_ 4 _ rfl; have d0 := ccell hbW _ _ _ c0; have d1 := ccell hbW _ _ _ c1; have d2 := ccell hbW _ _ _ c2; have d3 := ccell hbW _ _ _ c3; have d4 := ccell hbW _ _ _ c4; have d5 := ccell hbW _ _ _ c5; have d6 := ccell hbW _ _ _ c6; clear hbW)
                    go_quiet (fail)
                    go_wp2
                    go_roundw
                    case rel => exact ⟨k + 1, by omega, by go_num, below_drewN hk1 _, hkt1.drewN _, hkf1.drewN _, HP⟩
                    case measure => simp [intOf]; omega
                · have b3 : (x.flow_sport == f.sport) = false := by simpa using g3
                  have HP := Lib.hid (fnd_on (by rw [HK.out]; exact HX.out) hst.out hlt hs0 (hit_no (by omega)))
                  go_wp2_with (go_at_call 68; refine (specHomeSlot_c f _).mono ?_; rintro e w1 ⟨rfl, hbW⟩; have hk1 : Below w.heap.size w w1 := ext_step (by go_grown) (by go_size) hbW; have hkt1 := hkt.ext hbW; have hkf1 := hkf.ext hbW; have t0 := hkt1.at_ 0 _ rfl; have hl1 := hkt1.lt; have hl2 := hkf1.lt; have r0 := hkf1.at_ 0 _ rfl; have r1 := hkf1.at_ 1 _ rfl; have r2 := hkf1.at_ 2 _ rfl; have r3 := hkf1.at_ 3 _ rfl; have r4 := hkf1.at_ 4 _ rfl; have d0 := ccell hbW _ _ _ c0; have d1 := ccell hbW _ _ _ c1; have d2 := ccell hbW _ _ _ c2; have d3 := ccell hbW _ _ _ c3; have d4 := ccell hbW _ _ _ c4; have d5 := ccell hbW _ _ _ c5; have d6 := ccell hbW _ _ _ c6; clear hbW)
                  go_quiet (fail)
                  go_wp2
                  go_roundw
                  case rel => exact ⟨k + 1, by omega, by go_num, below_drewN hk1 _, hkt1.drewN _, hkf1.drewN _, HP⟩
                  case measure => simp [intOf]; omega
              · have b2 : (x.flow_dip == f.dip) = false := by simpa using g2
                have HP := Lib.hid (fnd_on (by rw [HK.out]; exact HX.out) hst.out hlt hs0 (hit_no (by omega)))
                go_wp2_with (go_at_call 68; refine (specHomeSlot_c f _).mono ?_; rintro e w1 ⟨rfl, hbW⟩; have hk1 : Below w.heap.size w w1 := ext_step (by go_grown) (by go_size) hbW; have hkt1 := hkt.ext hbW; have hkf1 := hkf.ext hbW; have t0 := hkt1.at_ 0 _ rfl; have hl1 := hkt1.lt; have hl2 := hkf1.lt; have r0 := hkf1.at_ 0 _ rfl; have r1 := hkf1.at_ 1 _ rfl; have r2 := hkf1.at_ 2 _ rfl; have r3 := hkf1.at_ 3 _ rfl; have r4 := hkf1.at_ 4 _ rfl; have d0 := ccell hbW _ _ _ c0; have d1 := ccell hbW _ _ _ c1; have d2 := ccell hbW _ _ _ c2; have d3 := ccell hbW _ _ _ c3; have d4 := ccell hbW _ _ _ c4; have d5 := ccell hbW _ _ _ c5; have d6 := ccell hbW _ _ _ c6; clear hbW)
                go_quiet (fail)
                go_wp2
                go_roundw
                case rel => exact ⟨k + 1, by omega, by go_num, below_drewN hk1 _, hkt1.drewN _, hkf1.drewN _, HP⟩
                case measure => simp [intOf]; omega
            · have b1 : (x.flow_sip == f.sip) = false := by simpa using g1
              have HP := Lib.hid (fnd_on (by rw [HK.out]; exact HX.out) hst.out hlt hs0 (hit_no (by omega)))
              go_wp2_with (go_at_call 68; refine (specHomeSlot_c f _).mono ?_; rintro e w1 ⟨rfl, hbW⟩; have hk1 : Below w.heap.size w w1 := ext_step (by go_grown) (by go_size) hbW; have hkt1 := hkt.ext hbW; have hkf1 := hkf.ext hbW; have t0 := hkt1.at_ 0 _ rfl; have hl1 := hkt1.lt; have hl2 := hkf1.lt; have r0 := hkf1.at_ 0 _ rfl; have r1 := hkf1.at_ 1 _ rfl; have r2 := hkf1.at_ 2 _ rfl; have r3 := hkf1.at_ 3 _ rfl; have r4 := hkf1.at_ 4 _ rfl; have d0 := ccell hbW _ _ _ c0; have d1 := ccell hbW _ _ _ c1; have d2 := ccell hbW _ _ _ c2; have d3 := ccell hbW _ _ _ c3; have d4 := ccell hbW _ _ _ c4; have d5 := ccell hbW _ _ _ c5; have d6 := ccell hbW _ _ _ c6; clear hbW)
              go_quiet (fail)
              go_wp2
              go_roundw
              case rel => exact ⟨k + 1, by omega, by go_num, below_drewN hk1 _, hkt1.drewN _, hkf1.drewN _, HP⟩
              case measure => simp [intOf]; omega
          · have b0 : (x.flow_kind == f.kind) = false := by simpa using g0
            have HP := Lib.hid (fnd_on (by rw [HK.out]; exact HX.out) hst.out hlt hs0 (hit_no (by omega)))
            go_wp2_with (go_at_call 68; refine (specHomeSlot_c f _).mono ?_; rintro e w1 ⟨rfl, hbW⟩; have hk1 : Below w.heap.size w w1 := ext_step (by go_grown) (by go_size) hbW; have hkt1 := hkt.ext hbW; have hkf1 := hkf.ext hbW; have t0 := hkt1.at_ 0 _ rfl; have hl1 := hkt1.lt; have hl2 := hkf1.lt; have r0 := hkf1.at_ 0 _ rfl; have r1 := hkf1.at_ 1 _ rfl; have r2 := hkf1.at_ 2 _ rfl; have r3 := hkf1.at_ 3 _ rfl; have r4 := hkf1.at_ 4 _ rfl; have d0 := ccell hbW _ _ _ c0; have d1 := ccell hbW _ _ _ c1; have d2 := ccell hbW _ _ _ c2; have d3 := ccell hbW _ _ _ c3; have d4 := ccell hbW _ _ _ c4; have d5 := ccell hbW _ _ _ c5; have d6 := ccell hbW _ _ _ c6; clear hbW)
            go_quiet (fail)
            go_wp2
            go_roundw
            case rel => exact ⟨k + 1, by omega, by go_num, below_drewN hk1 _, hkt1.drewN _, hkf1.drewN _, HP⟩
            case measure => simp [intOf]; omega
    · have hk8 : k = 8 := by omega
      subst hk8
      have HP := Lib.hid (fnd_end hst.out)
      go_wp2
      go_ret
      exact ⟨ret_int HP.out.symm, hbw⟩
end Go.Proofs.Ytkfekgmdjemkbaa
