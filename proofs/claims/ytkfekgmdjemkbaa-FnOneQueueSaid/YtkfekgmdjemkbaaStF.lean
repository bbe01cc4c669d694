/- Contracts on flow tables: slotOf, wayOf, l13Find: impl and spec. -/
import Derived.Test.YtkfekgmdjemkbaaStE
import Derived.Test.YtkfekgmdjemkbaaStA
namespace Go.Proofs.Ytkfekgmdjemkbaa
set_option linter.unusedSimpArgs false
set_option linter.unusedVariables false
open Go.RowKit Go.ChangeShapes Go.WideShapes
theorem hit_no {f : Flow} {x : Slot} (h : ¬ (x.state = 1 ∧ x.flow_kind = f.kind ∧ x.flow_sip = f.sip ∧ x.flow_dip = f.dip ∧ x.flow_sport = f.sport ∧ x.flow_dport = f.dport)) : hitF f x = false := by
  cases e : hitF f x
  · rfl
  · obtain ⟨h1, h2⟩ := hit_t e
    exact absurd ⟨h1, (flow_iff x.flow f).2 h2⟩ h
theorem hit_yes {f : Flow} {x : Slot} (h : x.state = 1 ∧ x.flow_kind = f.kind ∧ x.flow_sip = f.sip ∧ x.flow_dip = f.dip ∧ x.flow_sport = f.sport ∧ x.flow_dport = f.dport) : hitF f x = true := by
  have h2 : x.flow = f := (flow_iff x.flow f).1 h.2
  simp [hitF, h.1, h2]
set_option maxHeartbeats 2000000 in
theorem slotOf_c (A : Option Addr) (n c : Nat) (l : List Slot) (f : Flow) (w : World) (hn : l.length = n) (hm : n ≤ 1048576) (hr : Reads w w.heap.size 7 A n (l.flatMap Slot.cells)) :
    Calls Try.prog 49 #[.agg #[.slice A n c], .agg #[.int .i64 f.kind, .int .i64 f.sip, .int .i64 f.dip, .int .i64 f.sport, .int .i64 f.dport]] w fun e w' => e = .returned (.int .i64 (soI l f)) ∧ Below w.heap.size w w' := by
  have HN := Lib.hid hn
  clear hn
  have hk0 : Blk ((w.alloc (.cells #[.slice A n c] 27)).alloc (.cells #[.int .i64 f.kind, .int .i64 f.sip, .int .i64 f.dip, .int .i64 f.sport, .int .i64 f.dport] 44)) (w.heap.size + 1) 44 [.int .i64 f.kind, .int .i64 f.sip, .int .i64 f.dip, .int .i64 f.sport, .int .i64 f.dport] := by simpa using Blk.new (w.alloc (.cells #[.slice A n c] 27)) 44 [.int .i64 f.kind, .int .i64 f.sip, .int .i64 f.dip, .int .i64 f.sport, .int .i64 f.dport]
  go_enter Try.func49, Try.ntmps49
  go_wp2
  go_loopw [10] (fun i wr => ∃ k : Nat, k ≤ n ∧ i = .int .i64 k ∧ Below w.heap.size w wr ∧ Blk wr (w.heap.size + 1) 44 [.int .i64 f.kind, .int .i64 f.sip, .int .i64 f.dip, .int .i64 f.sport, .int .i64 f.dport] ∧ Hid ((l.take k).all (fun y => !hitF f y) = true)) (fun i _ => n - (intOf i).toNat)
  case atStart => exact ⟨0, Nat.zero_le _, rfl, by go_grown, hk0, rfl⟩
  case round =>
    obtain ⟨k, hk, rfl, hbw, hkf, hall⟩ := hrel
    have hsz := hbw.size
    have hfl := hkf.lt
    have q0 := hkf.at_ 0 _ rfl
    have q1 := hkf.at_ 1 _ rfl
    have q2 := hkf.at_ 2 _ rfl
    have q3 := hkf.at_ 3 _ rfl
    have q4 := hkf.at_ 4 _ rfl
    by_cases hlt : k < n
    · obtain ⟨b, o, x, rfl, hb, hxx, hcx⟩ := hr.el (fun _ => rfl) (by decide) HN.out hlt
      have c0 := (hbw.cell (p := ⟨b, o + k * 7, none⟩) hb).trans (by simpa using hcx 0 _ rfl)
      have c1 := (hbw.cell (p := ⟨b, o + k * 7 + 1, none⟩) hb).trans (by simpa using hcx 1 _ rfl)
      have c2 := (hbw.cell (p := ⟨b, o + k * 7 + 2, none⟩) hb).trans (by simpa using hcx 2 _ rfl)
      have c3 := (hbw.cell (p := ⟨b, o + k * 7 + 3, none⟩) hb).trans (by simpa using hcx 3 _ rfl)
      have c4 := (hbw.cell (p := ⟨b, o + k * 7 + 4, none⟩) hb).trans (by simpa using hcx 4 _ rfl)
      have c5 := (hbw.cell (p := ⟨b, o + k * 7 + 5, none⟩) hb).trans (by simpa using hcx 5 _ rfl)
      have c6 := (hbw.cell (p := ⟨b, o + k * 7 + 6, none⟩) hb).trans (by simpa using hcx 6 _ rfl)
      have HXx := Lib.hid hxx
      clear hxx hcx
      cases e1 : (x.state == 1)
      · have he1 : ¬ x.state = 1 := by simpa using e1
        go_wp2
        go_roundw
        case rel => refine ⟨k + 1, by omega, by go_num, by go_grown, hkf.alloc _, Lib.hid (all_take (p := fun y => !hitF f y) hall.out HXx.out (by rw [hit_no (by omega)]; rfl))⟩
        case measure => simp [intOf]; omega
      · have he1 : x.state = 1 := by simpa using e1
        have hno := fun h : ¬ (x.state = 1 ∧ x.flow_kind = f.kind ∧ x.flow_sip = f.sip ∧ x.flow_dip = f.dip ∧ x.flow_sport = f.sport ∧ x.flow_dport = f.dport) => Lib.hid (all_take (p := fun y => !hitF f y) hall.out HXx.out (by rw [hit_no h]; rfl))
        have hyes := fun h : x.state = 1 ∧ x.flow_kind = f.kind ∧ x.flow_sip = f.sip ∧ x.flow_dip = f.dip ∧ x.flow_sport = f.sport ∧ x.flow_dport = f.dport => Lib.hid (soI_at hall.out HXx.out (hit_yes h))
        by_cases g : x.flow_kind = f.kind ∧ x.flow_sip = f.sip ∧ x.flow_dip = f.dip ∧ x.flow_sport = f.sport ∧ x.flow_dport = f.dport
        · have HP := hyes ⟨he1, g⟩
          obtain ⟨g1, g2, g3, g4, g5⟩ := g
          clear hno hyes
          go_wp2
          go_ret
          exact ⟨ret_int HP.out.symm, by go_grown⟩
        · have HP := hno (fun h => g h.2)
          clear hno hyes
          have HG := Lib.hid g
          clear g
          go_wp2
          all_goals first
            | (go_roundw
               · exact ⟨k + 1, by omega, by go_num, by go_grown, hkf.alloc _, HP⟩
               · simp [intOf]; omega)
            | (exact absurd (by omega) HG.out)
            | (exact absurd (And.intro (by assumption) (And.intro (by assumption) (And.intro (by assumption) (And.intro (by assumption) (by assumption))))) HG.out)
    · have hp := hall.out
      rw [take_all HN.out hlt] at hp
      have HP := Lib.hid (soI_none hp)
      clear hp
      go_wp2
      go_ret
      exact ⟨ret_int HP.out.symm, hbw⟩
end Go.Proofs.Ytkfekgmdjemkbaa
