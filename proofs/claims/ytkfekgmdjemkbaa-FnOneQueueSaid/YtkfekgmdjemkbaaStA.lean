/- Contracts: modulo, HomeSlot, RuleOk, samePrefix: impl and spec. -/
import Derived.Test.YtkfekgmdjemkbaaStP
import Derived.Test.YtkfekgmdjemkbaaRows2
namespace Go.Proofs.Ytkfekgmdjemkbaa
set_option linter.unusedSimpArgs false
set_option linter.unusedVariables false
open Go.RowKit Go.ChangeShapes Go.WideShapes
theorem bits_and7 (a : Int) : bits .and .i64 a 7 = a % 8 := by
  show IntKind.i64.wrap ((BitVec.ofInt 64 a &&& BitVec.ofInt 64 7).toNat : Int) = _
  have h : (BitVec.ofInt 64 a &&& BitVec.ofInt 64 7).toNat = (a % 8).toNat := by
    rw [BitVec.toNat_and, BitVec.toNat_ofInt, show (BitVec.ofInt 64 7).toNat = 2 ^ 3 - 1 from rfl, Nat.and_two_pow_sub_one_eq_mod]
    omega
  rw [h, IntWalk.i64_in _ ⟨by omega, by omega⟩]
  omega
theorem tmod8 (a : Int) : (if Int.tmod a 8 < 0 then Int.tmod a 8 + 8 else Int.tmod a 8) = a % 8 := by
  rw [Int.tmod_eq_emod]
  have : (8 : Int).natAbs = 8 := rfl
  rw [this]
  split <;> split <;> omega
/-- The fields of a flow, and their sum modulo 8 up to one. -/
def fvals (f : Flow) : List Int := [f.kind, f.sip, f.dip, f.sport, f.dport]
def hsum (f : Flow) : Nat → Int
  | 0 => 0
  | k + 1 => hsum f k + ((fvals f)[k]?.getD 0) % 8
theorem hsum_bd (f : Flow) : ∀ k, 0 ≤ hsum f k ∧ hsum f k ≤ 7 * k
  | 0 => ⟨Int.le_refl _, Int.le_refl _⟩
  | k + 1 => by have := hsum_bd f k; rw [hsum]; omega
theorem home_sum (f : Flow) : hsum f 5 % 8 = (homeI f : Int) := by
  simp only [hsum, fvals, homeI, List.getElem?_cons_zero, List.getElem?_cons_succ, Option.getD_some]
  omega
theorem fvals_get (f : Flow) {k : Nat} (h : k < 5) : ∃ x, (fvals f)[k]? = some x ∧ hsum f (k + 1) = hsum f k + x % 8 := by
  have : k < (fvals f).length := h
  exact ⟨_, List.getElem?_eq_getElem this, by rw [hsum, List.getElem?_eq_getElem this]; rfl⟩
set_option maxHeartbeats 1000000 in
theorem modulo8_c (a : Int) (w : World) :
    Calls Try.prog 80 #[.int .i64 a, .int .i64 8] w fun e w' => e = .returned (.int .i64 (a % 8)) ∧ w = w' := by
  have h := tmod8 a
  by_cases hn : Int.tmod a 8 < 0
  · rw [if_pos hn] at h
    go_enter Try.func80, Try.ntmps80
    go_wp2
    go_ret
    exact ⟨ret_int (by omega), rfl⟩
  · rw [if_neg hn] at h
    go_enter Try.func80, Try.ntmps80
    go_wp2
    go_ret
    exact ⟨ret_int (by omega), rfl⟩
set_option maxHeartbeats 2000000 in
theorem implHomeSlot_c (f : Flow) (w : World) :
    Calls Try.prog 73 #[.agg #[.int .i64 f.kind, .int .i64 f.sip, .int .i64 f.dip, .int .i64 f.sport, .int .i64 f.dport]] w fun e w' => e = .returned (.int .i64 (homeI f)) ∧ Below w.heap.size w w' := by
  go_enter Try.func73, Try.ntmps73
  go_wp2
  go_loopw [3, 18] (fun n i wr => ∃ k : Nat, k ≤ 5 ∧ i = .int .i64 k ∧ n = .int .i64 (hsum f k) ∧ Below w.heap.size w wr ∧ Blk wr (w.heap.size + 1) 3 ((fvals f).map fun x : Int => Value.int .i64 x)) (fun _ i _ => 5 - (intOf i).toNat)
  case atStart => exact ⟨0, by decide, rfl, rfl, by go_grown, by simpa [fvals] using Blk.new (w.alloc (.cells #[.int .i64 f.kind, .int .i64 f.sip, .int .i64 f.dip, .int .i64 f.sport, .int .i64 f.dport] 44)) 3 ((fvals f).map fun x : Int => Value.int .i64 x)⟩
  case round =>
    obtain ⟨k, hk, rfl, rfl, hbw, hbk⟩ := hrel
    have hsz := hbw.size
    have hlt := hbk.lt
    by_cases hl : k < 5
    · obtain ⟨x, hx, hs⟩ := fvals_get f hl
      have c0 : wr.cell? ⟨w.heap.size + 1, k, none⟩ = some (.int .i64 x) := (hbk.cell k).trans (by rw [List.getElem?_map, hx]; rfl)
      have hb0 := hsum_bd f k
      have HS := Lib.hid hs
      clear hs
      go_wp2_with (go_at_call 80; refine (modulo8_c _ _).mono ?_; rintro e w1 ⟨rfl, rfl⟩)
      go_roundw
      case rel => exact ⟨k + 1, by omega, by go_num, by rw [HS.out], hbw, hbk⟩
      case measure => simp [intOf]; omega
    · have hk5 : k = 5 := by omega
      subst hk5
      have hb0 := hsum_bd f 5
      have HS := Lib.hid (home_sum f)
      go_wp2
      go_ret
      exact ⟨ret_int (by have := HS.out; omega), hbw⟩
set_option maxHeartbeats 2000000 in
theorem specHomeSlot_c (f : Flow) (w : World) :
    Calls Try.prog 68 #[.agg #[.int .i64 f.kind, .int .i64 f.sip, .int .i64 f.dip, .int .i64 f.sport, .int .i64 f.dport]] w fun e w' => e = .returned (.int .i64 (homeI f)) ∧ Below w.heap.size w w' := by
  go_enter Try.func68, Try.ntmps68
  go_wp2
  go_loopw [3, 5] (fun n i wr => ∃ k : Nat, k ≤ 5 ∧ i = .int .i64 k ∧ n = .int .i64 (hsum f k) ∧ Below w.heap.size w wr ∧ Blk wr (w.heap.size + 1) 3 ((fvals f).map fun x : Int => Value.int .i64 x)) (fun _ i _ => 5 - (intOf i).toNat)
  case atStart => exact ⟨0, by decide, rfl, rfl, by go_grown, by simpa [fvals] using Blk.new (w.alloc (.cells #[.int .i64 f.kind, .int .i64 f.sip, .int .i64 f.dip, .int .i64 f.sport, .int .i64 f.dport] 44)) 3 ((fvals f).map fun x : Int => Value.int .i64 x)⟩
  case round =>
    obtain ⟨k, hk, rfl, rfl, hbw, hbk⟩ := hrel
    have hsz := hbw.size
    have hlt := hbk.lt
    by_cases hl : k < 5
    · obtain ⟨x, hx, hs⟩ := fvals_get f hl
      have c0 : wr.cell? ⟨w.heap.size + 1, k, none⟩ = some (.int .i64 x) := (hbk.cell k).trans (by rw [List.getElem?_map, hx]; rfl)
      have hb0 := hsum_bd f k
      have ha := bits_and7 x
      have HS := Lib.hid hs
      clear hs
      go_wp2
      go_roundw
      case rel => exact ⟨k + 1, by omega, by go_num, by rw [HS.out], hbw, hbk⟩
      case measure => simp [intOf]; omega
    · have hk5 : k = 5 := by omega
      subst hk5
      have hb0 := hsum_bd f 5
      have HS := Lib.hid (home_sum f)
      go_wp2
      go_ret
      exact ⟨ret_int (by have := HS.out; omega), hbw⟩
set_option maxHeartbeats 4000000 in
theorem implRuleOk_c (r : Rule) (w : World) :
    Calls Try.prog 51 #[.agg #[.int .i64 r.prio, .int .i64 r.kind, .int .i64 r.sip, .int .i64 r.sbits, .int .i64 r.fport, .int .i64 r.lport, .int .i64 r.vlan, .int .i64 r.action, .int .i64 r.queue]] w fun e w' => e = .returned (.bool (ruleB r)) ∧ Below w.heap.size w w' := by
  go_enter Try.func51, Try.ntmps51
  go_wp2_with (go_at_call 28; refine (between_c _ _ _ _).mono ?_; rintro e w' ⟨rfl, rfl⟩)
  all_goals ((try simp only [beq_iff_eq, beq_eq_false_iff_ne, ne_eq, Bool.not_eq_true', Bool.not_eq_false'] at *); go_ret; exact ⟨ret_bool (by unfold ruleB; first | (simp [*, Bool.beq_eq_decide_eq]; done) | (simp [*, Bool.beq_eq_decide_eq]; omega) | (cases hv : inB r.vlan (-2) 4095 <;> (try simp [hv] at *) <;> first | (simp [*, Bool.beq_eq_decide_eq]; done) | (simp [*, Bool.beq_eq_decide_eq]; omega) | omega)), by go_grown⟩)
set_option maxHeartbeats 4000000 in
theorem specRuleOk_c (r : Rule) (w : World) :
    Calls Try.prog 56 #[.agg #[.int .i64 r.prio, .int .i64 r.kind, .int .i64 r.sip, .int .i64 r.sbits, .int .i64 r.fport, .int .i64 r.lport, .int .i64 r.vlan, .int .i64 r.action, .int .i64 r.queue]] w fun e w' => e = .returned (.bool (ruleB r)) ∧ Below w.heap.size w w' := by
  go_enter Try.func56, Try.ntmps56
  go_wp2_with (go_at_call 60; refine (l01In_c _ _ _ _).mono ?_; rintro e w' ⟨rfl, rfl⟩)
  all_goals ((try simp only [beq_iff_eq, beq_eq_false_iff_ne, ne_eq, Bool.not_eq_true', Bool.not_eq_false'] at *); go_ret; exact ⟨ret_bool (by unfold ruleB; first | (simp [*, Bool.beq_eq_decide_eq]; done) | (simp [*, Bool.beq_eq_decide_eq]; omega) | (cases hv : inB r.vlan (-2) 4095 <;> (try simp [hv] at *) <;> first | (simp [*, Bool.beq_eq_decide_eq]; done) | (simp [*, Bool.beq_eq_decide_eq]; omega) | omega)), by go_grown⟩)
end Go.Proofs.Ytkfekgmdjemkbaa
