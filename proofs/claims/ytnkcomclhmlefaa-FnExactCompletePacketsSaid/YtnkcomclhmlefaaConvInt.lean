/- Contracts of the laws' helpers on numbers. -/
import Derived.Test.YtnkcomclhmlefaaRows2
import Derived.Test.YtnkcomclhmlefaaOpen
namespace Go.Proofs.Ytnkcomclhmlefaa
set_option linter.unusedSimpArgs false
set_option linter.unusedVariables false
open Go.RowKit Go.ChangeShapes Go.WideShapes
set_option maxHeartbeats 2000000 in
/-- Two slices that read as the same list are equal. -/
theorem eqIntS_c (A A' : Option Addr) (n c c' : Nat) (l : List Int) (w : World) (hn : l.length = n) (hm : n ≤ 140737488355328) (hr : Reads w w.heap.size 1 A n (l.flatMap (fun x : Int => [Value.int .i64 x]))) (hr' : Reads w w.heap.size 1 A' n (l.flatMap (fun x : Int => [Value.int .i64 x]))) :
    Calls Try.prog 12 #[.slice A n c, .slice A' n c'] w fun e w' => e = .returned (.bool true) ∧ Below w.heap.size w w' := by
  have HN := Lib.hid hn
  clear hn
  go_enter Try.func12, Try.ntmps12
  go_wp2
  go_loopw [5] (fun i wr => ∃ k : Nat, k ≤ n ∧ i = .int .i64 k ∧ Below w.heap.size w wr) (fun i _ => n - (intOf i).toNat)
  case atStart => exact ⟨0, Nat.zero_le _, rfl, Below.refl _ _⟩
  case round =>
    obtain ⟨k, hk, rfl, hbw⟩ := hrel
    have hsz := hbw.size
    by_cases hlt : k < n
    · obtain ⟨b, o, x, rfl, hb, hxx, hcx⟩ := hr.el (fun _ => rfl) (by decide) HN.out hlt
      have c0 := (hbw.cell (p := ⟨b, o + k, none⟩) hb).trans (by simpa using hcx 0 _ rfl)
      have HXx := Lib.hid hxx
      clear hxx hcx
      obtain ⟨b', o', y, rfl, hb', hxy, hcy⟩ := hr'.el (fun _ => rfl) (by decide) HN.out hlt
      have d0 := (hbw.cell (p := ⟨b', o' + k, none⟩) hb').trans (by simpa using hcy 0 _ rfl)
      have HXy := Lib.hid hxy
      clear hxy hcy
      obtain rfl : x = y := by
        have h1 := HXx.out
        rw [HXy.out] at h1
        injection h1 with h1
        exact h1.symm
      have l1 : (k : Int) < (n : Int) := by omega
      go_wp2_with fail
      go_quiet (fail)
      have hk1 : Below w.heap.size w (wr.drewN nq) := below_drewN hbw _
      go_wp2
      go_roundw
      case rel => exact ⟨k + 1, by omega, by go_num, hk1⟩
      case measure => simp [intOf]; omega
    · go_wp2
      go_ret
      exact ⟨rfl, hbw⟩
/-- What the laws write into an element's cells, from a number on. -/
def mkIntS (q : Int) : List Value := [.int .i64 (q)]
def marksIntS (n : Nat) (q : Int) : List Value := (List.range n).flatMap fun (i : Nat) => mkIntS (q + (i : Int) * 1)
set_option maxHeartbeats 4000000 in
/-- Every cell of a row of the caller's own is overwritten. -/
theorem markIntS_c (A : Option Addr) (n c base : Nat) (xs : List Value) (q : Int) (w : World) (hown : w.ownsRow base 3 1 (.slice A n c) n xs) (hq0 : 0 ≤ q) (hq1 : q ≤ 1000000000) (hm : n ≤ 4194304) :
    Calls Try.prog 14 #[.slice A n c, .int .i64 q] w fun e w' => e = .returned (.int .i64 (q + n * 1)) ∧ w'.ownsRow base 3 1 (.slice A n c) n (marksIntS n q) ∧ w.grownBy w' (Value.slice A n c).ownBlock := by
  rcases hown.2 with ⟨hv, hn⟩ | ⟨g, cap, cur, hv, hbg, hblk, hnc, hcm, hsz, htk⟩
  · injection hv with h1 h2 h3
    subst h1; subst h3; subst hn
    go_enter Try.func14, Try.ntmps14
    go_wp2
    go_loopw [1, 5] (fun q' i wr => q' = .int .i64 q ∧ i = .int .i64 0 ∧ wr = w) (fun _ _ _ => 0)
    case atStart => exact ⟨rfl, rfl, rfl⟩
    case round =>
      obtain ⟨rfl, rfl, rfl⟩ := hrel
      go_wp2
      go_ret
      exact ⟨ret_int (by omega), ⟨by simp [marksIntS], .inl ⟨rfl, rfl⟩⟩, World.grownBy.refl _ _⟩
  · injection hv with h1 h2 h3
    subst h1; subst h3
    have hlen := hown.1
    have hcl : cur.toList.length = c * 1 := by simpa using hsz
    have HB0 : Blk w g 3 cur.toList := hblk
    have HC0 := Lib.hid hcl
    have hblt := HB0.lt
    clear hblk hsz hcl htk hlen hown
    generalize cur.toList = cu at *
    go_enter Try.func14, Try.ntmps14
    go_wp2
    go_loopw [1, 5] (fun q' i wr => ∃ k : Nat, ∃ cs : List Value, k ≤ n ∧ q' = .int .i64 (q + (k : Int)) ∧ i = .int .i64 k ∧ w.grownBy wr (some g) ∧ Blk wr g 3 cs ∧ Hid (cs.length = c * 1) ∧ Hid (cs.take (k * 1) = ((List.range n).take k).flatMap fun (i : Nat) => mkIntS (q + (i : Int) * 1))) (fun _ i _ => n - (intOf i).toNat)
    case atStart => exact ⟨0, cu, Nat.zero_le _, by simp, rfl, World.grownBy.refl _ _, HB0, HC0, by simp [Hid]⟩
    case round =>
      obtain ⟨k, cs, hk, rfl, rfl, hgr, hbk, hcl, htk⟩ := hrel
      have hgl := hbk.lt
      have hgz := hgr.size
      by_cases hlt : k < n
      · have hr : (List.range n)[k]? = some k := by simp [hlt]
        have HR := Lib.hid hr
        clear hr
        obtain ⟨v0, g0⟩ := hbk.get (i := k) (by rw [hcl.out]; omega)
        have f0 := hbk.frozen (k)
        go_wp2
        go_roundw
        case rel =>
          refine ⟨k + 1, setsAt cs (k * 1) (mkIntS (q + (k : Int) * 1)), by omega, by go_num, by go_num, (only_setCell hgr (.inl rfl) _), ?_, by rw [Hid, setsAt_len]; exact hcl.out, ?_⟩
          · rw [Nat.mul_one, mkIntS, Int.mul_one]; exact (hbk.set_ _ _)
          · have h2 : c * 1 = c * 1 := rfl
            exact take_elem (cells := fun i : Nat => mkIntS (q + (i : Int) * 1)) (fun _ => rfl) HR.out hcl.out (by omega) htk.out
        case measure => simp [intOf]; omega
      · have hkn : k = n := by omega
        subst hkn
        go_wp2
        go_ret
        refine ⟨ret_int (by omega), ⟨?_, .inr ⟨g, c, cs.toArray, rfl, hbg, hbk, hnc, hcm, by simpa using hcl.out, ?_⟩⟩, hgr⟩
        · rw [marksIntS, flatMap_len _ 1 (fun _ => rfl)]; simp
        · have h1 := htk.out
          rw [show (List.range k).take k = List.range k from List.take_of_length_le (by simp)] at h1
          exact h1
set_option maxHeartbeats 4000000 in
/-- A row that holds the marks holds them. -/
theorem heldIntS_c (A : Option Addr) (n c : Nat) (q : Int) (w : World) (hr : Reads w w.heap.size 1 A n (marksIntS n q)) (hq0 : 0 ≤ q) (hq1 : q ≤ 1000000000) (hm : n ≤ 4194304) :
    Calls Try.prog 16 #[.slice A n c, .int .i64 q] w fun e w' => e = .returned (.int .i64 (q + n * 1)) ∧ Below w.heap.size w w' := by
  go_enter Try.func16, Try.ntmps16
  go_wp2
  go_loopw [1, 5] (fun q' i wr => ∃ k : Nat, k ≤ n ∧ q' = .int .i64 (q + (k : Int)) ∧ i = .int .i64 k ∧ Below w.heap.size w wr) (fun _ i _ => n - (intOf i).toNat)
  case atStart => exact ⟨0, Nat.zero_le _, by simp, rfl, Below.refl _ _⟩
  case round =>
    obtain ⟨k, hk, rfl, rfl, hbw⟩ := hrel
    have hsz := hbw.size
    by_cases hlt : k < n
    · obtain ⟨b, o, x, rfl, hb, hx, hc⟩ := Reads.el (cells := fun i : Nat => mkIntS (q + (i : Int) * 1)) (l := List.range n) hr (fun _ => rfl) (by decide) (by simp) hlt
      have hxk : k = x := by simpa [hlt] using hx
      subst hxk
      have c0 := (hbw.cell (p := ⟨b, o + k, none⟩) hb).trans (by simpa using hc 0 _ rfl)
      clear hx hc
      go_wp2
      go_roundw
      case rel => exact ⟨k + 1, by omega, by go_num, by go_num, by go_grown⟩
      case measure => simp [intOf]; omega
    · have hkn : k = n := by omega
      subst hkn
      go_wp2
      go_ret
      exact ⟨ret_int (by omega), hbw⟩
end Go.Proofs.Ytnkcomclhmlefaa
