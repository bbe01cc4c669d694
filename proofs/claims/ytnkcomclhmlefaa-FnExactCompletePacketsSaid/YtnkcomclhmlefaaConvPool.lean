/- Contracts of the laws' helpers on pools. -/
import Derived.Test.YtnkcomclhmlefaaConvInt
import Derived.Test.YtnkcomclhmlefaaConvIntT
namespace Go.Proofs.Ytnkcomclhmlefaa
set_option linter.unusedSimpArgs false
set_option linter.unusedVariables false
open Go.RowKit Go.ChangeShapes Go.WideShapes
set_option maxHeartbeats 1000000 in
theorem szPool_c (base size count : Int) (A : Option Addr) (n c : Nat) (left : Int) (w : World) (h0 : 0 ≤ left) (h1 : left ≤ 1048576) (hm : n ≤ 9223372036854775807) :
    Calls Try.prog 17 #[.agg #[.int .i64 base, .int .i64 size, .int .i64 count, .slice A n c], .int .i64 left] w fun e w' => e = .returned (.int .i64 (szI (left - n))) ∧ Below w.heap.size w w' := by
  cases hneg : decide (left - n < 0)
  · have h2 : ¬ (left - n < 0) := by simpa using hneg
    have H3 := Lib.hid (szI_nn h2)
    have h4 : (if left - (n : Int) < 0 then (-1 : Int) else left - n) = left - n := if_neg h2
    have H4 := Lib.hid h4
    clear h4 hneg
    go_enter Try.func17, Try.ntmps17
    go_wp2_with fail
    refine (szIntS_c _ _ _ _ _ h0 h1 hm).mono ?_
    rintro e w1 ⟨rfl, rfl⟩
    rw [H4.out]
    go_wp2
    go_ret
    exact ⟨ret_int H3.out.symm, by go_grown⟩
  · have h2 : left - n < 0 := by simpa using hneg
    have H3 := Lib.hid (szI_neg h2)
    have h4 : (if left - (n : Int) < 0 then (-1 : Int) else left - n) = -1 := if_pos h2
    have H4 := Lib.hid h4
    clear h4 hneg
    go_enter Try.func17, Try.ntmps17
    go_wp2_with fail
    refine (szIntS_c _ _ _ _ _ h0 h1 hm).mono ?_
    rintro e w1 ⟨rfl, rfl⟩
    rw [H4.out]
    go_wp2
    go_ret
    exact ⟨ret_int H3.out.symm, by go_grown⟩
set_option maxHeartbeats 2000000 in
theorem toPool_c (base size count : Int) (A : Option Addr) (n c : Nat) (l : List Int) (w : World) (hn : l.length = n) (hm : n ≤ 1048576) (hr : Reads w w.heap.size 1 A n (l.flatMap (fun x : Int => [Value.int .i64 x]))) :
    Calls Try.prog 24 #[.agg #[.int .i64 base, .int .i64 size, .int .i64 count, .slice A n c]] w fun e w' => ∃ g, e = .returned (.agg #[.int .i64 base, .int .i64 size, .int .i64 count, .slice (some ⟨g, 0, none⟩) n n]) ∧ w.heap.size ≤ g ∧ Blk w' g 3 (l.flatMap (fun x : Int => [Value.int .i64 x])) ∧ Below w.heap.size w w' := by
  go_enter Try.func24, Try.ntmps24
  go_wp2_with fail
  refine (toIntS_c _ _ _ l _ hn hm (hr.to (by go_grown))).mono ?_
  rintro e w1 ⟨g, rfl, hg, hbk, hb⟩
  obtain ⟨d0, df0, dz0⟩ := own_cell hb (b := w.heap.size + 1) (o := 0) (v := .int .i64 0) (by simp [go_sem]) (by simp [go_sem])
  obtain ⟨d1, df1, dz1⟩ := own_cell hb (b := w.heap.size + 1) (o := 1) (v := .int .i64 0) (by simp [go_sem]) (by simp [go_sem])
  obtain ⟨d2, df2, dz2⟩ := own_cell hb (b := w.heap.size + 1) (o := 2) (v := .int .i64 0) (by simp [go_sem]) (by simp [go_sem])
  obtain ⟨d3, df3, dz3⟩ := own_cell hb (b := w.heap.size + 1) (o := 3) (v := .slice none 0 0) (by simp [go_sem]) (by simp [go_sem])
  obtain ⟨e0, ef0, ez0⟩ := own_cell hb (b := w.heap.size + 1 + 1) (o := 0) (v := .int .i64 base) (by simp [go_sem]) (by simp [go_sem])
  obtain ⟨e1, ef1, ez1⟩ := own_cell hb (b := w.heap.size + 1 + 1) (o := 1) (v := .int .i64 size) (by simp [go_sem]) (by simp [go_sem])
  obtain ⟨e2, ef2, ez2⟩ := own_cell hb (b := w.heap.size + 1 + 1) (o := 2) (v := .int .i64 count) (by simp [go_sem]) (by simp [go_sem])
  obtain ⟨e3, ef3, ez3⟩ := own_cell hb (b := w.heap.size + 1 + 1) (o := 3) (v := .slice none 0 0) (by simp [go_sem]) (by simp [go_sem])
  have k1 : Below w.heap.size w w1 := ext_step (by go_grown) (by go_size) hb
  simp only [World.size_alloc, World.size_setCell] at hg
  clear hb
  go_wp2
  refine bodyPost_ret (v := .agg #[.int .i64 base, .int .i64 size, .int .i64 count, .slice (some ⟨g, 0, none⟩) n n]) (by simp [results, Try.results24, go_sem, d0, d1, d2, d3, e0, e1, e2, e3]) rfl ?_
  exact ⟨g, rfl, by omega, by repeat (first | (with_reducible exact hbk) | refine Blk.far ?_ (by simp; omega) _), by go_grown⟩
set_option maxHeartbeats 1000000 in
theorem eqPool_c (base size count : Int) (A A' : Option Addr) (n c c' : Nat) (l : List Int) (w : World) (hn : l.length = n) (hm : n ≤ 140737488355328) (hr : Reads w w.heap.size 1 A n (l.flatMap (fun x : Int => [Value.int .i64 x]))) (hr' : Reads w w.heap.size 1 A' n (l.flatMap (fun x : Int => [Value.int .i64 x]))) :
    Calls Try.prog 31 #[.agg #[.int .i64 base, .int .i64 size, .int .i64 count, .slice A n c], .agg #[.int .i64 base, .int .i64 size, .int .i64 count, .slice A' n c']] w fun e w' => e = .returned (.bool true) ∧ Below w.heap.size w w' := by
  go_enter Try.func31, Try.ntmps31
  go_wp2_with fail
  refine (eqIntS_c _ _ _ _ _ l _ hn hm (hr.to (by go_grown)) (hr'.to (by go_grown))).mono ?_
  rintro e w1 ⟨rfl, hb⟩
  have k1 : Below w.heap.size w w1 := ext_step (by go_grown) (by go_size) hb
  clear hb
  go_wp2
  go_ret
  exact ⟨rfl, k1⟩
set_option maxHeartbeats 1000000 in
theorem markPool_c (base size count : Int) (A : Option Addr) (n c bas : Nat) (xs : List Value) (q : Int) (w : World) (hown : w.ownsRow bas 3 1 (.slice A n c) n xs) (hq0 : 0 ≤ q) (hq1 : q ≤ 1000000000) (hm : n ≤ 4194304) :
    Calls Try.prog 36 #[.agg #[.int .i64 base, .int .i64 size, .int .i64 count, .slice A n c], .int .i64 q] w fun e w' => e = .returned (.int .i64 (q + n * 1)) ∧ w'.ownsRow bas 3 1 (.slice A n c) n (marksIntS n q) ∧ w.grownBy w' (Value.slice A n c).ownBlock := by
  have hlt := hown.lt
  go_enter Try.func36, Try.ntmps36
  go_wp2_with fail
  refine (markIntS_c _ _ _ _ _ _ _ (hown.alloc _) hq0 hq1 hm).mono ?_
  rintro e w1 ⟨rfl, o1, hg⟩
  have hgo := grown_alloc hg
  clear hg
  go_wp2
  go_ret
  exact ⟨ret_int (by omega), o1, hgo⟩
set_option maxHeartbeats 1000000 in
theorem heldPool_c (base size count : Int) (A : Option Addr) (n c : Nat) (q : Int) (w : World) (hr : Reads w w.heap.size 1 A n (marksIntS n q)) (hq0 : 0 ≤ q) (hq1 : q ≤ 1000000000) (hm : n ≤ 4194304) :
    Calls Try.prog 38 #[.agg #[.int .i64 base, .int .i64 size, .int .i64 count, .slice A n c], .int .i64 q] w fun e w' => e = .returned (.int .i64 (q + n * 1)) ∧ Below w.heap.size w w' := by
  go_enter Try.func38, Try.ntmps38
  go_wp2_with fail
  refine (heldIntS_c _ _ _ _ _ (hr.to (by go_grown)) hq0 hq1 hm).mono ?_
  rintro e w1 ⟨rfl, hb⟩
  have k1 : Below w.heap.size w w1 := ext_step (by go_grown) (by go_size) hb
  clear hb
  go_wp2
  go_ret
  exact ⟨ret_int (by omega), k1⟩
end Go.Proofs.Ytnkcomclhmlefaa
