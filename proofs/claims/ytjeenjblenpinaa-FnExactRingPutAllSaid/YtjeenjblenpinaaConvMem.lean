/- Contracts of the laws' helpers on memories. -/
import Derived.Test.YtjeenjblenpinaaConvStr
namespace Go.Proofs.Ytjeenjblenpinaa
set_option linter.unusedSimpArgs false
set_option linter.unusedVariables false
open Go.RowKit Go.ChangeShapes Go.WideShapes
set_option maxHeartbeats 1000000 in
theorem szMemory_c (A : Option Addr) (n c : Nat) (l : List ByteArray) (left : Int) (w : World) (h0 : 0 ≤ left) (h1 : left ≤ 1048576) (hn : l.length = n) (hm : n ≤ 9223372036854775807) (hr : Reads w w.heap.size 1 A n (l.flatMap fun x : ByteArray => [Value.string x])) (hs : ∀ x ∈ l, x.size ≤ maxLen) :
    Calls Try.prog 16 #[.agg #[.slice A n c], .int .i64 left] w fun e w' => e = .returned (.int .i64 (szI (left - n - totS l))) ∧ Below w.heap.size w w' := by
  cases hneg : decide (left - n - totS l < 0)
  · have h2 : ¬ (left - n - totS l < 0) := by simpa using hneg
    have h3 := szI_nn h2
    have H3 := Lib.hid h3
    clear h3 hneg
    go_enter Try.func16, Try.ntmps16
    go_wp2_with fail
    refine (szStringS_c _ _ _ l _ _ h0 h1 hn hm (hr.to ((Below.refl _ _).alloc (Nat.le_refl _) _)) hs).mono ?_
    rintro e w1 ⟨rfl, hb⟩
    have k1 : Below w.heap.size w w1 := ext_step (by go_grown) (by go_size) hb
    clear hb
    rw [H3.out]
    go_wp2
    go_ret
    exact ⟨ret_int H3.out.symm, k1⟩
  · have h2 : left - n - totS l < 0 := by simpa using hneg
    have h3 := szI_neg h2
    have H3 := Lib.hid h3
    clear h3 hneg
    go_enter Try.func16, Try.ntmps16
    go_wp2_with fail
    refine (szStringS_c _ _ _ l _ _ h0 h1 hn hm (hr.to ((Below.refl _ _).alloc (Nat.le_refl _) _)) hs).mono ?_
    rintro e w1 ⟨rfl, hb⟩
    have k1 : Below w.heap.size w w1 := ext_step (by go_grown) (by go_size) hb
    clear hb
    rw [H3.out]
    go_wp2
    go_ret
    exact ⟨ret_int H3.out.symm, k1⟩
set_option maxHeartbeats 1000000 in
theorem toMemory_c (A : Option Addr) (n c : Nat) (l : List ByteArray) (w : World) (hn : l.length = n) (hm : n ≤ 1048576) (hr : Reads w w.heap.size 1 A n (l.flatMap fun x : ByteArray => [Value.string x])) :
    Calls Try.prog 19 #[.agg #[.slice A n c]] w fun e w' => ∃ g, e = .returned (.agg #[.slice (some ⟨g, 0, none⟩) n n]) ∧ w.heap.size ≤ g ∧ Blk w' g 9 (l.flatMap fun x : ByteArray => [Value.string x]) ∧ Below w.heap.size w w' := by
  go_enter Try.func19, Try.ntmps19
  go_wp2_with fail
  refine (toStringS_c _ _ _ l _ hn hm (hr.to (by go_grown))).mono ?_
  rintro e w1 ⟨g, rfl, hg, hbk, hb⟩
  obtain ⟨d0, f0, z0⟩ := own_cell hb (b := w.heap.size + 1) (o := 0) (v := .slice none 0 0) (by simp [go_sem]) (by simp [go_sem])
  obtain ⟨d1, f1, z1⟩ := own_cell hb (b := w.heap.size + 1 + 1) (o := 0) (v := .slice none 0 0) (by simp [go_sem]) (by simp [go_sem])
  have k1 : Below w.heap.size w w1 := ext_step (by go_grown) (by go_size) hb
  simp only [World.size_alloc] at hg
  clear hb
  go_wp2
  refine bodyPost_ret (v := .agg #[.slice (some ⟨g, 0, none⟩) n n]) (by simp [results, Try.results19, go_sem, d0, d1]) rfl ?_
  exact ⟨g, rfl, by omega, by repeat (first | (with_reducible exact hbk) | refine Blk.far ?_ (by simp; omega) _), by go_grown⟩
set_option maxHeartbeats 1000000 in
theorem eqMemory_c (A A' : Option Addr) (n c c' : Nat) (l : List ByteArray) (w : World) (hn : l.length = n) (hm : n ≤ 140737488355328) (hr : Reads w w.heap.size 1 A n (l.flatMap fun x : ByteArray => [Value.string x])) (hr' : Reads w w.heap.size 1 A' n (l.flatMap fun x : ByteArray => [Value.string x])) :
    Calls Try.prog 22 #[.agg #[.slice A n c], .agg #[.slice A' n c']] w fun e w' => e = .returned (.bool true) ∧ Below w.heap.size w w' := by
  go_enter Try.func22, Try.ntmps22
  go_wp2_with fail
  refine (eqStringS_c _ _ _ _ _ l _ hn hm (hr.to (by go_grown)) (hr'.to (by go_grown))).mono ?_
  rintro e w1 ⟨rfl, hb⟩
  have k1 : Below w.heap.size w w1 := ext_step (by go_grown) (by go_size) hb
  clear hb
  go_wp2
  go_ret
  exact ⟨rfl, k1⟩
set_option maxHeartbeats 1000000 in
theorem markMemory_c (A : Option Addr) (n c base : Nat) (xs : List Value) (q : Int) (w : World) (hown : w.ownsRow base 9 1 (.slice A n c) n xs) (hq0 : 0 ≤ q) (hq1 : q ≤ 1000000000) (hm : n ≤ 4194304) :
    Calls Try.prog 26 #[.agg #[.slice A n c], .int .i64 q] w fun e w' => e = .returned (.int .i64 (q + n * 1)) ∧ w'.ownsRow base 9 1 (.slice A n c) n (marksStringS n q) ∧ w.grownBy w' (Value.slice A n c).ownBlock := by
  have hlt := hown.lt
  go_enter Try.func26, Try.ntmps26
  go_wp2_with fail
  refine (markStringS_c _ _ _ _ _ _ _ (hown.alloc _) hq0 hq1 hm).mono ?_
  rintro e w1 ⟨rfl, o1, hg⟩
  have hgo := grown_alloc hg
  clear hg
  go_wp2
  go_ret
  exact ⟨ret_int (by omega), o1, hgo⟩
set_option maxHeartbeats 1000000 in
theorem heldMemory_c (A : Option Addr) (n c : Nat) (q : Int) (w : World) (hr : Reads w w.heap.size 1 A n (marksStringS n q)) (hq0 : 0 ≤ q) (hq1 : q ≤ 1000000000) (hm : n ≤ 4194304) :
    Calls Try.prog 27 #[.agg #[.slice A n c], .int .i64 q] w fun e w' => e = .returned (.int .i64 (q + n * 1)) ∧ Below w.heap.size w w' := by
  go_enter Try.func27, Try.ntmps27
  go_wp2_with fail
  refine (heldStringS_c _ _ _ _ _ (hr.to (by go_grown)) hq0 hq1 hm).mono ?_
  rintro e w1 ⟨rfl, hb⟩
  have k1 : Below w.heap.size w w1 := ext_step (by go_grown) (by go_size) hb
  clear hb
  go_wp2
  go_ret
  exact ⟨ret_int (by omega), k1⟩
end Go.Proofs.Ytjeenjblenpinaa
