/- What a reading of a []byte gives. -/
import Derived.Test.YtkfekgmdjemkbaaOpen
import Derived.Test.YtkfekgmdjemkbaaRows2
namespace Go.Proofs.Ytkfekgmdjemkbaa
section
set_option linter.unusedSimpArgs false
set_option linter.unusedVariables false
open Go.RowKit Go.ChangeShapes Go.WideShapes
variable {H : Type} {enc : TypeId × Value → H} {w : World} {base : Nat} {spare : Nat → Bool} {held : Bool}
theorem cells_u8 : Try.prog.cellsOf 5 = 1 := by kernel_rfl
def SlBytes (w : World) (A : Option Addr) (n c : Nat) (l : List Int) : Prop := SlOf (fun x : Int => [Value.int .u8 x]) 1 w A n c l ∧ ∀ x ∈ l, 0 ≤ x ∧ x ≤ 255
theorem read_slbytes {fuel : Nat} {cs : List Value} {x : DataW H × List MemPlace} (h : DataW.trod enc Try.prog w base spare held fuel 22 cs = some x) :
    ∃ (A : Option Addr) (n c : Nat) (l : List Int), cs = [.slice A n c] ∧ SlBytes w A n c l := by
  exact read_slOf Try.underlying22 cells_u8 (fun x : Int => [Value.int .u8 x]) (fun x => 0 ≤ x ∧ x ≤ 255) (fun _ => rfl) (by decide) (fun h => by
    obtain ⟨n, e, _, wn⟩ := DataW.trod_int Try.underlying5 h
    exact ⟨n, e, by simp [Lit.wf, IntKind.min, IntKind.max, IntKind.signed, IntKind.bits] at wn; omega⟩) h
end
section
set_option linter.unusedSimpArgs false
set_option linter.unusedVariables false
open Go.RowKit Go.ChangeShapes Go.WideShapes
/-- A byte that a law takes out of its code. -/
def atI (l : List Int) (i : Nat) : Int := if l.length = 0 then 0 else l.getD ((i * 5 + 1) % l.length) 0
theorem atI_bd {l : List Int} (h : ∀ x ∈ l, 0 ≤ x ∧ x ≤ 255) (i : Nat) : 0 ≤ atI l i ∧ atI l i ≤ 255 := by
  unfold atI
  split
  · omega
  · rename_i hl
    have hlt := Nat.mod_lt (i * 5 + 1) (Nat.pos_of_ne_zero hl)
    rw [List.getD_eq_getElem?_getD, List.getElem?_eq_getElem hlt]
    exact h _ (List.getElem_mem hlt)
set_option maxHeartbeats 1000000 in
theorem big_c (A : Option Addr) (n c : Nat) (w : World) :
    Calls Try.prog 5 #[.slice A n c] w fun e w' => e = .returned (.bool (decide ((1048576 : Int) < n))) ∧ w = w' := by
  go_enter Try.func5, Try.ntmps5
  go_wp2
  go_ret
  exact ⟨rfl, rfl⟩
set_option maxHeartbeats 1000000 in
theorem at_q (A : Option Addr) (n c : Nat) (l : List Int) (i : Nat) (w : World) (hi : i ≤ 100000) (hn : l.length = n) (hm : n ≤ 9223372036854775807) (hr : Reads w w.heap.size 1 A n (l.flatMap fun x : Int => [Value.int .u8 x])) (hb : ∀ x ∈ l, 0 ≤ x ∧ x ≤ 255) :
    Calls Try.prog 12 #[.slice A n c, .int .i64 i] w fun e w' => e = .returned (.int .i64 (atI l i)) ∧ w = w' := by
  by_cases h0 : n = 0
  · subst h0
    go_enter Try.func12, Try.ntmps12
    go_wp2
    go_ret
    exact ⟨ret_int (by simp [atI, hn]), rfl⟩
  · have hlt := Nat.mod_lt (i * 5 + 1) (Nat.pos_of_ne_zero h0)
    obtain ⟨b, o, x, rfl, hbb, hx, hc⟩ := hr.el (fun _ => rfl) (by decide) hn hlt
    have c0 : w.cell? ⟨b, o + (i * 5 + 1) % n, none⟩ = some (.int .u8 x) := by simpa using hc 0 _ rfl
    have hxx := hb x (List.mem_of_getElem? hx)
    have hfin : atI l i = x := by
      unfold atI
      rw [if_neg (by omega), hn, List.getD_eq_getElem?_getD, hx]; rfl
    have HF := Lib.hid hfin
    clear hfin hx hc hn hb hr
    have hne : ((n : Int) == 0) = false := by simp; omega
    have m1 := Int.emod_nonneg ((i : Int) * 5 + 1) (show (n : Int) ≠ 0 by omega)
    have m2 := Int.emod_lt_of_pos ((i : Int) * 5 + 1) (show 0 < (n : Int) by omega)
    obtain ⟨x1, x2⟩ := hxx
    go_enter Try.func12, Try.ntmps12
    go_wp2
    go_ret
    exact ⟨ret_int HF.out.symm, rfl⟩
theorem at_c (A : Option Addr) (n c : Nat) (l : List Int) (i : Nat) (w : World) (hi : i ≤ 100000) (hn : l.length = n) (hm : n ≤ 9223372036854775807) (hr : Reads w w.heap.size 1 A n (l.flatMap fun x : Int => [Value.int .u8 x])) (hb : ∀ x ∈ l, 0 ≤ x ∧ x ≤ 255) :
    Calls Try.prog 12 #[.slice A n c, .int .i64 i] w fun e w' => e = .returned (.int .i64 (atI l i)) ∧ Below w.heap.size w w' :=
  (at_q A n c l i w hi hn hm hr hb).mono (by rintro e w1 ⟨h, rfl⟩; exact ⟨h, Below.refl _ _⟩)
end
end Go.Proofs.Ytkfekgmdjemkbaa
