/- Contract of the reference's draws: l01PickInt. -/
import Derived.Test.YtifbfmafogmemaaDraw4
namespace Go.Proofs.Ytifbfmafogmemaa
set_option linter.unusedSimpArgs false
set_option linter.unusedVariables false
open Go.RowKit Go.ChangeShapes Go.WideShapes
theorem cur_fr {w : World} {g : Nat} {A : Option Addr} {n c : Nat} (h : Cur w g A n c) {p : Addr} (hp : p.block ≠ g) (u : Value) : Cur (w.setCell p u) g A n c := by
  obtain ⟨i, k, hk, r⟩ := h; exact ⟨i, k, hk.far' hp u, r⟩
set_option maxRecDepth 100000 in
set_option maxHeartbeats 2000000 in
theorem l01PickInt_c (g : Nat) (A : Option Addr) (n c : Nat) (l : List Int) (w : World) (hcur : Cur w g A n c) (hn : l.length = n) (hm : n ≤ 1048576) (hr : Reads w g 1 A n (l.flatMap fun x : Int => [Value.int .u8 x])) (hb : ∀ x ∈ l, 0 ≤ x ∧ x ≤ 255) (b m : Nat) (ls : List Int) (hB : Blk w b 3 (ls.map fun x : Int => Value.int .i64 x)) (hbg : b ≠ g) (hl : ls.length = m) (h0 : 0 < m) (h1 : m ≤ 1000) :
    Calls Try.prog 129 #[.pointer (some ⟨g, 0, none⟩), .slice (some ⟨b, 0, none⟩) m m] w (DrawI (fun x => x ∈ ls) g A n c w) := by
  go_enter Try.func129, Try.ntmps129
  go_wp2_with fail
  refine (l01Below_c g A n c l _ hcur hn hm hr hb (m : Int) (by omega) (by omega)).mono ?_
  rintro e w1 ⟨i, ⟨i0, i1⟩, rfl, q1, hh⟩
  have B1 := blk_kept hB hh (fun e => hbg (by injection e with e; exact e.symm))
  obtain ⟨k, rfl⟩ := Int.eq_ofNat_of_zero_le i0
  have hk : k < ls.length := by omega
  have c0 : w1.cell? ⟨b, k, none⟩ = some (.int .i64 ls[k]) := (B1.cell k).trans (by rw [List.getElem?_map, List.getElem?_eq_getElem hk]; rfl)
  have hin : ls[k] ∈ ls := List.getElem_mem hk
  generalize ls[k] = x at *
  have hbl := B1.lt
  go_wp2
  go_ret
  exact ⟨x, hin, rfl, q1, hh⟩
end Go.Proofs.Ytifbfmafogmemaa
