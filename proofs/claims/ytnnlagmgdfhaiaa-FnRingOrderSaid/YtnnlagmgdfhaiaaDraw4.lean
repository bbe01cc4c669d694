/- Contracts of the reference's draws: l17Mapping. -/
import Derived.Test.YtnnlagmgdfhaiaaDraw3
namespace Go.Proofs.Ytnnlagmgdfhaiaa
set_option linter.unusedSimpArgs false
set_option linter.unusedVariables false
open Go.RowKit Go.ChangeShapes Go.WideShapes
theorem blk_kept {w w1 : World} {b : Nat} {T : TypeId} {cs : List Value} {row : Option Nat} (h : Blk w b T cs) (hg : w.grownBy w1 row) (hne : row ≠ some b) : Blk w1 b T cs :=
  (hg.block b h.lt (fun e => hne e.symm)).trans h
theorem Blk.far' {w : World} {g : Nat} {t : TypeId} {cs : List Value} (h : Blk w g t cs) {p : Addr} (hp : p.block ≠ g) (u : Value) : Blk (w.setCell p u) g t cs :=
  (Below.heap_setCell w p u g (Ne.symm hp)).trans h
def DrawM (g : Nat) (A : Option Addr) (n c : Nat) (w : World) (e : Ending) (w' : World) : Prop := ∃ (dom vir phy : Int) (wb : Bool), (0 ≤ dom ∧ dom < 2 ∧ 0 ≤ vir ∧ vir < 8 ∧ 0 ≤ phy ∧ phy < 6) ∧ e = .returned (.agg #[.int .i64 dom, .int .i64 vir, .int .i64 phy, .bool wb]) ∧ Cur w' g A n c ∧ w.grownBy w' (some g)
set_option maxRecDepth 100000 in
set_option maxHeartbeats 2000000 in
theorem l17Mapping_c (g : Nat) (A : Option Addr) (n c : Nat) (l : List Int) (w : World) (hcur : Cur w g A n c) (hn : l.length = n) (hm : n ≤ 1048576) (hr : Reads w g 1 A n (l.flatMap fun x : Int => [Value.int .u8 x])) (hb : ∀ x ∈ l, 0 ≤ x ∧ x ≤ 255) :
    Calls Try.prog 99 #[.pointer (some ⟨g, 0, none⟩)] w (DrawM g A n c w) := by
  have hlt := hcur.lt
  have hne : some g ≠ some w.heap.size := fun e => by injection e with e; omega
  have q0 := hcur.alloc (.cells #[.int .i64 0, .int .i64 0, .int .i64 0, .bool false] 51)
  have g0 : w.grownBy (w.alloc (.cells #[.int .i64 0, .int .i64 0, .int .i64 0, .bool false] 51)) (some g) := grown_al (World.grownBy.refl _ _) _
  have B0 : Blk (w.alloc (.cells #[.int .i64 0, .int .i64 0, .int .i64 0, .bool false] 51)) w.heap.size 51 [.int .i64 0, .int .i64 0, .int .i64 0, .bool false] := Blk.new w 51 [.int .i64 0, .int .i64 0, .int .i64 0, .bool false]
  go_enter Try.func99, Try.ntmps99
  go_wp2_with fail
  refine (l01Below_c g A n c l _ q0 hn hm (reads_cur hr g0 hlt) hb 2 (by omega) (by omega)).mono ?_
  rintro e w1 ⟨x1, ⟨a1, b1⟩, rfl, q1, hh1⟩
  have g1 := grown_trans g0 hh1
  have B1 := blk_kept B0 hh1 hne
  go_wp2_with fail
  refine (l01Below_c g A n c l _ q1 hn hm (reads_cur hr g1 hlt) hb 8 (by omega) (by omega)).mono ?_
  rintro e w2 ⟨x2, ⟨a2, b2⟩, rfl, q2, hh2⟩
  have g2 := grown_trans g1 hh2
  have B2 := blk_kept B1 hh2 hne
  go_wp2_with fail
  refine (l01Below_c g A n c l _ q2 hn hm (reads_cur hr g2 hlt) hb 6 (by omega) (by omega)).mono ?_
  rintro e w3 ⟨x3, ⟨a3, b3⟩, rfl, q3, hh3⟩
  have g3 := grown_trans g2 hh3
  have B3 := blk_kept B2 hh3 hne
  go_wp2_with fail
  refine (l01Below_c g A n c l _ q3 hn hm (reads_cur hr g3 hlt) hb 3 (by omega) (by omega)).mono ?_
  rintro e w4 ⟨x4, ⟨a4, b4⟩, rfl, q4, hh4⟩
  have g4 := grown_trans g3 hh4
  have B4 := blk_kept B3 hh4 hne
  have c0 := (B4.cell 0).trans rfl
  have f0 := B4.frozen 0
  have c1 := (B4.cell 1).trans rfl
  have f1 := B4.frozen 1
  have c2 := (B4.cell 2).trans rfl
  have f2 := B4.frozen 2
  have c3 := (B4.cell 3).trans rfl
  have f3 := B4.frozen 3
  have hlt4 := B4.lt
  go_wp2
  refine bodyPost_ret (v := .agg #[.int .i64 x1, .int .i64 x2, .int .i64 x3, .bool (decide (0 < x4))]) (by simp [results, Try.results99, go_sem, *]) rfl ?_
  refine ⟨x1, x2, x3, _, ⟨a1, b1, a2, b2, a3, b3⟩, rfl, ?_, ?_⟩
  · obtain ⟨i, k, hbk, r⟩ := q4
    exact ⟨i, k, (((hbk.far' (by show w.heap.size ≠ g; omega) _).far' (by show w.heap.size ≠ g; omega) _).far' (by show w.heap.size ≠ g; omega) _).far' (by show w.heap.size ≠ g; omega) _, r⟩
  · exact only_setCell (only_setCell (only_setCell (only_setCell g4 (.inr (Nat.le_refl _)) _) (.inr (Nat.le_refl _)) _) (.inr (Nat.le_refl _)) _) (.inr (Nat.le_refl _)) _
end Go.Proofs.Ytnnlagmgdfhaiaa
