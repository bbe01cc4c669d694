/- Contract of the reference's draws: DrawRing. -/
import Derived.Test.YtnnlagmgdfhaiaaDrawRng2
namespace Go.Proofs.Ytnnlagmgdfhaiaa
set_option linter.unusedSimpArgs false
set_option linter.unusedVariables false
open Go.RowKit Go.ChangeShapes Go.WideShapes
/-- Drawn mappings, memory, ring, entries. -/
def DrawGd (w : World) (e : Ending) (w' : World) : Prop := ∃ (ml : List Mapping) (pg : List ByteArray) (A1 : Option Addr) (c1 : Nat) (A2 : Option Addr) (c2 : Nat) (base size head tail : Int) (es : List ByteArray) (A3 : Option Addr) (c3 : Nat),
  (ml.length = 5 ∧ worldL ml ∧ memB pg = true ∧ pg.length = 5 ∧ ringD base size head tail ∧ es.length ≤ 5 ∧ ∀ s ∈ es, s.size = 16) ∧ e = .returned (.tuple #[.slice A1 5 c1, .agg #[.slice A2 5 c2], .agg #[.int .i64 base, .int .i64 size, .int .i64 head, .int .i64 tail], .slice A3 es.length c3]) ∧
  w'.ownsRow w.heap.size 51 4 (.slice A1 5 c1) 5 (ml.flatMap Mapping.cells) ∧ w'.ownsRow w.heap.size 9 1 (.slice A2 5 c2) 5 (pg.flatMap fun x : ByteArray => [Value.string x]) ∧ w'.ownsRow w.heap.size 9 1 (.slice A3 es.length c3) es.length (es.flatMap fun x : ByteArray => [Value.string x]) ∧ Below w.heap.size w w'
set_option maxRecDepth 100000 in
set_option maxHeartbeats 8000000 in
theorem drawRing_c (A : Option Addr) (n c : Nat) (l : List Int) (w : World) (hn : l.length = n) (hm : n ≤ 1048576) (hr : Reads w w.heap.size 1 A n (l.flatMap fun x : Int => [Value.int .u8 x])) (hb : ∀ x ∈ l, 0 ≤ x ∧ x ≤ 255) :
    Calls Try.prog 49 #[.slice A n c] w (DrawGd w) := by
  have HN := Lib.hid hn
  go_enter Try.func49, Try.ntmps49
  go_wp2_with fail
  refine (l01New_c A n c l _ HN.out hm (hr.to (by go_grown)) hb).mono ?_
  rintro e w1 ⟨g, rfl, hg0, q1, hbW⟩
  have k1 : Below w.heap.size w w1 := ext_step (by go_grown) (by go_size) hbW
  have b0 := ((Blk.new w 39 [.slice none 0 0]).alloc (.cells #[.int .i64 0, .int .i64 0, .int .i64 0, .int .i64 0] 69)).ext hbW
  have b1 : Blk w1 (w.heap.size + 1) 69 [.int .i64 0, .int .i64 0, .int .i64 0, .int .i64 0] := by simpa using (Blk.new (w.alloc (.cells #[.slice none 0 0] 39)) 69 [.int .i64 0, .int .i64 0, .int .i64 0, .int .i64 0]).ext hbW
  have hz1 := hbW.size
  simp only [World.size_alloc] at hg0 hz1
  have hr1 : Reads w1 g 1 A n (l.flatMap fun x : Int => [Value.int .u8 x]) := (hr.below k1).more (by omega)
  have hlt0 := q1.lt
  have hne0 : some g ≠ some w.heap.size := fun e => by injection e with e; omega
  have hne1 : some g ≠ some (w.heap.size + 1) := fun e => by injection e with e; omega
  clear hbW hn
  go_wp2_with fail
  refine (l20World_c g A n c l _ q1 HN.out hm hr1 hb).mono ?_
  rintro e w2 ⟨ml, pg, A1, c1, A2, c2, ⟨hml, hwl, hpg, hpl⟩, rfl, o1, o2, q2, hh⟩
  have g2 := hh
  have b0 := blk_kept b0 hh hne0
  have b1 := blk_kept b1 hh hne1
  have hz2 := g2.size
  clear hh q1
  have hne3 : some g ≠ some w2.heap.size := fun e => by injection e with e; omega
  have b3 := Blk.new w2 39 [.slice A2 5 c2]
  have b0 := b0.alloc (.cells #[.slice A2 5 c2] 39)
  have b1 := b1.alloc (.cells #[.slice A2 5 c2] 39)
  have o1 := o1.alloc (.cells #[.slice A2 5 c2] 39)
  have o2 := o2.alloc (.cells #[.slice A2 5 c2] 39)
  have q2 := q2.alloc (.cells #[.slice A2 5 c2] 39)
  have g2 := grown_al g2 (.cells #[.slice A2 5 c2] 39)
  go_wp2_with fail
  refine (l20Ring_c g A n c l _ q2 HN.out hm (reads_cur hr1 g2 hlt0) hb).mono ?_
  rintro e w3 ⟨base, size, head, tail, hrg, rfl, q3, hh⟩
  have hzz := hh.size
  simp only [World.size_alloc] at hzz
  have b0 := blk_kept b0 hh hne0
  have b1 := blk_kept b1 hh hne1
  have b3 := blk_kept b3 hh hne3
  have o1 := own_cur o1 hh hlt0
  have o2 := own_cur o2 hh hlt0
  have g3 := grown_trans g2 hh
  clear hh q2 g2
  have hne4 : some g ≠ some w3.heap.size := fun e => by injection e with e; omega
  have b4 := Blk.new w3 69 [.int .i64 base, .int .i64 size, .int .i64 head, .int .i64 tail]
  have b0 := b0.alloc (.cells #[.int .i64 base, .int .i64 size, .int .i64 head, .int .i64 tail] 69)
  have b1 := b1.alloc (.cells #[.int .i64 base, .int .i64 size, .int .i64 head, .int .i64 tail] 69)
  have b3 := b3.alloc (.cells #[.int .i64 base, .int .i64 size, .int .i64 head, .int .i64 tail] 69)
  have o1 := o1.alloc (.cells #[.int .i64 base, .int .i64 size, .int .i64 head, .int .i64 tail] 69)
  have o2 := o2.alloc (.cells #[.int .i64 base, .int .i64 size, .int .i64 head, .int .i64 tail] 69)
  have q5 := q3.alloc (.cells #[.int .i64 base, .int .i64 size, .int .i64 head, .int .i64 tail] 69)
  have g5 := grown_al g3 (.cells #[.int .i64 base, .int .i64 size, .int .i64 head, .int .i64 tail] 69)
  clear q3 g3
  go_wp2_with fail
  generalize hX : w3.alloc (.cells #[.int .i64 base, .int .i64 size, .int .i64 head, .int .i64 tail] 69) = w4 at *
  clear hX
  have q5 : Cur w4.drew g A n c := q5
  have b0 : Blk w4.drew w.heap.size 39 [.slice none 0 0] := b0
  have b1 : Blk w4.drew (w.heap.size + 1) 69 [.int .i64 0, .int .i64 0, .int .i64 0, .int .i64 0] := b1
  have b3 : Blk w4.drew w2.heap.size 39 [.slice A2 5 c2] := b3
  have b4 : Blk w4.drew w3.heap.size 69 [.int .i64 base, .int .i64 size, .int .i64 head, .int .i64 tail] := b4
  have c3 : w4.drew.cell? ⟨w2.heap.size, 0, none⟩ = some (.slice A2 5 c2) := (b3.cell 0).trans rfl
  have x0 : w4.drew.cell? ⟨w3.heap.size, 0, none⟩ = some (.int .i64 base) := (b4.cell 0).trans rfl
  have x1 : w4.drew.cell? ⟨w3.heap.size, 1, none⟩ = some (.int .i64 size) := (b4.cell 1).trans rfl
  have x2 : w4.drew.cell? ⟨w3.heap.size, 2, none⟩ = some (.int .i64 head) := (b4.cell 2).trans rfl
  have x3 : w4.drew.cell? ⟨w3.heap.size, 3, none⟩ = some (.int .i64 tail) := (b4.cell 3).trans rfl
  have o1 := own_ext o1 ((Below.refl _ _).drew)
  have o2 := own_ext o2 ((Below.refl _ _).drew)
  have g5 : w1.grownBy w4.drew (some g) := ⟨g5.os, g5.tape, g5.output, g5.size, g5.block⟩
  have hbl0 := b0.lt
  have hbl1 := b1.lt
  have hbl3 := b3.lt
  have hbl4 := b4.lt
  go_region_law (go_simp; first
    | (go_at_call 108; refine (l20Entries_c g A n c l _ q5 HN.out hm (reads_cur hr1 g5 hlt0) hb).mono ?_; rintro e w8 ⟨es, A3, cz, hes, rfl, o3, q5, hh⟩; have b0 := blk_kept b0 hh hne0; have b1 := blk_kept b1 hh hne1; have b3 := blk_kept b3 hh hne3; have b4 := blk_kept b4 hh hne4; have o1 := own_cur o1 hh hlt0; have o2 := own_cur o2 hh hlt0; have hgz := g5.size; have o3 := own_base o3 (base' := w1.heap.size) hgz; have g5 := grown_trans g5 hh; have c0 := (b0.cell 0).trans rfl; have f0 := b0.frozen 0; have c3 := (b3.cell 0).trans rfl; have d0 := (b1.cell 0).trans rfl; have e0 := b1.frozen 0; have x0 := (b4.cell 0).trans rfl; have d1 := (b1.cell 1).trans rfl; have e1 := b1.frozen 1; have x1 := (b4.cell 1).trans rfl; have d2 := (b1.cell 2).trans rfl; have e2 := b1.frozen 2; have x2 := (b4.cell 2).trans rfl; have d3 := (b1.cell 3).trans rfl; have e3 := b1.frozen 3; have x3 := (b4.cell 3).trans rfl; clear hh))
  all_goals
    have hw1 : w.heap.size ≤ w1.heap.size := by omega
    have hn0 : w.heap.size + 1 ≠ w.heap.size := by omega
    have hn1 : w.heap.size ≠ w.heap.size + 1 := by omega
    have hk9 := Below.grown k1 g5 k1.size (fun k hk => by injection hk with hk; omega)
    have P0 := ((((b0.set_ 0 (.slice A2 5 c2)).far' (p := ⟨w.heap.size + 1, 0, none⟩) hn0 (.int .i64 base)).far' (p := ⟨w.heap.size + 1, 1, none⟩) hn0 (.int .i64 size)).far' (p := ⟨w.heap.size + 1, 2, none⟩) hn0 (.int .i64 head)).far' (p := ⟨w.heap.size + 1, 3, none⟩) hn0 (.int .i64 tail)
    have P1 := ((((b1.far' (p := ⟨w.heap.size, 0, none⟩) hn1 (.slice A2 5 c2)).set_ 0 (.int .i64 base)).set_ 1 (.int .i64 size)).set_ 2 (.int .i64 head)).set_ 3 (.int .i64 tail)
    have P2 := own_set_ne (p := ⟨w.heap.size + 1, 3, none⟩) (own_set_ne (p := ⟨w.heap.size + 1, 2, none⟩) (own_set_ne (p := ⟨w.heap.size + 1, 1, none⟩) (own_set_ne (p := ⟨w.heap.size + 1, 0, none⟩) (own_set_ne (p := ⟨w.heap.size, 0, none⟩) (own_base o1 hw1) (fun e => own_ty o1 b0 (by decide) _ e rfl) (.slice A2 5 c2)) (fun e => own_ty o1 b1 (by decide) _ e rfl) (.int .i64 base)) (fun e => own_ty o1 b1 (by decide) _ e rfl) (.int .i64 size)) (fun e => own_ty o1 b1 (by decide) _ e rfl) (.int .i64 head)) (fun e => own_ty o1 b1 (by decide) _ e rfl) (.int .i64 tail)
    have P3 := own_set_ne (p := ⟨w.heap.size + 1, 3, none⟩) (own_set_ne (p := ⟨w.heap.size + 1, 2, none⟩) (own_set_ne (p := ⟨w.heap.size + 1, 1, none⟩) (own_set_ne (p := ⟨w.heap.size + 1, 0, none⟩) (own_set_ne (p := ⟨w.heap.size, 0, none⟩) (own_base o2 hw1) (fun e => own_ty o2 b0 (by decide) _ e rfl) (.slice A2 5 c2)) (fun e => own_ty o2 b1 (by decide) _ e rfl) (.int .i64 base)) (fun e => own_ty o2 b1 (by decide) _ e rfl) (.int .i64 size)) (fun e => own_ty o2 b1 (by decide) _ e rfl) (.int .i64 head)) (fun e => own_ty o2 b1 (by decide) _ e rfl) (.int .i64 tail)
    have P4 := own_set_ne (p := ⟨w.heap.size + 1, 3, none⟩) (own_set_ne (p := ⟨w.heap.size + 1, 2, none⟩) (own_set_ne (p := ⟨w.heap.size + 1, 1, none⟩) (own_set_ne (p := ⟨w.heap.size + 1, 0, none⟩) (own_set_ne (p := ⟨w.heap.size, 0, none⟩) (own_base o3 hw1) (fun e => own_ty o3 b0 (by decide) _ e rfl) (.slice A2 5 c2)) (fun e => own_ty o3 b1 (by decide) _ e rfl) (.int .i64 base)) (fun e => own_ty o3 b1 (by decide) _ e rfl) (.int .i64 size)) (fun e => own_ty o3 b1 (by decide) _ e rfl) (.int .i64 head)) (fun e => own_ty o3 b1 (by decide) _ e rfl) (.int .i64 tail)
    have P5 := ((((hk9.setCell (p := ⟨w.heap.size, 0, none⟩) (Nat.le_refl _) (.slice A2 5 c2)).setCell (p := ⟨w.heap.size + 1, 0, none⟩) (Nat.le_succ _) (.int .i64 base)).setCell (p := ⟨w.heap.size + 1, 1, none⟩) (Nat.le_succ _) (.int .i64 size)).setCell (p := ⟨w.heap.size + 1, 2, none⟩) (Nat.le_succ _) (.int .i64 head)).setCell (p := ⟨w.heap.size + 1, 3, none⟩) (Nat.le_succ _) (.int .i64 tail)
    clear hk9 o1 o2 o3 b3 b4 q5 g5 hr1 hr hb hm k1 x0 x1 x2 x3 c3
    go_wp2
    clear c0 f0 b0 b1 d0 e0 d1 e1 d2 e2 d3 e3
    generalize ((((w8.setCell ⟨w.heap.size, 0, none⟩ (.slice A2 5 c2)).setCell ⟨w.heap.size + 1, 0, none⟩ (.int .i64 base)).setCell ⟨w.heap.size + 1, 1, none⟩ (.int .i64 size)).setCell ⟨w.heap.size + 1, 2, none⟩ (.int .i64 head)).setCell ⟨w.heap.size + 1, 3, none⟩ (.int .i64 tail) = w9 at *
    have c0 : w9.cell? ⟨w.heap.size, 0, none⟩ = some (.slice A2 5 c2) := (P0.cell 0).trans rfl
    have d0 : w9.cell? ⟨w.heap.size + 1, 0, none⟩ = some (.int .i64 base) := (P1.cell 0).trans rfl
    have d1 : w9.cell? ⟨w.heap.size + 1, 1, none⟩ = some (.int .i64 size) := (P1.cell 1).trans rfl
    have d2 : w9.cell? ⟨w.heap.size + 1, 2, none⟩ = some (.int .i64 head) := (P1.cell 2).trans rfl
    have d3 : w9.cell? ⟨w.heap.size + 1, 3, none⟩ = some (.int .i64 tail) := (P1.cell 3).trans rfl
    refine bodyPost_ret (v := .tuple #[.slice A1 5 c1, .agg #[.slice A2 5 c2], .agg #[.int .i64 base, .int .i64 size, .int .i64 head, .int .i64 tail], .slice A3 es.length cz]) (by simp [results, Try.results49, go_sem, c0, d0, d1, d2, d3]) rfl ?_
    exact ⟨ml, pg, A1, c1, A2, c2, base, size, head, tail, es, A3, cz, ⟨hml, hwl, hpg, hpl, hrg, hes.1, hes.2⟩, rfl, P2, P3, P4, P5⟩
end Go.Proofs.Ytnnlagmgdfhaiaa
