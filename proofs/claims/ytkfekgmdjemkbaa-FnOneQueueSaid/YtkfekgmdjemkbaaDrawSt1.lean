/- Contracts of the reference's draws on steering: l11Key, l11Flow, NewTable, l14Rule, l14Rules. -/
import Derived.Test.YtkfekgmdjemkbaaDrawPk1
import Derived.Test.YtkfekgmdjemkbaaStP
namespace Go.Proofs.Ytkfekgmdjemkbaa
set_option linter.unusedSimpArgs false
set_option linter.unusedVariables false
open Go.RowKit Go.ChangeShapes Go.WideShapes
theorem ruleD_mk {pr kd si sb fp lp vl ac qq : Int} (p0 : 0 ≤ pr) (p1 : pr < 3) (h1 : kd ∈ [0, 6, (17 : Int)]) (s0 : 167772161 ≤ si) (s1 : si ≤ 167772163) (h2 : sb ∈ [0, 8, 31, (32 : Int)]) (h3 : fp ∈ [0, 53, (80 : Int)]) (h4 : lp ∈ [80, 100, (65535 : Int)]) (h5 : vl ∈ [-2, -2, -1, (7 : Int)])
    (h6 : (ac = 0 ∧ 0 ≤ qq ∧ qq ≤ 3) ∨ (ac = 1 ∧ qq = 0)) : ruleB ⟨pr, kd, si, sb, fp, lp, vl, ac, qq⟩ = true := by
  simp only [List.mem_cons, List.not_mem_nil, or_false] at h1 h2 h3 h4 h5
  simp only [ruleB, inB, Bool.and_eq_true, Bool.or_eq_true, decide_eq_true_eq]
  omega
theorem oneRule (x : Rule) : ∀ u ∈ x.cells, u.oneCell' = true := by
  intro u hu
  simp only [Rule.cells, List.mem_cons, List.not_mem_nil, or_false] at hu
  rcases hu with rfl | rfl | rfl | rfl | rfl | rfl | rfl | rfl | rfl <;> rfl
theorem info_RuleD : (Try.prog.info? 58).map (fun i => (i.zero, i.size, i.bytes)) = some (some (.agg #[.int .i64 0, .int .i64 0, .int .i64 0, .int .i64 0, .int .i64 0, .int .i64 0, .int .i64 0, .int .i64 0, .int .i64 0]), 9, 72) := by kernel_rfl
theorem info_SlotD : (Try.prog.info? 61).map (fun i => (i.zero, i.size, i.bytes)) = some (some (.agg #[.int .i64 0, .int .i64 0, .int .i64 0, .int .i64 0, .int .i64 0, .int .i64 0, .int .i64 0]), 7, 56) := by kernel_rfl
/-- A drawn flow. -/
def DrawFl (g : Nat) (A : Option Addr) (n c : Nat) (w : World) (e : Ending) (w' : World) : Prop := ∃ f : Flow, e = .returned (.agg #[.int .i64 f.kind, .int .i64 f.sip, .int .i64 f.dip, .int .i64 f.sport, .int .i64 f.dport]) ∧ Cur w' g A n c ∧ w.grownBy w' (some g)
/-- A drawn rule: a sound one. -/
def DrawRu (g : Nat) (A : Option Addr) (n c : Nat) (w : World) (e : Ending) (w' : World) : Prop := ∃ x : Rule, ruleB x = true ∧ e = .returned (.agg #[.int .i64 x.prio, .int .i64 x.kind, .int .i64 x.sip, .int .i64 x.sbits, .int .i64 x.fport, .int .i64 x.lport, .int .i64 x.vlan, .int .i64 x.action, .int .i64 x.queue]) ∧ Cur w' g A n c ∧ w.grownBy w' (some g)
/-- Drawn rules. -/
def DrawRl (g : Nat) (A : Option Addr) (n c : Nat) (w : World) (e : Ending) (w' : World) : Prop := ∃ (rs : List Rule) (A2 : Option Addr) (c2 : Nat), (rs.length ≤ 4 ∧ ∀ x ∈ rs, ruleB x = true) ∧ e = .returned (.slice A2 rs.length c2) ∧ w'.ownsRow w.heap.size 58 9 (.slice A2 rs.length c2) rs.length (rs.flatMap Rule.cells) ∧ Cur w' g A n c ∧ w.grownBy w' (some g)
theorem flat_snocR (l : List Rule) (x : Rule) : (l ++ [x]).flatMap Rule.cells = l.flatMap Rule.cells ++ x.cells := by simp
set_option maxRecDepth 100000 in
set_option maxHeartbeats 2000000 in
theorem l11Key_c (g : Nat) (A : Option Addr) (n c : Nat) (l : List Int) (w : World) (hcur : Cur w g A n c) (hn : l.length = n) (hm : n ≤ 1048576) (hr : Reads w g 1 A n (l.flatMap fun x : Int => [Value.int .u8 x])) (hb : ∀ x ∈ l, 0 ≤ x ∧ x ≤ 255) :
    Calls Try.prog 64 #[.pointer (some ⟨g, 0, none⟩)] w (DrawS 16 g A n c w) := by
  go_enter Try.func64, Try.ntmps64
  go_wp2_with fail
  refine (l01Text_c g A n c l _ hcur hn hm hr hb 16 (by decide) (by decide)).mono ?_
  rintro e w1 ⟨s, hs, rfl, q1, hh⟩
  go_wp2
  go_ret
  exact ⟨s, hs, rfl, q1, hh⟩
set_option maxRecDepth 100000 in
set_option maxHeartbeats 4000000 in
theorem l11Flow_c (g : Nat) (A : Option Addr) (n c : Nat) (l : List Int) (w : World) (hcur : Cur w g A n c) (hn : l.length = n) (hm : n ≤ 1048576) (hr : Reads w g 1 A n (l.flatMap fun x : Int => [Value.int .u8 x])) (hb : ∀ x ∈ l, 0 ≤ x ∧ x ≤ 255) :
    Calls Try.prog 42 #[.pointer (some ⟨g, 0, none⟩)] w (DrawFl g A n c w) := by
  have hlt0 := hcur.lt
  have HN := Lib.hid hn
  clear hn
  go_enter Try.func42, Try.ntmps42
  have q := hcur
  have gg : w.grownBy w (some g) := World.grownBy.refl _ _
  have sz0 : w.heap.size ≤ w.heap.size := Nat.le_refl _
  go_wp2_with fail
  obtain ⟨w1, hW0⟩ : ∃ W, W = w.alloc (.cells #[.int .i64 0, .int .i64 0, .int .i64 0, .int .i64 0, .int .i64 0] 44) := ⟨_, rfl⟩
  have lo0 : w.heap.size ≤ w.heap.size := by omega
  have ne0 : some g ≠ some (w.heap.size) := fun e => by injection e with e; omega
  have hk0 : Blk w1 (w.heap.size) 44 [.int .i64 0, .int .i64 0, .int .i64 0, .int .i64 0, .int .i64 0] := by rw [hW0]; exact Blk.new _ _ _
  replace q : Cur w1 g A n c := by rw [hW0]; exact q.alloc _
  replace gg : w.grownBy w1 (some g) := by rw [hW0]; exact grown_al gg _
  have bl0 := hk0.lt
  have lw_ : w.heap.size ≤ w1.heap.size := by rw [hW0]; simp
  have ez0 : w1.heap.size = w.heap.size + 1 := by rw [hW0]; simp
  rw [← hW0]
  clear hW0
  have le_ : w.heap.size ≤ w1.heap.size := lw_
  clear sz0 le_
  have sz0 := gg.size
  clear lw_
  obtain ⟨w2, hW0⟩ : ∃ W, W = w1.alloc (.cells #[.int .i64 6, .int .i64 6, .int .i64 17] 3) := ⟨_, rfl⟩
  replace hk0 : Blk w2 (w.heap.size) 44 [.int .i64 0, .int .i64 0, .int .i64 0, .int .i64 0, .int .i64 0] := by rw [hW0]; exact hk0.alloc _
  have lo1 : w.heap.size ≤ w.heap.size + 1 := by omega
  have ne1 : some g ≠ some (w.heap.size + 1) := fun e => by injection e with e; omega
  have df0_1 : w.heap.size < w.heap.size + 1 := by omega
  have hk1 : Blk w2 (w.heap.size + 1) 3 [.int .i64 6, .int .i64 6, .int .i64 17] := by rw [hW0, ← ez0]; exact Blk.new _ _ _
  replace q : Cur w2 g A n c := by rw [hW0]; exact q.alloc _
  replace gg : w.grownBy w2 (some g) := by rw [hW0]; exact grown_al gg _
  have bl1 := hk1.lt
  have lw_ : w1.heap.size ≤ w2.heap.size := by rw [hW0]; simp
  rw [← hW0]
  clear hW0
  have le_ : w1.heap.size ≤ w2.heap.size := lw_
  replace bl0 := Nat.lt_of_lt_of_le bl0 le_
  clear sz0 le_
  have sz0 := gg.size
  clear lw_
  clear ez0
  refine (l01PickInt_c g A n c l _ q HN.out hm (reads_cur hr gg hlt0) hb _ 3 [6, 6, 17] hk1 (by omega) rfl (by omega) (by omega)).mono ?_
  rintro e w3 ⟨kd, i_kd, rfl, q1, hh⟩
  replace hk0 := blk_kept hk0 hh ne0
  replace hk1 := blk_kept hk1 hh ne1
  replace gg := grown_trans gg hh
  have le_ : w2.heap.size ≤ w3.heap.size := hh.size
  replace bl0 := Nat.lt_of_lt_of_le bl0 le_
  replace bl1 := Nat.lt_of_lt_of_le bl1 le_
  clear sz0 le_
  have sz0 := gg.size
  replace q := q1
  clear q1 hh
  clear hk1 ne1 bl1 lo1 df0_1
  go_wp2_with fail
  refine (l06Host_c g A n c l _ q HN.out hm (reads_cur hr gg hlt0) hb).mono ?_
  rintro e w4 ⟨si, ⟨si0, si1⟩, rfl, q1, hh⟩
  replace hk0 := blk_kept hk0 hh ne0
  replace gg := grown_trans gg hh
  have le_ : w3.heap.size ≤ w4.heap.size := hh.size
  replace bl0 := Nat.lt_of_lt_of_le bl0 le_
  clear sz0 le_
  have sz0 := gg.size
  replace q := q1
  clear q1 hh
  go_wp2_with fail
  refine (l01Below_c g A n c l _ q HN.out hm (reads_cur hr gg hlt0) hb 4 (by omega) (by omega)).mono ?_
  rintro e w5 ⟨sp, ⟨sp0, sp1⟩, rfl, q1, hh⟩
  replace hk0 := blk_kept hk0 hh ne0
  replace gg := grown_trans gg hh
  have le_ : w4.heap.size ≤ w5.heap.size := hh.size
  replace bl0 := Nat.lt_of_lt_of_le bl0 le_
  clear sz0 le_
  have sz0 := gg.size
  replace q := q1
  clear q1 hh
  have ew1 : IntKind.i64.wrap (1000 + sp) = 1000 + sp := IntWalk.i64_in _ ⟨by omega, by omega⟩
  go_wp2_with fail
  obtain ⟨w6, hW0⟩ : ∃ W, W = w5.alloc (.cells #[.int .i64 80, .int .i64 53] 3) := ⟨_, rfl⟩
  replace hk0 : Blk w6 (w.heap.size) 44 [.int .i64 0, .int .i64 0, .int .i64 0, .int .i64 0, .int .i64 0] := by rw [hW0]; exact hk0.alloc _
  have lo1 : w.heap.size ≤ w5.heap.size := by omega
  have ne1 : some g ≠ some (w5.heap.size) := fun e => by injection e with e; omega
  have df0_1 : w.heap.size < w5.heap.size := by omega
  have hk1 : Blk w6 (w5.heap.size) 3 [.int .i64 80, .int .i64 53] := by rw [hW0]; exact Blk.new _ _ _
  replace q : Cur w6 g A n c := by rw [hW0]; exact q.alloc _
  replace gg : w.grownBy w6 (some g) := by rw [hW0]; exact grown_al gg _
  have bl1 := hk1.lt
  have lw_ : w5.heap.size ≤ w6.heap.size := by rw [hW0]; simp
  rw [← hW0]
  clear hW0
  have le_ : w5.heap.size ≤ w6.heap.size := lw_
  replace bl0 := Nat.lt_of_lt_of_le bl0 le_
  clear sz0 le_
  have sz0 := gg.size
  clear lw_
  refine (l01PickInt_c g A n c l _ q HN.out hm (reads_cur hr gg hlt0) hb _ 2 [80, 53] hk1 (by omega) rfl (by omega) (by omega)).mono ?_
  rintro e w7 ⟨dp, i_dp, rfl, q1, hh⟩
  replace hk0 := blk_kept hk0 hh ne0
  replace hk1 := blk_kept hk1 hh ne1
  replace gg := grown_trans gg hh
  have le_ : w6.heap.size ≤ w7.heap.size := hh.size
  replace bl0 := Nat.lt_of_lt_of_le bl0 le_
  replace bl1 := Nat.lt_of_lt_of_le bl1 le_
  clear sz0 le_
  have sz0 := gg.size
  replace q := q1
  clear q1 hh
  clear hk1 ne1 bl1 lo1 df0_1
  have c0_0 := hk0.at_ 0 _ rfl
  have f0_0 := hk0.frozen 0
  have c0_1 := hk0.at_ 1 _ rfl
  have f0_1 := hk0.frozen 1
  have c0_2 := hk0.at_ 2 _ rfl
  have f0_2 := hk0.frozen 2
  have c0_3 := hk0.at_ 3 _ rfl
  have f0_3 := hk0.frozen 3
  have c0_4 := hk0.at_ 4 _ rfl
  have f0_4 := hk0.frozen 4
  go_wp2_with fail
  obtain ⟨w8, hW0⟩ : ∃ W, W = w7.setCell ⟨w.heap.size, 0, none⟩ (.int .i64 kd) := ⟨_, rfl⟩
  replace hk0 := blk_stp hk0 hW0
  replace q : Cur w8 g A n c := by rw [hW0]; exact cur_fr q (p := ⟨w.heap.size, 0, none⟩) (show w.heap.size ≠ g by omega) _
  replace gg : w.grownBy w8 (some g) := by rw [hW0]; exact only_setCell gg (p := ⟨w.heap.size, 0, none⟩) (.inr (show w.heap.size ≤ w.heap.size by omega)) _
  rw [← hW0]
  clear hW0
  clear c0_0 f0_0 c0_1 f0_1 c0_2 f0_2 c0_3 f0_3 c0_4 f0_4
  obtain ⟨w9, hW0⟩ : ∃ W, W = w8.setCell ⟨w.heap.size, 1, none⟩ (.int .i64 si) := ⟨_, rfl⟩
  replace hk0 := blk_stp hk0 hW0
  replace q : Cur w9 g A n c := by rw [hW0]; exact cur_fr q (p := ⟨w.heap.size, 1, none⟩) (show w.heap.size ≠ g by omega) _
  replace gg : w.grownBy w9 (some g) := by rw [hW0]; exact only_setCell gg (p := ⟨w.heap.size, 1, none⟩) (.inr (show w.heap.size ≤ w.heap.size by omega)) _
  rw [← hW0]
  clear hW0
  obtain ⟨w10, hW0⟩ : ∃ W, W = w9.setCell ⟨w.heap.size, 2, none⟩ (.int .i64 167772161) := ⟨_, rfl⟩
  replace hk0 := blk_stp hk0 hW0
  replace q : Cur w10 g A n c := by rw [hW0]; exact cur_fr q (p := ⟨w.heap.size, 2, none⟩) (show w.heap.size ≠ g by omega) _
  replace gg : w.grownBy w10 (some g) := by rw [hW0]; exact only_setCell gg (p := ⟨w.heap.size, 2, none⟩) (.inr (show w.heap.size ≤ w.heap.size by omega)) _
  rw [← hW0]
  clear hW0
  obtain ⟨w11, hW0⟩ : ∃ W, W = w10.setCell ⟨w.heap.size, 3, none⟩ (.int .i64 (1000 + sp)) := ⟨_, rfl⟩
  replace hk0 := blk_stp hk0 hW0
  replace q : Cur w11 g A n c := by rw [hW0]; exact cur_fr q (p := ⟨w.heap.size, 3, none⟩) (show w.heap.size ≠ g by omega) _
  replace gg : w.grownBy w11 (some g) := by rw [hW0]; exact only_setCell gg (p := ⟨w.heap.size, 3, none⟩) (.inr (show w.heap.size ≤ w.heap.size by omega)) _
  rw [← hW0]
  clear hW0
  obtain ⟨w12, hW0⟩ : ∃ W, W = w11.setCell ⟨w.heap.size, 4, none⟩ (.int .i64 dp) := ⟨_, rfl⟩
  replace hk0 := blk_stp hk0 hW0
  replace q : Cur w12 g A n c := by rw [hW0]; exact cur_fr q (p := ⟨w.heap.size, 4, none⟩) (show w.heap.size ≠ g by omega) _
  replace gg : w.grownBy w12 (some g) := by rw [hW0]; exact only_setCell gg (p := ⟨w.heap.size, 4, none⟩) (.inr (show w.heap.size ≤ w.heap.size by omega)) _
  rw [← hW0]
  clear hW0
  replace hk0 : Blk w12 (w.heap.size) 44 [.int .i64 kd, .int .i64 si, .int .i64 167772161, .int .i64 (1000 + sp), .int .i64 dp] := hk0
  have hv := loadVar_blk (P := Try.prog) hk0 (n := 5) rfl (by simp [go_sem]) (by simp [go_sem])
  refine bodyPost_ret (v := .agg #[.int .i64 kd, .int .i64 si, .int .i64 167772161, .int .i64 (1000 + sp), .int .i64 dp]) (by simp [results, Try.results42, asAddr, Result.andThen, hv]) rfl ?_
  exact ⟨⟨kd, si, 167772161, 1000 + sp, dp⟩, rfl, q, gg⟩
set_option maxRecDepth 100000 in
set_option maxHeartbeats 8000000 in
theorem l14Rule_c (g : Nat) (A : Option Addr) (n c : Nat) (l : List Int) (w : World) (hcur : Cur w g A n c) (hn : l.length = n) (hm : n ≤ 1048576) (hr : Reads w g 1 A n (l.flatMap fun x : Int => [Value.int .u8 x])) (hb : ∀ x ∈ l, 0 ≤ x ∧ x ≤ 255) :
    Calls Try.prog 65 #[.pointer (some ⟨g, 0, none⟩)] w (DrawRu g A n c w) := by
  have hlt0 := hcur.lt
  have HN := Lib.hid hn
  clear hn
  go_enter Try.func65, Try.ntmps65
  have q := hcur
  have gg : w.grownBy w (some g) := World.grownBy.refl _ _
  have sz0 : w.heap.size ≤ w.heap.size := Nat.le_refl _
  go_wp2_with fail
  obtain ⟨w1, hW0⟩ : ∃ W, W = w.alloc (.cells #[.int .i64 0, .int .i64 0, .int .i64 0, .int .i64 0, .int .i64 0, .int .i64 0, .int .i64 0, .int .i64 0, .int .i64 0] 58) := ⟨_, rfl⟩
  have lo0 : w.heap.size ≤ w.heap.size := by omega
  have ne0 : some g ≠ some (w.heap.size) := fun e => by injection e with e; omega
  have hk0 : Blk w1 (w.heap.size) 58 [.int .i64 0, .int .i64 0, .int .i64 0, .int .i64 0, .int .i64 0, .int .i64 0, .int .i64 0, .int .i64 0, .int .i64 0] := by rw [hW0]; exact Blk.new _ _ _
  replace q : Cur w1 g A n c := by rw [hW0]; exact q.alloc _
  replace gg : w.grownBy w1 (some g) := by rw [hW0]; exact grown_al gg _
  have bl0 := hk0.lt
  have lw_ : w.heap.size ≤ w1.heap.size := by rw [hW0]; simp
  rw [← hW0]
  clear hW0
  have le_ : w.heap.size ≤ w1.heap.size := lw_
  clear sz0 le_
  have sz0 := gg.size
  clear lw_
  refine (l01Below_c g A n c l _ q HN.out hm (reads_cur hr gg hlt0) hb 3 (by omega) (by omega)).mono ?_
  rintro e w2 ⟨pr, ⟨pr0, pr1⟩, rfl, q1, hh⟩
  replace hk0 := blk_kept hk0 hh ne0
  replace gg := grown_trans gg hh
  have le_ : w1.heap.size ≤ w2.heap.size := hh.size
  replace bl0 := Nat.lt_of_lt_of_le bl0 le_
  clear sz0 le_
  have sz0 := gg.size
  replace q := q1
  clear q1 hh
  go_wp2_with fail
  obtain ⟨w3, hW0⟩ : ∃ W, W = w2.alloc (.cells #[.int .i64 0, .int .i64 6, .int .i64 17] 3) := ⟨_, rfl⟩
  replace hk0 : Blk w3 (w.heap.size) 58 [.int .i64 0, .int .i64 0, .int .i64 0, .int .i64 0, .int .i64 0, .int .i64 0, .int .i64 0, .int .i64 0, .int .i64 0] := by rw [hW0]; exact hk0.alloc _
  have lo1 : w.heap.size ≤ w2.heap.size := by omega
  have ne1 : some g ≠ some (w2.heap.size) := fun e => by injection e with e; omega
  have df0_1 : w.heap.size < w2.heap.size := by omega
  have hk1 : Blk w3 (w2.heap.size) 3 [.int .i64 0, .int .i64 6, .int .i64 17] := by rw [hW0]; exact Blk.new _ _ _
  replace q : Cur w3 g A n c := by rw [hW0]; exact q.alloc _
  replace gg : w.grownBy w3 (some g) := by rw [hW0]; exact grown_al gg _
  have bl1 := hk1.lt
  have lw_ : w2.heap.size ≤ w3.heap.size := by rw [hW0]; simp
  rw [← hW0]
  clear hW0
  have le_ : w2.heap.size ≤ w3.heap.size := lw_
  replace bl0 := Nat.lt_of_lt_of_le bl0 le_
  clear sz0 le_
  have sz0 := gg.size
  clear lw_
  refine (l01PickInt_c g A n c l _ q HN.out hm (reads_cur hr gg hlt0) hb _ 3 [0, 6, 17] hk1 (by omega) rfl (by omega) (by omega)).mono ?_
  rintro e w4 ⟨kd, i_kd, rfl, q1, hh⟩
  replace hk0 := blk_kept hk0 hh ne0
  replace hk1 := blk_kept hk1 hh ne1
  replace gg := grown_trans gg hh
  have le_ : w3.heap.size ≤ w4.heap.size := hh.size
  replace bl0 := Nat.lt_of_lt_of_le bl0 le_
  replace bl1 := Nat.lt_of_lt_of_le bl1 le_
  clear sz0 le_
  have sz0 := gg.size
  replace q := q1
  clear q1 hh
  clear hk1 ne1 bl1 lo1 df0_1
  go_wp2_with fail
  refine (l06Host_c g A n c l _ q HN.out hm (reads_cur hr gg hlt0) hb).mono ?_
  rintro e w5 ⟨si, ⟨si0, si1⟩, rfl, q1, hh⟩
  replace hk0 := blk_kept hk0 hh ne0
  replace gg := grown_trans gg hh
  have le_ : w4.heap.size ≤ w5.heap.size := hh.size
  replace bl0 := Nat.lt_of_lt_of_le bl0 le_
  clear sz0 le_
  have sz0 := gg.size
  replace q := q1
  clear q1 hh
  go_wp2_with fail
  obtain ⟨w6, hW0⟩ : ∃ W, W = w5.alloc (.cells #[.int .i64 0, .int .i64 8, .int .i64 31, .int .i64 32] 3) := ⟨_, rfl⟩
  replace hk0 : Blk w6 (w.heap.size) 58 [.int .i64 0, .int .i64 0, .int .i64 0, .int .i64 0, .int .i64 0, .int .i64 0, .int .i64 0, .int .i64 0, .int .i64 0] := by rw [hW0]; exact hk0.alloc _
  have lo1 : w.heap.size ≤ w5.heap.size := by omega
  have ne1 : some g ≠ some (w5.heap.size) := fun e => by injection e with e; omega
  have df0_1 : w.heap.size < w5.heap.size := by omega
  have hk1 : Blk w6 (w5.heap.size) 3 [.int .i64 0, .int .i64 8, .int .i64 31, .int .i64 32] := by rw [hW0]; exact Blk.new _ _ _
  replace q : Cur w6 g A n c := by rw [hW0]; exact q.alloc _
  replace gg : w.grownBy w6 (some g) := by rw [hW0]; exact grown_al gg _
  have bl1 := hk1.lt
  have lw_ : w5.heap.size ≤ w6.heap.size := by rw [hW0]; simp
  rw [← hW0]
  clear hW0
  have le_ : w5.heap.size ≤ w6.heap.size := lw_
  replace bl0 := Nat.lt_of_lt_of_le bl0 le_
  clear sz0 le_
  have sz0 := gg.size
  clear lw_
  refine (l01PickInt_c g A n c l _ q HN.out hm (reads_cur hr gg hlt0) hb _ 4 [0, 8, 31, 32] hk1 (by omega) rfl (by omega) (by omega)).mono ?_
  rintro e w7 ⟨sb, i_sb, rfl, q1, hh⟩
  replace hk0 := blk_kept hk0 hh ne0
  replace hk1 := blk_kept hk1 hh ne1
  replace gg := grown_trans gg hh
  have le_ : w6.heap.size ≤ w7.heap.size := hh.size
  replace bl0 := Nat.lt_of_lt_of_le bl0 le_
  replace bl1 := Nat.lt_of_lt_of_le bl1 le_
  clear sz0 le_
  have sz0 := gg.size
  replace q := q1
  clear q1 hh
  clear hk1 ne1 bl1 lo1 df0_1
  go_wp2_with fail
  obtain ⟨w8, hW0⟩ : ∃ W, W = w7.alloc (.cells #[.int .i64 0, .int .i64 53, .int .i64 80] 3) := ⟨_, rfl⟩
  replace hk0 : Blk w8 (w.heap.size) 58 [.int .i64 0, .int .i64 0, .int .i64 0, .int .i64 0, .int .i64 0, .int .i64 0, .int .i64 0, .int .i64 0, .int .i64 0] := by rw [hW0]; exact hk0.alloc _
  have lo1 : w.heap.size ≤ w7.heap.size := by omega
  have ne1 : some g ≠ some (w7.heap.size) := fun e => by injection e with e; omega
  have df0_1 : w.heap.size < w7.heap.size := by omega
  have hk1 : Blk w8 (w7.heap.size) 3 [.int .i64 0, .int .i64 53, .int .i64 80] := by rw [hW0]; exact Blk.new _ _ _
  replace q : Cur w8 g A n c := by rw [hW0]; exact q.alloc _
  replace gg : w.grownBy w8 (some g) := by rw [hW0]; exact grown_al gg _
  have bl1 := hk1.lt
  have lw_ : w7.heap.size ≤ w8.heap.size := by rw [hW0]; simp
  rw [← hW0]
  clear hW0
  have le_ : w7.heap.size ≤ w8.heap.size := lw_
  replace bl0 := Nat.lt_of_lt_of_le bl0 le_
  clear sz0 le_
  have sz0 := gg.size
  clear lw_
  refine (l01PickInt_c g A n c l _ q HN.out hm (reads_cur hr gg hlt0) hb _ 3 [0, 53, 80] hk1 (by omega) rfl (by omega) (by omega)).mono ?_
  rintro e w9 ⟨fp, i_fp, rfl, q1, hh⟩
  replace hk0 := blk_kept hk0 hh ne0
  replace hk1 := blk_kept hk1 hh ne1
  replace gg := grown_trans gg hh
  have le_ : w8.heap.size ≤ w9.heap.size := hh.size
  replace bl0 := Nat.lt_of_lt_of_le bl0 le_
  replace bl1 := Nat.lt_of_lt_of_le bl1 le_
  clear sz0 le_
  have sz0 := gg.size
  replace q := q1
  clear q1 hh
  clear hk1 ne1 bl1 lo1 df0_1
  go_wp2_with fail
  obtain ⟨w10, hW0⟩ : ∃ W, W = w9.alloc (.cells #[.int .i64 80, .int .i64 100, .int .i64 65535] 3) := ⟨_, rfl⟩
  replace hk0 : Blk w10 (w.heap.size) 58 [.int .i64 0, .int .i64 0, .int .i64 0, .int .i64 0, .int .i64 0, .int .i64 0, .int .i64 0, .int .i64 0, .int .i64 0] := by rw [hW0]; exact hk0.alloc _
  have lo1 : w.heap.size ≤ w9.heap.size := by omega
  have ne1 : some g ≠ some (w9.heap.size) := fun e => by injection e with e; omega
  have df0_1 : w.heap.size < w9.heap.size := by omega
  have hk1 : Blk w10 (w9.heap.size) 3 [.int .i64 80, .int .i64 100, .int .i64 65535] := by rw [hW0]; exact Blk.new _ _ _
  replace q : Cur w10 g A n c := by rw [hW0]; exact q.alloc _
  replace gg : w.grownBy w10 (some g) := by rw [hW0]; exact grown_al gg _
  have bl1 := hk1.lt
  have lw_ : w9.heap.size ≤ w10.heap.size := by rw [hW0]; simp
  rw [← hW0]
  clear hW0
  have le_ : w9.heap.size ≤ w10.heap.size := lw_
  replace bl0 := Nat.lt_of_lt_of_le bl0 le_
  clear sz0 le_
  have sz0 := gg.size
  clear lw_
  refine (l01PickInt_c g A n c l _ q HN.out hm (reads_cur hr gg hlt0) hb _ 3 [80, 100, 65535] hk1 (by omega) rfl (by omega) (by omega)).mono ?_
  rintro e w11 ⟨lp, i_lp, rfl, q1, hh⟩
  replace hk0 := blk_kept hk0 hh ne0
  replace hk1 := blk_kept hk1 hh ne1
  replace gg := grown_trans gg hh
  have le_ : w10.heap.size ≤ w11.heap.size := hh.size
  replace bl0 := Nat.lt_of_lt_of_le bl0 le_
  replace bl1 := Nat.lt_of_lt_of_le bl1 le_
  clear sz0 le_
  have sz0 := gg.size
  replace q := q1
  clear q1 hh
  clear hk1 ne1 bl1 lo1 df0_1
  go_wp2_with fail
  obtain ⟨w12, hW0⟩ : ∃ W, W = w11.alloc (.cells #[.int .i64 (-2), .int .i64 (-2), .int .i64 (-1), .int .i64 7] 3) := ⟨_, rfl⟩
  replace hk0 : Blk w12 (w.heap.size) 58 [.int .i64 0, .int .i64 0, .int .i64 0, .int .i64 0, .int .i64 0, .int .i64 0, .int .i64 0, .int .i64 0, .int .i64 0] := by rw [hW0]; exact hk0.alloc _
  have lo1 : w.heap.size ≤ w11.heap.size := by omega
  have ne1 : some g ≠ some (w11.heap.size) := fun e => by injection e with e; omega
  have df0_1 : w.heap.size < w11.heap.size := by omega
  have hk1 : Blk w12 (w11.heap.size) 3 [.int .i64 (-2), .int .i64 (-2), .int .i64 (-1), .int .i64 7] := by rw [hW0]; exact Blk.new _ _ _
  replace q : Cur w12 g A n c := by rw [hW0]; exact q.alloc _
  replace gg : w.grownBy w12 (some g) := by rw [hW0]; exact grown_al gg _
  have bl1 := hk1.lt
  have lw_ : w11.heap.size ≤ w12.heap.size := by rw [hW0]; simp
  rw [← hW0]
  clear hW0
  have le_ : w11.heap.size ≤ w12.heap.size := lw_
  replace bl0 := Nat.lt_of_lt_of_le bl0 le_
  clear sz0 le_
  have sz0 := gg.size
  clear lw_
  refine (l01PickInt_c g A n c l _ q HN.out hm (reads_cur hr gg hlt0) hb _ 4 [-2, -2, -1, 7] hk1 (by omega) rfl (by omega) (by omega)).mono ?_
  rintro e w13 ⟨vl, i_vl, rfl, q1, hh⟩
  replace hk0 := blk_kept hk0 hh ne0
  replace hk1 := blk_kept hk1 hh ne1
  replace gg := grown_trans gg hh
  have le_ : w12.heap.size ≤ w13.heap.size := hh.size
  replace bl0 := Nat.lt_of_lt_of_le bl0 le_
  replace bl1 := Nat.lt_of_lt_of_le bl1 le_
  clear sz0 le_
  have sz0 := gg.size
  replace q := q1
  clear q1 hh
  clear hk1 ne1 bl1 lo1 df0_1
  go_wp2_with fail
  obtain ⟨w14, hW0⟩ : ∃ W, W = w13.alloc (.cells #[.int .i64 0, .int .i64 0, .int .i64 1] 3) := ⟨_, rfl⟩
  replace hk0 : Blk w14 (w.heap.size) 58 [.int .i64 0, .int .i64 0, .int .i64 0, .int .i64 0, .int .i64 0, .int .i64 0, .int .i64 0, .int .i64 0, .int .i64 0] := by rw [hW0]; exact hk0.alloc _
  have lo1 : w.heap.size ≤ w13.heap.size := by omega
  have ne1 : some g ≠ some (w13.heap.size) := fun e => by injection e with e; omega
  have df0_1 : w.heap.size < w13.heap.size := by omega
  have hk1 : Blk w14 (w13.heap.size) 3 [.int .i64 0, .int .i64 0, .int .i64 1] := by rw [hW0]; exact Blk.new _ _ _
  replace q : Cur w14 g A n c := by rw [hW0]; exact q.alloc _
  replace gg : w.grownBy w14 (some g) := by rw [hW0]; exact grown_al gg _
  have bl1 := hk1.lt
  have lw_ : w13.heap.size ≤ w14.heap.size := by rw [hW0]; simp
  rw [← hW0]
  clear hW0
  have le_ : w13.heap.size ≤ w14.heap.size := lw_
  replace bl0 := Nat.lt_of_lt_of_le bl0 le_
  clear sz0 le_
  have sz0 := gg.size
  clear lw_
  refine (l01PickInt_c g A n c l _ q HN.out hm (reads_cur hr gg hlt0) hb _ 3 [0, 0, 1] hk1 (by omega) rfl (by omega) (by omega)).mono ?_
  rintro e w15 ⟨ac, i_ac, rfl, q1, hh⟩
  replace hk0 := blk_kept hk0 hh ne0
  replace hk1 := blk_kept hk1 hh ne1
  replace gg := grown_trans gg hh
  have le_ : w14.heap.size ≤ w15.heap.size := hh.size
  replace bl0 := Nat.lt_of_lt_of_le bl0 le_
  replace bl1 := Nat.lt_of_lt_of_le bl1 le_
  clear sz0 le_
  have sz0 := gg.size
  replace q := q1
  clear q1 hh
  clear hk1 ne1 bl1 lo1 df0_1
  have hac : ac = 0 ∨ ac = 1 := by simp only [List.mem_cons, List.not_mem_nil, or_false] at i_ac; omega
  clear i_ac
  rcases hac with rfl | rfl
  · go_upto_region 2 with fail
    obtain ⟨w16, hW0⟩ : ∃ W, W = w15.alloc (.cells #[.int .i64 pr, .int .i64 kd, .int .i64 si, .int .i64 sb, .int .i64 fp, .int .i64 lp, .int .i64 vl, .int .i64 0, .int .i64 0] 58) := ⟨_, rfl⟩
    replace hk0 : Blk w16 (w.heap.size) 58 [.int .i64 0, .int .i64 0, .int .i64 0, .int .i64 0, .int .i64 0, .int .i64 0, .int .i64 0, .int .i64 0, .int .i64 0] := by rw [hW0]; exact hk0.alloc _
    have lo1 : w.heap.size ≤ w15.heap.size := by omega
    have ne1 : some g ≠ some (w15.heap.size) := fun e => by injection e with e; omega
    have df0_1 : w.heap.size < w15.heap.size := by omega
    have hk1 : Blk w16 (w15.heap.size) 58 [.int .i64 pr, .int .i64 kd, .int .i64 si, .int .i64 sb, .int .i64 fp, .int .i64 lp, .int .i64 vl, .int .i64 0, .int .i64 0] := by rw [hW0]; exact Blk.new _ _ _
    replace q : Cur w16 g A n c := by rw [hW0]; exact q.alloc _
    replace gg : w.grownBy w16 (some g) := by rw [hW0]; exact grown_al gg _
    have bl1 := hk1.lt
    have lw_ : w15.heap.size ≤ w16.heap.size := by rw [hW0]; simp
    rw [← hW0]
    clear hW0
    have le_ : w15.heap.size ≤ w16.heap.size := lw_
    replace bl0 := Nat.lt_of_lt_of_le bl0 le_
    clear sz0 le_
    have sz0 := gg.size
    clear lw_
    have c1_7 := hk1.at_ 7 _ rfl
    go_wp2_with fail
    refine (l01Below_c g A n c l _ q HN.out hm (reads_cur hr gg hlt0) hb 4 (by omega) (by omega)).mono ?_
    rintro e w17 ⟨qq, ⟨qq0, qq1⟩, rfl, q1, hh⟩
    replace hk0 := blk_kept hk0 hh ne0
    replace hk1 := blk_kept hk1 hh ne1
    replace gg := grown_trans gg hh
    have le_ : w16.heap.size ≤ w17.heap.size := hh.size
    replace bl0 := Nat.lt_of_lt_of_le bl0 le_
    replace bl1 := Nat.lt_of_lt_of_le bl1 le_
    clear sz0 le_
    have sz0 := gg.size
    replace q := q1
    clear q1 hh
    clear c1_7
    have c1_0 := hk1.at_ 0 _ rfl
    have f1_0 := hk1.frozen 0
    have c1_1 := hk1.at_ 1 _ rfl
    have f1_1 := hk1.frozen 1
    have c1_2 := hk1.at_ 2 _ rfl
    have f1_2 := hk1.frozen 2
    have c1_3 := hk1.at_ 3 _ rfl
    have f1_3 := hk1.frozen 3
    have c1_4 := hk1.at_ 4 _ rfl
    have f1_4 := hk1.frozen 4
    have c1_5 := hk1.at_ 5 _ rfl
    have f1_5 := hk1.frozen 5
    have c1_6 := hk1.at_ 6 _ rfl
    have f1_6 := hk1.frozen 6
    have c1_7 := hk1.at_ 7 _ rfl
    have f1_7 := hk1.frozen 7
    have c1_8 := hk1.at_ 8 _ rfl
    have f1_8 := hk1.frozen 8
    have c0_0 := hk0.at_ 0 _ rfl
    have f0_0 := hk0.frozen 0
    have c0_1 := hk0.at_ 1 _ rfl
    have f0_1 := hk0.frozen 1
    have c0_2 := hk0.at_ 2 _ rfl
    have f0_2 := hk0.frozen 2
    have c0_3 := hk0.at_ 3 _ rfl
    have f0_3 := hk0.frozen 3
    have c0_4 := hk0.at_ 4 _ rfl
    have f0_4 := hk0.frozen 4
    have c0_5 := hk0.at_ 5 _ rfl
    have f0_5 := hk0.frozen 5
    have c0_6 := hk0.at_ 6 _ rfl
    have f0_6 := hk0.frozen 6
    have c0_7 := hk0.at_ 7 _ rfl
    have f0_7 := hk0.frozen 7
    have c0_8 := hk0.at_ 8 _ rfl
    have f0_8 := hk0.frozen 8
    go_wp2_with fail
    obtain ⟨w18, hW0⟩ : ∃ W, W = w17.setCell ⟨w15.heap.size, 8, none⟩ (.int .i64 qq) := ⟨_, rfl⟩
    replace hk0 : Blk w18 (w.heap.size) 58 [.int .i64 0, .int .i64 0, .int .i64 0, .int .i64 0, .int .i64 0, .int .i64 0, .int .i64 0, .int .i64 0, .int .i64 0] := by rw [hW0]; exact hk0.far' (p := ⟨w15.heap.size, 8, none⟩) (show w15.heap.size ≠ w.heap.size by omega) _
    replace hk1 : Blk w18 (w15.heap.size) 58 [.int .i64 pr, .int .i64 kd, .int .i64 si, .int .i64 sb, .int .i64 fp, .int .i64 lp, .int .i64 vl, .int .i64 0, .int .i64 qq] := by rw [hW0]; exact hk1.set_ 8 _
    replace q : Cur w18 g A n c := by rw [hW0]; exact cur_fr q (p := ⟨w15.heap.size, 8, none⟩) (show w15.heap.size ≠ g by omega) _
    replace gg : w.grownBy w18 (some g) := by rw [hW0]; exact only_setCell gg (p := ⟨w15.heap.size, 8, none⟩) (.inr (show w.heap.size ≤ w15.heap.size by omega)) _
    have lw_ : w17.heap.size ≤ w18.heap.size := by rw [hW0]; simp
    rw [← hW0]
    clear hW0
    have le_ : w17.heap.size ≤ w18.heap.size := lw_
    replace bl0 := Nat.lt_of_lt_of_le bl0 le_
    replace bl1 := Nat.lt_of_lt_of_le bl1 le_
    clear sz0 le_
    have sz0 := gg.size
    clear lw_
    clear c1_0 f1_0 c1_1 f1_1 c1_2 f1_2 c1_3 f1_3 c1_4 f1_4 c1_5 f1_5 c1_6 f1_6 c1_7 f1_7 c1_8 f1_8 c0_0 f0_0 c0_1 f0_1 c0_2 f0_2 c0_3 f0_3 c0_4 f0_4 c0_5 f0_5 c0_6 f0_6 c0_7 f0_7 c0_8 f0_8
    clear hk1 ne1 bl1 lo1 df0_1
    obtain ⟨w19, hW0⟩ : ∃ W, W = w18.setCell ⟨w.heap.size, 0, none⟩ (.int .i64 pr) := ⟨_, rfl⟩
    replace hk0 := blk_stp hk0 hW0
    replace q : Cur w19 g A n c := by rw [hW0]; exact cur_fr q (p := ⟨w.heap.size, 0, none⟩) (show w.heap.size ≠ g by omega) _
    replace gg : w.grownBy w19 (some g) := by rw [hW0]; exact only_setCell gg (p := ⟨w.heap.size, 0, none⟩) (.inr (show w.heap.size ≤ w.heap.size by omega)) _
    rw [← hW0]
    clear hW0
    obtain ⟨w20, hW0⟩ : ∃ W, W = w19.setCell ⟨w.heap.size, 1, none⟩ (.int .i64 kd) := ⟨_, rfl⟩
    replace hk0 := blk_stp hk0 hW0
    replace q : Cur w20 g A n c := by rw [hW0]; exact cur_fr q (p := ⟨w.heap.size, 1, none⟩) (show w.heap.size ≠ g by omega) _
    replace gg : w.grownBy w20 (some g) := by rw [hW0]; exact only_setCell gg (p := ⟨w.heap.size, 1, none⟩) (.inr (show w.heap.size ≤ w.heap.size by omega)) _
    rw [← hW0]
    clear hW0
    obtain ⟨w21, hW0⟩ : ∃ W, W = w20.setCell ⟨w.heap.size, 2, none⟩ (.int .i64 si) := ⟨_, rfl⟩
    replace hk0 := blk_stp hk0 hW0
    replace q : Cur w21 g A n c := by rw [hW0]; exact cur_fr q (p := ⟨w.heap.size, 2, none⟩) (show w.heap.size ≠ g by omega) _
    replace gg : w.grownBy w21 (some g) := by rw [hW0]; exact only_setCell gg (p := ⟨w.heap.size, 2, none⟩) (.inr (show w.heap.size ≤ w.heap.size by omega)) _
    rw [← hW0]
    clear hW0
    obtain ⟨w22, hW0⟩ : ∃ W, W = w21.setCell ⟨w.heap.size, 3, none⟩ (.int .i64 sb) := ⟨_, rfl⟩
    replace hk0 := blk_stp hk0 hW0
    replace q : Cur w22 g A n c := by rw [hW0]; exact cur_fr q (p := ⟨w.heap.size, 3, none⟩) (show w.heap.size ≠ g by omega) _
    replace gg : w.grownBy w22 (some g) := by rw [hW0]; exact only_setCell gg (p := ⟨w.heap.size, 3, none⟩) (.inr (show w.heap.size ≤ w.heap.size by omega)) _
    rw [← hW0]
    clear hW0
    obtain ⟨w23, hW0⟩ : ∃ W, W = w22.setCell ⟨w.heap.size, 4, none⟩ (.int .i64 fp) := ⟨_, rfl⟩
    replace hk0 := blk_stp hk0 hW0
    replace q : Cur w23 g A n c := by rw [hW0]; exact cur_fr q (p := ⟨w.heap.size, 4, none⟩) (show w.heap.size ≠ g by omega) _
    replace gg : w.grownBy w23 (some g) := by rw [hW0]; exact only_setCell gg (p := ⟨w.heap.size, 4, none⟩) (.inr (show w.heap.size ≤ w.heap.size by omega)) _
    rw [← hW0]
    clear hW0
    obtain ⟨w24, hW0⟩ : ∃ W, W = w23.setCell ⟨w.heap.size, 5, none⟩ (.int .i64 lp) := ⟨_, rfl⟩
    replace hk0 := blk_stp hk0 hW0
    replace q : Cur w24 g A n c := by rw [hW0]; exact cur_fr q (p := ⟨w.heap.size, 5, none⟩) (show w.heap.size ≠ g by omega) _
    replace gg : w.grownBy w24 (some g) := by rw [hW0]; exact only_setCell gg (p := ⟨w.heap.size, 5, none⟩) (.inr (show w.heap.size ≤ w.heap.size by omega)) _
    rw [← hW0]
    clear hW0
    obtain ⟨w25, hW0⟩ : ∃ W, W = w24.setCell ⟨w.heap.size, 6, none⟩ (.int .i64 vl) := ⟨_, rfl⟩
    replace hk0 := blk_stp hk0 hW0
    replace q : Cur w25 g A n c := by rw [hW0]; exact cur_fr q (p := ⟨w.heap.size, 6, none⟩) (show w.heap.size ≠ g by omega) _
    replace gg : w.grownBy w25 (some g) := by rw [hW0]; exact only_setCell gg (p := ⟨w.heap.size, 6, none⟩) (.inr (show w.heap.size ≤ w.heap.size by omega)) _
    rw [← hW0]
    clear hW0
    obtain ⟨w26, hW0⟩ : ∃ W, W = w25.setCell ⟨w.heap.size, 7, none⟩ (.int .i64 0) := ⟨_, rfl⟩
    replace hk0 := blk_stp hk0 hW0
    replace q : Cur w26 g A n c := by rw [hW0]; exact cur_fr q (p := ⟨w.heap.size, 7, none⟩) (show w.heap.size ≠ g by omega) _
    replace gg : w.grownBy w26 (some g) := by rw [hW0]; exact only_setCell gg (p := ⟨w.heap.size, 7, none⟩) (.inr (show w.heap.size ≤ w.heap.size by omega)) _
    rw [← hW0]
    clear hW0
    obtain ⟨w27, hW0⟩ : ∃ W, W = w26.setCell ⟨w.heap.size, 8, none⟩ (.int .i64 qq) := ⟨_, rfl⟩
    replace hk0 := blk_stp hk0 hW0
    replace q : Cur w27 g A n c := by rw [hW0]; exact cur_fr q (p := ⟨w.heap.size, 8, none⟩) (show w.heap.size ≠ g by omega) _
    replace gg : w.grownBy w27 (some g) := by rw [hW0]; exact only_setCell gg (p := ⟨w.heap.size, 8, none⟩) (.inr (show w.heap.size ≤ w.heap.size by omega)) _
    rw [← hW0]
    clear hW0
    replace hk0 : Blk w27 (w.heap.size) 58 [.int .i64 pr, .int .i64 kd, .int .i64 si, .int .i64 sb, .int .i64 fp, .int .i64 lp, .int .i64 vl, .int .i64 0, .int .i64 qq] := hk0
    have hv := loadVar_blk (P := Try.prog) hk0 (n := 9) rfl (by simp [go_sem]) (by simp [go_sem])
    refine bodyPost_ret (v := .agg #[.int .i64 pr, .int .i64 kd, .int .i64 si, .int .i64 sb, .int .i64 fp, .int .i64 lp, .int .i64 vl, .int .i64 0, .int .i64 qq]) (by simp [results, Try.results65, asAddr, Result.andThen, hv]) rfl ?_
    exact ⟨⟨pr, kd, si, sb, fp, lp, vl, 0, qq⟩, ruleD_mk pr0 pr1 i_kd si0 si1 i_sb i_fp i_lp i_vl (.inl ⟨rfl, qq0, by omega⟩), rfl, q, gg⟩
  · go_upto_region 2 with fail
    obtain ⟨w16, hW0⟩ : ∃ W, W = w15.alloc (.cells #[.int .i64 pr, .int .i64 kd, .int .i64 si, .int .i64 sb, .int .i64 fp, .int .i64 lp, .int .i64 vl, .int .i64 1, .int .i64 0] 58) := ⟨_, rfl⟩
    replace hk0 : Blk w16 (w.heap.size) 58 [.int .i64 0, .int .i64 0, .int .i64 0, .int .i64 0, .int .i64 0, .int .i64 0, .int .i64 0, .int .i64 0, .int .i64 0] := by rw [hW0]; exact hk0.alloc _
    have lo1 : w.heap.size ≤ w15.heap.size := by omega
    have ne1 : some g ≠ some (w15.heap.size) := fun e => by injection e with e; omega
    have df0_1 : w.heap.size < w15.heap.size := by omega
    have hk1 : Blk w16 (w15.heap.size) 58 [.int .i64 pr, .int .i64 kd, .int .i64 si, .int .i64 sb, .int .i64 fp, .int .i64 lp, .int .i64 vl, .int .i64 1, .int .i64 0] := by rw [hW0]; exact Blk.new _ _ _
    replace q : Cur w16 g A n c := by rw [hW0]; exact q.alloc _
    replace gg : w.grownBy w16 (some g) := by rw [hW0]; exact grown_al gg _
    have bl1 := hk1.lt
    have lw_ : w15.heap.size ≤ w16.heap.size := by rw [hW0]; simp
    rw [← hW0]
    clear hW0
    have le_ : w15.heap.size ≤ w16.heap.size := lw_
    replace bl0 := Nat.lt_of_lt_of_le bl0 le_
    clear sz0 le_
    have sz0 := gg.size
    clear lw_
    have c1_0 := hk1.at_ 0 _ rfl
    have f1_0 := hk1.frozen 0
    have c1_1 := hk1.at_ 1 _ rfl
    have f1_1 := hk1.frozen 1
    have c1_2 := hk1.at_ 2 _ rfl
    have f1_2 := hk1.frozen 2
    have c1_3 := hk1.at_ 3 _ rfl
    have f1_3 := hk1.frozen 3
    have c1_4 := hk1.at_ 4 _ rfl
    have f1_4 := hk1.frozen 4
    have c1_5 := hk1.at_ 5 _ rfl
    have f1_5 := hk1.frozen 5
    have c1_6 := hk1.at_ 6 _ rfl
    have f1_6 := hk1.frozen 6
    have c1_7 := hk1.at_ 7 _ rfl
    have f1_7 := hk1.frozen 7
    have c1_8 := hk1.at_ 8 _ rfl
    have f1_8 := hk1.frozen 8
    have c0_0 := hk0.at_ 0 _ rfl
    have f0_0 := hk0.frozen 0
    have c0_1 := hk0.at_ 1 _ rfl
    have f0_1 := hk0.frozen 1
    have c0_2 := hk0.at_ 2 _ rfl
    have f0_2 := hk0.frozen 2
    have c0_3 := hk0.at_ 3 _ rfl
    have f0_3 := hk0.frozen 3
    have c0_4 := hk0.at_ 4 _ rfl
    have f0_4 := hk0.frozen 4
    have c0_5 := hk0.at_ 5 _ rfl
    have f0_5 := hk0.frozen 5
    have c0_6 := hk0.at_ 6 _ rfl
    have f0_6 := hk0.frozen 6
    have c0_7 := hk0.at_ 7 _ rfl
    have f0_7 := hk0.frozen 7
    have c0_8 := hk0.at_ 8 _ rfl
    have f0_8 := hk0.frozen 8
    go_wp2_with fail
    clear hk1 ne1 bl1 lo1 df0_1
    obtain ⟨w17, hW0⟩ : ∃ W, W = w16.setCell ⟨w.heap.size, 0, none⟩ (.int .i64 pr) := ⟨_, rfl⟩
    replace hk0 := blk_stp hk0 hW0
    replace q : Cur w17 g A n c := by rw [hW0]; exact cur_fr q (p := ⟨w.heap.size, 0, none⟩) (show w.heap.size ≠ g by omega) _
    replace gg : w.grownBy w17 (some g) := by rw [hW0]; exact only_setCell gg (p := ⟨w.heap.size, 0, none⟩) (.inr (show w.heap.size ≤ w.heap.size by omega)) _
    rw [← hW0]
    clear hW0
    clear c1_0 f1_0 c1_1 f1_1 c1_2 f1_2 c1_3 f1_3 c1_4 f1_4 c1_5 f1_5 c1_6 f1_6 c1_7 f1_7 c1_8 f1_8 c0_0 f0_0 c0_1 f0_1 c0_2 f0_2 c0_3 f0_3 c0_4 f0_4 c0_5 f0_5 c0_6 f0_6 c0_7 f0_7 c0_8 f0_8
    obtain ⟨w18, hW0⟩ : ∃ W, W = w17.setCell ⟨w.heap.size, 1, none⟩ (.int .i64 kd) := ⟨_, rfl⟩
    replace hk0 := blk_stp hk0 hW0
    replace q : Cur w18 g A n c := by rw [hW0]; exact cur_fr q (p := ⟨w.heap.size, 1, none⟩) (show w.heap.size ≠ g by omega) _
    replace gg : w.grownBy w18 (some g) := by rw [hW0]; exact only_setCell gg (p := ⟨w.heap.size, 1, none⟩) (.inr (show w.heap.size ≤ w.heap.size by omega)) _
    rw [← hW0]
    clear hW0
    obtain ⟨w19, hW0⟩ : ∃ W, W = w18.setCell ⟨w.heap.size, 2, none⟩ (.int .i64 si) := ⟨_, rfl⟩
    replace hk0 := blk_stp hk0 hW0
    replace q : Cur w19 g A n c := by rw [hW0]; exact cur_fr q (p := ⟨w.heap.size, 2, none⟩) (show w.heap.size ≠ g by omega) _
    replace gg : w.grownBy w19 (some g) := by rw [hW0]; exact only_setCell gg (p := ⟨w.heap.size, 2, none⟩) (.inr (show w.heap.size ≤ w.heap.size by omega)) _
    rw [← hW0]
    clear hW0
    obtain ⟨w20, hW0⟩ : ∃ W, W = w19.setCell ⟨w.heap.size, 3, none⟩ (.int .i64 sb) := ⟨_, rfl⟩
    replace hk0 := blk_stp hk0 hW0
    replace q : Cur w20 g A n c := by rw [hW0]; exact cur_fr q (p := ⟨w.heap.size, 3, none⟩) (show w.heap.size ≠ g by omega) _
    replace gg : w.grownBy w20 (some g) := by rw [hW0]; exact only_setCell gg (p := ⟨w.heap.size, 3, none⟩) (.inr (show w.heap.size ≤ w.heap.size by omega)) _
    rw [← hW0]
    clear hW0
    obtain ⟨w21, hW0⟩ : ∃ W, W = w20.setCell ⟨w.heap.size, 4, none⟩ (.int .i64 fp) := ⟨_, rfl⟩
    replace hk0 := blk_stp hk0 hW0
    replace q : Cur w21 g A n c := by rw [hW0]; exact cur_fr q (p := ⟨w.heap.size, 4, none⟩) (show w.heap.size ≠ g by omega) _
    replace gg : w.grownBy w21 (some g) := by rw [hW0]; exact only_setCell gg (p := ⟨w.heap.size, 4, none⟩) (.inr (show w.heap.size ≤ w.heap.size by omega)) _
    rw [← hW0]
    clear hW0
    obtain ⟨w22, hW0⟩ : ∃ W, W = w21.setCell ⟨w.heap.size, 5, none⟩ (.int .i64 lp) := ⟨_, rfl⟩
    replace hk0 := blk_stp hk0 hW0
    replace q : Cur w22 g A n c := by rw [hW0]; exact cur_fr q (p := ⟨w.heap.size, 5, none⟩) (show w.heap.size ≠ g by omega) _
    replace gg : w.grownBy w22 (some g) := by rw [hW0]; exact only_setCell gg (p := ⟨w.heap.size, 5, none⟩) (.inr (show w.heap.size ≤ w.heap.size by omega)) _
    rw [← hW0]
    clear hW0
    obtain ⟨w23, hW0⟩ : ∃ W, W = w22.setCell ⟨w.heap.size, 6, none⟩ (.int .i64 vl) := ⟨_, rfl⟩
    replace hk0 := blk_stp hk0 hW0
    replace q : Cur w23 g A n c := by rw [hW0]; exact cur_fr q (p := ⟨w.heap.size, 6, none⟩) (show w.heap.size ≠ g by omega) _
    replace gg : w.grownBy w23 (some g) := by rw [hW0]; exact only_setCell gg (p := ⟨w.heap.size, 6, none⟩) (.inr (show w.heap.size ≤ w.heap.size by omega)) _
    rw [← hW0]
    clear hW0
    obtain ⟨w24, hW0⟩ : ∃ W, W = w23.setCell ⟨w.heap.size, 7, none⟩ (.int .i64 1) := ⟨_, rfl⟩
    replace hk0 := blk_stp hk0 hW0
    replace q : Cur w24 g A n c := by rw [hW0]; exact cur_fr q (p := ⟨w.heap.size, 7, none⟩) (show w.heap.size ≠ g by omega) _
    replace gg : w.grownBy w24 (some g) := by rw [hW0]; exact only_setCell gg (p := ⟨w.heap.size, 7, none⟩) (.inr (show w.heap.size ≤ w.heap.size by omega)) _
    rw [← hW0]
    clear hW0
    obtain ⟨w25, hW0⟩ : ∃ W, W = w24.setCell ⟨w.heap.size, 8, none⟩ (.int .i64 0) := ⟨_, rfl⟩
    replace hk0 := blk_stp hk0 hW0
    replace q : Cur w25 g A n c := by rw [hW0]; exact cur_fr q (p := ⟨w.heap.size, 8, none⟩) (show w.heap.size ≠ g by omega) _
    replace gg : w.grownBy w25 (some g) := by rw [hW0]; exact only_setCell gg (p := ⟨w.heap.size, 8, none⟩) (.inr (show w.heap.size ≤ w.heap.size by omega)) _
    rw [← hW0]
    clear hW0
    replace hk0 : Blk w25 (w.heap.size) 58 [.int .i64 pr, .int .i64 kd, .int .i64 si, .int .i64 sb, .int .i64 fp, .int .i64 lp, .int .i64 vl, .int .i64 1, .int .i64 0] := hk0
    have hv := loadVar_blk (P := Try.prog) hk0 (n := 9) rfl (by simp [go_sem]) (by simp [go_sem])
    refine bodyPost_ret (v := .agg #[.int .i64 pr, .int .i64 kd, .int .i64 si, .int .i64 sb, .int .i64 fp, .int .i64 lp, .int .i64 vl, .int .i64 1, .int .i64 0]) (by simp [results, Try.results65, asAddr, Result.andThen, hv]) rfl ?_
    exact ⟨⟨pr, kd, si, sb, fp, lp, vl, 1, 0⟩, ruleD_mk pr0 pr1 i_kd si0 si1 i_sb i_fp i_lp i_vl (.inr ⟨rfl, rfl⟩), rfl, q, gg⟩
set_option maxRecDepth 100000 in
set_option maxHeartbeats 4000000 in
theorem l14Rules_c (g : Nat) (A : Option Addr) (n c : Nat) (l : List Int) (w : World) (hcur : Cur w g A n c) (hn : l.length = n) (hm : n ≤ 1048576) (hr : Reads w g 1 A n (l.flatMap fun x : Int => [Value.int .u8 x])) (hb : ∀ x ∈ l, 0 ≤ x ∧ x ≤ 255) :
    Calls Try.prog 39 #[.pointer (some ⟨g, 0, none⟩)] w (DrawRl g A n c w) := by
  obtain ⟨i0, hi, hz0, hz1, hz2⟩ := info_parts info_RuleD
  have hlt0 := hcur.lt
  have HN := Lib.hid hn
  clear hn
  go_enter Try.func39, Try.ntmps39
  go_wp2_with fail
  refine (l01Below_c g A n c l _ (hcur.alloc _) HN.out hm (reads_cur hr (grown_al (World.grownBy.refl _ _) _) hlt0) hb 5 (by decide) (by decide)).mono ?_
  rintro e w1 ⟨xk, ⟨k0, k1⟩, rfl, q1, hh⟩
  have own1 := own_cur (own_empty (Blk.new w 58 []) (Nat.le_refl _) (size := 9)) hh hlt0
  have g1 := grown_trans (grown_al (World.grownBy.refl w (some g)) _) hh
  clear hh
  go_wp2
  go_loopw [3, 4] (fun v i wr => ∃ (k : Int) (rs : List Rule) (j : Nat) (u : Value), v = u ∧ i = .int .i64 k ∧ 0 ≤ k ∧ (j : Int) + k ≤ 4 ∧ Hid (rs.length = j) ∧ Hid (∀ x ∈ rs, ruleB x = true) ∧ wr.ownsRow w.heap.size 58 9 u j (rs.flatMap Rule.cells) ∧ Cur wr g A n c ∧ w.grownBy wr (some g)) (fun _ i _ => (intOf i).toNat)
  case atStart => exact ⟨xk, [], 0, _, rfl, rfl, by omega, by omega, Lib.hid rfl, Lib.hid (by simp), own1, q1, g1⟩
  case round =>
    obtain ⟨k, rs, j, u, hu, rfl, hk0, hk, HJ, HP, own2, q2, hg2⟩ := hrel
    have hu := hu.symm
    subst hu
    clear own1 q1 g1
    have hzr := hg2.size
    by_cases hlt : 0 < k
    · go_wp2_with fail
      refine (l14Rule_c g A n c l _ q2 HN.out hm (reads_cur hr hg2 hlt0) hb).mono ?_
      rintro e w3 ⟨x, hx, rfl, q4, hh⟩
      have own4 := own_cur own2 hh hlt0
      have hg4 := grown_trans hg2 hh
      have HX := Lib.hid hx
      clear hh own2 hx
      go_wp2_with (at_builtin; refine wpList_append_own _ rfl _ _ 24 rfl w.heap.size 58 i0 (.agg #[.int .i64 0, .int .i64 0, .int .i64 0, .int .i64 0, .int .i64 0, .int .i64 0, .int .i64 0, .int .i64 0, .int .i64 0]) 9 72 Try.underlying24 hi hz0 hz1 hz2 rfl (by decide) _ _ _ rfl (own4.alloc _) ⟨w3.heap.size, 0, none⟩ 1 1 (Rule.cells x) rfl rfl (cells_new _ _ _) ?c2 ?c3 ?c4 ?c5 ?_; (case c2 => exact oneRule x); (case c3 => (unfold maxLen; omega)); (case c4 => omega); (case c5 => (simp only [World.size_alloc]; have := hg4.size; omega)); intro v2 w4 hown2 hg5 hn2; have hq2 := cur_kept (q4.alloc _) hg5 (fun e => by have := (own4.lt _ e).1; omega); have hg6 := grown_own (grown_al hg4 _) (own4.alloc _) hg5; clear hn2 hg5)
      go_roundw
      case rel => exact ⟨k - 1, rs ++ [x], j + 1, v2, rfl, rfl, by omega, by omega, Lib.hid (by simp [HJ.out]), Lib.hid (fun y hy => by
        rcases List.mem_append.1 hy with hy | hy
        · exact HP.out y hy
        · simp at hy; subst hy; exact HX.out), by rw [flat_snocR]; exact hown2, hq2, hg6⟩
      case measure => simp [intOf]; omega
    · go_wp2
      go_ret
      obtain ⟨A2, c2, rfl, _, _, _⟩ := own_form own2
      have hj := HJ.out
      subst hj
      exact ⟨rs, A2, c2, ⟨by omega, HP.out⟩, rfl, own2, q2, hg2⟩
end Go.Proofs.Ytkfekgmdjemkbaa
