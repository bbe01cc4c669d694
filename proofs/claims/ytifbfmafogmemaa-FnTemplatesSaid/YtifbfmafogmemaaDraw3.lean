/- Contract of the reference's draws: l01Text. -/
import Derived.Test.YtifbfmafogmemaaDraw2
namespace Go.Proofs.Ytifbfmafogmemaa
set_option linter.unusedSimpArgs false
set_option linter.unusedVariables false
open Go.RowKit Go.ChangeShapes Go.WideShapes
theorem strCells_push (t : ByteArray) {x : Int} (h0 : 0 ≤ x) (h1 : x ≤ 255) : Go.Lib.strCells (t ++ strOfNums [x]) = Go.Lib.strCells t ++ [.int .u8 x] := by
  rw [strCells_append]
  congr 1
  obtain ⟨k, rfl⟩ := Int.eq_ofNat_of_zero_le h0
  simp [Go.Lib.strCells, strOfNums]
  omega
theorem grown_al {a W : World} {row : Option Nat} (h : a.grownBy W row) (o : Obj) : a.grownBy (W.alloc o) row :=
  ⟨h.os, h.tape, h.output, Nat.le_trans h.size (by simp), fun i hi hne => (Below.heap_alloc W o i (Nat.lt_of_lt_of_le hi h.size)).trans (h.block i hi hne)⟩
theorem grown_own {a W w2 : World} {row : Option Nat} {e : TypeId} {size n : Nat} {v : Value} {xs : List Value} (h1 : a.grownBy W row) (hown : W.ownsRow a.heap.size e size v n xs) (h2 : W.grownBy w2 v.ownBlock) : a.grownBy w2 row :=
  ⟨h2.os.trans h1.os, h2.tape.trans h1.tape, h2.output.trans h1.output, Nat.le_trans h1.size h2.size, fun i hi hne => (h2.block i (Nat.lt_of_lt_of_le hi h1.size) (fun e => by have := (hown.lt i e.symm).1; omega)).trans (h1.block i hi hne)⟩
theorem Cur.alloc {w : World} {g : Nat} {A : Option Addr} {n c : Nat} (h : Cur w g A n c) (o : Obj) : Cur (w.alloc o) g A n c := by
  obtain ⟨i, k, hb, r⟩ := h; exact ⟨i, k, hb.alloc o, r⟩
theorem cur_kept {w w1 : World} {g : Nat} {A : Option Addr} {n c : Nat} {row : Option Nat} (h : Cur w g A n c) (hg : w.grownBy w1 row) (hne : row = some g → False) : Cur w1 g A n c := by
  obtain ⟨i, k, hb, r⟩ := h
  exact ⟨i, k, (hg.block g hb.lt (fun e => hne e.symm)).trans hb, r⟩
/-- A drawn text of k bytes. -/
def DrawS (k : Int) (g : Nat) (A : Option Addr) (n c : Nat) (w : World) (e : Ending) (w' : World) : Prop := ∃ s : ByteArray, (s.size : Int) = k ∧ e = .returned (.string s) ∧ Cur w' g A n c ∧ w.grownBy w' (some g)
set_option maxRecDepth 100000 in
set_option maxHeartbeats 2000000 in
theorem l01Text_c (g : Nat) (A : Option Addr) (n c : Nat) (l : List Int) (w : World) (hcur : Cur w g A n c) (hn : l.length = n) (hm : n ≤ 1048576) (hr : Reads w g 1 A n (l.flatMap fun x : Int => [Value.int .u8 x])) (hb : ∀ x ∈ l, 0 ≤ x ∧ x ≤ 255) (k : Int) (hk0 : 0 ≤ k) (hk1 : k ≤ 5000) :
    Calls Try.prog 133 #[.pointer (some ⟨g, 0, none⟩), .int .i64 k] w (DrawS k g A n c w) := by
  obtain ⟨m, rfl⟩ := Int.eq_ofNat_of_zero_le hk0
  obtain ⟨i0, hi, hz0, hz1, hz2⟩ := info_parts info_u8'
  have hlt0 := hcur.lt
  have HN := Lib.hid hn
  clear hn
  go_enter Try.func133, Try.ntmps133
  go_wp2
  go_loopw [5, 6] (fun ov i wr => ∃ (j : Nat) (t : ByteArray) (u : Value), j ≤ m ∧ i = .int .i64 (j : Int) ∧ ov = u ∧ Hid (t.size = j) ∧ wr.ownsRow w.heap.size 5 1 u j (Go.Lib.strCells t) ∧ w.grownBy wr (some g) ∧ Cur wr g A n c) (fun _ i _ => m - (intOf i).toNat)
  case atStart => exact ⟨0, ⟨#[]⟩, _, Nat.zero_le _, rfl, rfl, rfl, own_empty (Blk.new w 5 []) (Nat.le_refl _), grown_al (World.grownBy.refl _ _) _, hcur.alloc _⟩
  case round =>
    obtain ⟨j, t, u, hj, rfl, hu, hts, hown, hgr, hcr⟩ := hrel
    have hu := hu.symm
    subst hu
    have hzr := hgr.size
    by_cases hlt : j < m
    · go_wp2_with fail
      refine (l01Byte_c g A n c l _ hcr HN.out hm (reads_cur hr hgr hlt0) hb).mono ?_
      rintro e w1 ⟨x1, ⟨y0, y1⟩, rfl, q1, hh⟩
      have hg1 := grown_trans hgr hh
      have own1 := own_far (u := .slice (some ⟨g, 0, none⟩) 0 0) hown hh (fun q h1 h2 => by
        have h3 : g = q := by simpa [Value.ownBlock] using h2
        have := (hown.lt q h1).1
        omega)
      have ew : IntKind.u8.wrap x1 = x1 := by rw [IntKind.wrap_u8']; omega
      have HS := Lib.hid (strCells_push t y0 y1)
      clear hh
      go_wp2_with (at_builtin; refine wpList_append_own _ rfl _ _ 36 rfl w.heap.size 5 i0 (.int .u8 0) 1 1 Try.underlying36 hi hz0 hz1 hz2 rfl (by decide) _ _ _ rfl (own1.alloc _) ⟨w1.heap.size, 0, none⟩ 1 1 [.int .u8 x1] rfl rfl (cells_new _ _ _) ?c2 ?c3 ?c4 ?c5 ?_; (case c2 => (intro u hu; simp at hu; subst hu; rfl)); (case c3 => (unfold maxLen; omega)); (case c4 => omega); (case c5 => (simp only [World.size_alloc]; have := hg1.size; omega)); intro v2 w2 hown2 hg2 hn2; have hq2 := cur_kept (q1.alloc _) hg2 (fun e => by have := (own1.lt _ e).1; omega); have hg3 := grown_own (grown_al hg1 _) (own1.alloc _) hg2; clear hn2 hg2)
      go_roundw
      case rel => exact ⟨j + 1, t ++ strOfNums [x1], v2, by omega, by go_num, rfl, by rw [Hid, ByteArray.size_append, hts.out, strOfNums_size]; rfl, by rw [HS.out]; exact hown2, hg3, hq2⟩
      case measure => simp [intOf]; omega
    · have hjm : j = m := by omega
      subst hjm
      have hcv := own_to_string hown
      go_wp2
      go_ret
      exact ⟨t, by rw [hts.out], rfl, hcr, hgr⟩
end Go.Proofs.Ytifbfmafogmemaa
