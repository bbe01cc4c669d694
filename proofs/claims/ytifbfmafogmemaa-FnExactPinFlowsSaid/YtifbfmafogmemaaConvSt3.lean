/- Contracts of the laws' helpers on steerings: mark. -/
import Derived.Test.YtifbfmafogmemaaConvSt2
namespace Go.Proofs.Ytifbfmafogmemaa
set_option linter.unusedSimpArgs false
set_option linter.unusedVariables false
open Go.RowKit Go.ChangeShapes Go.WideShapes
/-- What the laws write into an element's cells, from a number on. -/
def mkRuleS (q : Int) : List Value := [.int .i64 (q), .int .i64 (q + 1), .int .i64 (q + 1 + 1), .int .i64 (q + 1 + 1 + 1), .int .i64 (q + 1 + 1 + 1 + 1), .int .i64 (q + 1 + 1 + 1 + 1 + 1), .int .i64 (q + 1 + 1 + 1 + 1 + 1 + 1), .int .i64 (q + 1 + 1 + 1 + 1 + 1 + 1 + 1), .int .i64 (q + 1 + 1 + 1 + 1 + 1 + 1 + 1 + 1)]
def marksRuleS (n : Nat) (q : Int) : List Value := (List.range n).flatMap fun (i : Nat) => mkRuleS (q + (i : Int) * 9)
set_option maxRecDepth 100000 in
set_option maxHeartbeats 4000000 in
/-- Every cell of a row of the caller's own is overwritten. -/
theorem markRuleS_c (A : Option Addr) (n c base : Nat) (xs : List Value) (q : Int) (w : World) (hown : w.ownsRow base 121 9 (.slice A n c) n xs) (hq0 : 0 ≤ q) (hq1 : q ≤ 1000000000) (hm : n ≤ 4194304) :
    Calls Try.prog 101 #[.slice A n c, .int .i64 q] w fun e w' => e = .returned (.int .i64 (q + n * 9)) ∧ w'.ownsRow base 121 9 (.slice A n c) n (marksRuleS n q) ∧ w.grownBy w' (Value.slice A n c).ownBlock := by
  rcases hown.2 with ⟨hv, hn⟩ | ⟨g, cap, cur, hv, hbg, hblk, hnc, hcm, hsz, htk⟩
  · injection hv with h1 h2 h3
    subst h1; subst h3; subst hn
    go_enter Try.func101, Try.ntmps101
    go_wp2
    go_loopw [1, 5] (fun q' i wr => q' = .int .i64 q ∧ i = .int .i64 0 ∧ wr = w) (fun _ _ _ => 0)
    case atStart => exact ⟨rfl, rfl, rfl⟩
    case round =>
      obtain ⟨rfl, rfl, rfl⟩ := hrel
      go_wp2
      go_ret
      exact ⟨ret_int (by omega), ⟨by simp [marksRuleS], .inl ⟨rfl, rfl⟩⟩, World.grownBy.refl _ _⟩
  · injection hv with h1 h2 h3
    subst h1; subst h3
    have hlen := hown.1
    have hcl : cur.toList.length = c * 9 := by simpa using hsz
    have HB0 : Blk w g 121 cur.toList := hblk
    have HC0 := Lib.hid hcl
    have hblt := HB0.lt
    clear hblk hsz hcl htk hlen hown
    generalize cur.toList = cu at *
    go_enter Try.func101, Try.ntmps101
    go_wp2
    go_loopw [1, 5] (fun q' i wr => ∃ k : Nat, ∃ cs : List Value, k ≤ n ∧ q' = .int .i64 (q + (k : Int) * 9) ∧ i = .int .i64 k ∧ w.grownBy wr (some g) ∧ Blk wr g 121 cs ∧ Hid (cs.length = c * 9) ∧ Hid (cs.take (k * 9) = ((List.range n).take k).flatMap fun (i : Nat) => mkRuleS (q + (i : Int) * 9))) (fun _ i _ => n - (intOf i).toNat)
    case atStart => exact ⟨0, cu, Nat.zero_le _, by simp, rfl, World.grownBy.refl _ _, HB0, HC0, by simp [Hid]⟩
    case round =>
      obtain ⟨k, cs, hk, rfl, rfl, hgr, hbk, hcl, htk⟩ := hrel
      have hgl := hbk.lt
      have hgz := hgr.size
      by_cases hlt : k < n
      · have hr : (List.range n)[k]? = some k := by simp [hlt]
        have HR := Lib.hid hr
        clear hr
        obtain ⟨v0, g0⟩ := hbk.get (i := k * 9) (by rw [hcl.out]; omega)
        obtain ⟨v1, g1⟩ := hbk.get (i := k * 9 + 1) (by rw [hcl.out]; omega)
        obtain ⟨v2, g2⟩ := hbk.get (i := k * 9 + 2) (by rw [hcl.out]; omega)
        obtain ⟨v3, g3⟩ := hbk.get (i := k * 9 + 3) (by rw [hcl.out]; omega)
        obtain ⟨v4, g4⟩ := hbk.get (i := k * 9 + 4) (by rw [hcl.out]; omega)
        obtain ⟨v5, g5⟩ := hbk.get (i := k * 9 + 5) (by rw [hcl.out]; omega)
        obtain ⟨v6, g6⟩ := hbk.get (i := k * 9 + 6) (by rw [hcl.out]; omega)
        obtain ⟨v7, g7⟩ := hbk.get (i := k * 9 + 7) (by rw [hcl.out]; omega)
        obtain ⟨v8, g8⟩ := hbk.get (i := k * 9 + 8) (by rw [hcl.out]; omega)
        have f0 := hbk.frozen (k * 9)
        have f1 := hbk.frozen (k * 9 + 1)
        have f2 := hbk.frozen (k * 9 + 2)
        have f3 := hbk.frozen (k * 9 + 3)
        have f4 := hbk.frozen (k * 9 + 4)
        have f5 := hbk.frozen (k * 9 + 5)
        have f6 := hbk.frozen (k * 9 + 6)
        have f7 := hbk.frozen (k * 9 + 7)
        have f8 := hbk.frozen (k * 9 + 8)
        go_wp2
        go_roundw
        case rel =>
          refine ⟨k + 1, setsAt cs (k * 9) (mkRuleS (q + (k : Int) * 9)), by omega, by go_num, by go_num, (only_setCell (only_setCell (only_setCell (only_setCell (only_setCell (only_setCell (only_setCell (only_setCell (only_setCell hgr (.inl rfl) _) (.inl rfl) _) (.inl rfl) _) (.inl rfl) _) (.inl rfl) _) (.inl rfl) _) (.inl rfl) _) (.inl rfl) _) (.inl rfl) _), ?_, by rw [Hid, setsAt_len]; exact hcl.out, ?_⟩
          · exact (((((((((hbk.set_ _ _).set_ _ _).set_ _ _).set_ _ _).set_ _ _).set_ _ _).set_ _ _).set_ _ _).set_ _ _)
          · have h2 : c * 9 = c * 9 := rfl
            exact take_elem (cells := fun i : Nat => mkRuleS (q + (i : Int) * 9)) (fun _ => rfl) HR.out hcl.out (by omega) htk.out
        case measure => simp [intOf]; omega
      · have hkn : k = n := by omega
        subst hkn
        go_wp2
        go_ret
        refine ⟨ret_int (by omega), ⟨?_, .inr ⟨g, c, cs.toArray, rfl, hbg, hbk, hnc, hcm, by simpa using hcl.out, ?_⟩⟩, hgr⟩
        · rw [marksRuleS, flatMap_len _ 9 (fun _ => rfl)]; simp
        · have h1 := htk.out
          rw [show (List.range k).take k = List.range k from List.take_of_length_le (by simp)] at h1
          exact h1
/-- What the laws write into an element's cells, from a number on. -/
def mkSlotS (q : Int) : List Value := [.int .i64 (q), .int .i64 (q + 1), .int .i64 (q + 1 + 1), .int .i64 (q + 1 + 1 + 1), .int .i64 (q + 1 + 1 + 1 + 1), .int .i64 (q + 1 + 1 + 1 + 1 + 1), .int .i64 (q + 1 + 1 + 1 + 1 + 1 + 1)]
def marksSlotS (n : Nat) (q : Int) : List Value := (List.range n).flatMap fun (i : Nat) => mkSlotS (q + (i : Int) * 7)
set_option maxHeartbeats 4000000 in
/-- Every cell of a row of the caller's own is overwritten. -/
theorem markSlotS_c (A : Option Addr) (n c base : Nat) (xs : List Value) (q : Int) (w : World) (hown : w.ownsRow base 124 7 (.slice A n c) n xs) (hq0 : 0 ≤ q) (hq1 : q ≤ 1000000000) (hm : n ≤ 4194304) :
    Calls Try.prog 162 #[.slice A n c, .int .i64 q] w fun e w' => e = .returned (.int .i64 (q + n * 7)) ∧ w'.ownsRow base 124 7 (.slice A n c) n (marksSlotS n q) ∧ w.grownBy w' (Value.slice A n c).ownBlock := by
  rcases hown.2 with ⟨hv, hn⟩ | ⟨g, cap, cur, hv, hbg, hblk, hnc, hcm, hsz, htk⟩
  · injection hv with h1 h2 h3
    subst h1; subst h3; subst hn
    go_enter Try.func162, Try.ntmps162
    go_wp2
    go_loopw [1, 5] (fun q' i wr => q' = .int .i64 q ∧ i = .int .i64 0 ∧ wr = w) (fun _ _ _ => 0)
    case atStart => exact ⟨rfl, rfl, rfl⟩
    case round =>
      obtain ⟨rfl, rfl, rfl⟩ := hrel
      go_wp2
      go_ret
      exact ⟨ret_int (by omega), ⟨by simp [marksSlotS], .inl ⟨rfl, rfl⟩⟩, World.grownBy.refl _ _⟩
  · injection hv with h1 h2 h3
    subst h1; subst h3
    have hlen := hown.1
    have hcl : cur.toList.length = c * 7 := by simpa using hsz
    have HB0 : Blk w g 124 cur.toList := hblk
    have HC0 := Lib.hid hcl
    have hblt := HB0.lt
    clear hblk hsz hcl htk hlen hown
    generalize cur.toList = cu at *
    go_enter Try.func162, Try.ntmps162
    go_wp2
    go_loopw [1, 5] (fun q' i wr => ∃ k : Nat, ∃ cs : List Value, k ≤ n ∧ q' = .int .i64 (q + (k : Int) * 7) ∧ i = .int .i64 k ∧ w.grownBy wr (some g) ∧ Blk wr g 124 cs ∧ Hid (cs.length = c * 7) ∧ Hid (cs.take (k * 7) = ((List.range n).take k).flatMap fun (i : Nat) => mkSlotS (q + (i : Int) * 7))) (fun _ i _ => n - (intOf i).toNat)
    case atStart => exact ⟨0, cu, Nat.zero_le _, by simp, rfl, World.grownBy.refl _ _, HB0, HC0, by simp [Hid]⟩
    case round =>
      obtain ⟨k, cs, hk, rfl, rfl, hgr, hbk, hcl, htk⟩ := hrel
      have hgl := hbk.lt
      have hgz := hgr.size
      by_cases hlt : k < n
      · have hr : (List.range n)[k]? = some k := by simp [hlt]
        have HR := Lib.hid hr
        clear hr
        obtain ⟨v0, g0⟩ := hbk.get (i := k * 7) (by rw [hcl.out]; omega)
        obtain ⟨v1, g1⟩ := hbk.get (i := k * 7 + 1) (by rw [hcl.out]; omega)
        obtain ⟨v2, g2⟩ := hbk.get (i := k * 7 + 2) (by rw [hcl.out]; omega)
        obtain ⟨v3, g3⟩ := hbk.get (i := k * 7 + 3) (by rw [hcl.out]; omega)
        obtain ⟨v4, g4⟩ := hbk.get (i := k * 7 + 4) (by rw [hcl.out]; omega)
        obtain ⟨v5, g5⟩ := hbk.get (i := k * 7 + 5) (by rw [hcl.out]; omega)
        obtain ⟨v6, g6⟩ := hbk.get (i := k * 7 + 6) (by rw [hcl.out]; omega)
        have f0 := hbk.frozen (k * 7)
        have f1 := hbk.frozen (k * 7 + 1)
        have f2 := hbk.frozen (k * 7 + 2)
        have f3 := hbk.frozen (k * 7 + 3)
        have f4 := hbk.frozen (k * 7 + 4)
        have f5 := hbk.frozen (k * 7 + 5)
        have f6 := hbk.frozen (k * 7 + 6)
        go_wp2
        go_roundw
        case rel =>
          refine ⟨k + 1, setsAt cs (k * 7) (mkSlotS (q + (k : Int) * 7)), by omega, by go_num, by go_num, (only_setCell (only_setCell (only_setCell (only_setCell (only_setCell (only_setCell (only_setCell hgr (.inl rfl) _) (.inl rfl) _) (.inl rfl) _) (.inl rfl) _) (.inl rfl) _) (.inl rfl) _) (.inl rfl) _), ?_, by rw [Hid, setsAt_len]; exact hcl.out, ?_⟩
          · exact (((((((hbk.set_ _ _).set_ _ _).set_ _ _).set_ _ _).set_ _ _).set_ _ _).set_ _ _)
          · have h2 : c * 7 = c * 7 := rfl
            exact take_elem (cells := fun i : Nat => mkSlotS (q + (i : Int) * 7)) (fun _ => rfl) HR.out hcl.out (by omega) htk.out
        case measure => simp [intOf]; omega
      · have hkn : k = n := by omega
        subst hkn
        go_wp2
        go_ret
        refine ⟨ret_int (by omega), ⟨?_, .inr ⟨g, c, cs.toArray, rfl, hbg, hbk, hnc, hcm, by simpa using hcl.out, ?_⟩⟩, hgr⟩
        · rw [marksSlotS, flatMap_len _ 7 (fun _ => rfl)]; simp
        · have h1 := htk.out
          rw [show (List.range k).take k = List.range k from List.take_of_length_le (by simp)] at h1
          exact h1
/-- Only the blocks named may have changed. -/
def Grown3 (w w' : World) (o1 o2 o3 : Option Nat) : Prop := w'.os = w.os ∧ w'.tape = w.tape ∧ w'.output = w.output ∧ w.heap.size ≤ w'.heap.size ∧ ∀ i, i < w.heap.size → some i ≠ o1 → some i ≠ o2 → some i ≠ o3 → w'.heap[i]? = w.heap[i]?
theorem Grown3.size {w w' : World} {o1 o2 o3 : Option Nat} (h : Grown3 w w' o1 o2 o3) : w.heap.size ≤ w'.heap.size := h.2.2.2.1
theorem Grown3.below {B : Nat} {a w w' : World} {o1 o2 o3 : Option Nat} (hk : Below B a w) (hB : B ≤ w.heap.size) (h : Grown3 w w' o1 o2 o3) (h1 : ∀ k, o1 = some k → B ≤ k) (h2 : ∀ k, o2 = some k → B ≤ k) (h3 : ∀ k, o3 = some k → B ≤ k) : Below B a w' :=
  ⟨h.1.trans hk.os, h.2.1.trans hk.tape, h.2.2.1.trans hk.output, Nat.le_trans hk.size h.size, fun i hi => (h.2.2.2.2 i (by omega) (fun e => by have := h1 i e.symm; omega) (fun e => by have := h2 i e.symm; omega) (fun e => by have := h3 i e.symm; omega)).trans (hk.block i hi)⟩
theorem Grown3.cell {w w' : World} {o1 o2 o3 : Option Nat} (h : Grown3 w w' o1 o2 o3) {b o : Nat} {v : Value} (hc : w.cell? ⟨b, o, none⟩ = some v) (h1 : ∀ k, o1 = some k → b ≠ k) (h2 : ∀ k, o2 = some k → b ≠ k) (h3 : ∀ k, o3 = some k → b ≠ k) : w'.cell? ⟨b, o, none⟩ = some v :=
  (World.cell?_of_block (h.2.2.2.2 b (cell_block_lt hc) (fun e => h1 b e.symm rfl) (fun e => h2 b e.symm rfl) (fun e => h3 b e.symm rfl))).trans hc
theorem Grown3.own {w w' : World} {o1 o2 o3 : Option Nat} (h : Grown3 w w' o1 o2 o3) {base size n : Nat} {e : TypeId} {v : Value} {xs : List Value} (ho : w.ownsRow base e size v n xs) (h1 : ∀ k, v.ownBlock = some k → o1 = some k → False) (h2 : ∀ k, v.ownBlock = some k → o2 = some k → False) (h3 : ∀ k, v.ownBlock = some k → o3 = some k → False) : w'.ownsRow base e size v n xs := by
  refine ⟨ho.1, ?_⟩
  rcases ho.2 with h5 | ⟨g, cap, cur, hv, hg, hh, r⟩
  · exact .inl h5
  · refine .inr ⟨g, cap, cur, hv, hg, ?_, r⟩
    have hvb : v.ownBlock = some g := by rw [hv]; rfl
    rw [h.2.2.2.2 g (Array.getElem?_eq_some_iff.1 hh).1 (fun e => h1 g hvb e.symm) (fun e => h2 g hvb e.symm) (fun e => h3 g hvb e.symm)]; exact hh
theorem Grown3.reads {w w' : World} {o1 o2 o3 : Option Nat} (h : Grown3 w w' o1 o2 o3) {B size n : Nat} {A : Option Addr} {xs : List Value} (hr : Reads w B size A n xs) (hB : B ≤ w.heap.size) (h1 : ∀ k, o1 = some k → B ≤ k) (h2 : ∀ k, o2 = some k → B ≤ k) (h3 : ∀ k, o3 = some k → B ≤ k) : Reads w' B size A n xs :=
  hr.below (Grown3.below (Below.refl _ _) hB h h1 h2 h3)
theorem own_ne_ty {w : World} {b1 b2 s1 s2 n1 n2 : Nat} {e1 e2 : TypeId} {v1 v2 : Value} {x1 x2 : List Value} (h1 : w.ownsRow b1 e1 s1 v1 n1 x1) (h2 : w.ownsRow b2 e2 s2 v2 n2 x2) (hne : e1 ≠ e2) : ∀ k, v1.ownBlock = some k → v2.ownBlock = some k → False := by
  intro k hk1 hk2
  rcases h2.2 with ⟨hv, _⟩ | ⟨g, cap, cur, hv, hg, hh, r⟩
  · subst hv; cases hk2
  · have hgk : g = k := by subst hv; simpa [Value.ownBlock] using hk2
    subst hgk
    exact own_ty h1 (b := g) (T := e2) (cs := cur.toList) (by unfold Blk; simpa using hh) hne g hk1 rfl
theorem grown3_of {w w1 w2 w3 : World} {o1 o2 o3 : Option Nat} (h1 : w.grownBy w1 o1) (h2 : w1.grownBy w2 o2) (h3 : w2.grownBy w3 o3) : Grown3 w w3 o1 o2 o3 := by
  refine ⟨h3.os.trans (h2.os.trans h1.os), h3.tape.trans (h2.tape.trans h1.tape), h3.output.trans (h2.output.trans h1.output), Nat.le_trans h1.size (Nat.le_trans h2.size h3.size), fun i hi a b c => ?_⟩
  have := h1.size
  have := h2.size
  rw [h3.block i (by omega) c, h2.block i (by omega) b, h1.block i hi a]
theorem blk_ne {w w1 : World} {b : Nat} {t : TypeId} {cs : List Value} {row : Option Nat} (h : Blk w b t cs) (hg : w.grownBy w1 row) (hne : row = some b → False) : Blk w1 b t cs := (hg.block b h.lt (fun e => hne e.symm)).trans h
set_option maxHeartbeats 1000000 in
theorem markFlowTable_c (A : Option Addr) (n c bas : Nat) (xs : List Value) (q : Int) (w : World) (hown : w.ownsRow bas 124 7 (.slice A n c) n xs) (hq0 : 0 ≤ q) (hq1 : q ≤ 1000000000) (hm : n ≤ 4194304) :
    Calls Try.prog 102 #[.agg #[.slice A n c], .int .i64 q] w fun e w' => e = .returned (.int .i64 (q + n * 7)) ∧ w'.ownsRow bas 124 7 (.slice A n c) n (marksSlotS n q) ∧ w.grownBy w' (Value.slice A n c).ownBlock := by
  have hlt := hown.lt
  go_enter Try.func102, Try.ntmps102
  go_wp2_with fail
  refine (markSlotS_c _ _ _ _ _ _ _ (hown.alloc _) hq0 hq1 hm).mono ?_
  rintro e w1 ⟨rfl, o1, hg⟩
  have hgo := grown_alloc hg
  clear hg
  go_wp2
  go_ret
  exact ⟨ret_int (by omega), o1, hgo⟩
set_option maxHeartbeats 1000000 in
theorem markSpread_c (key : ByteArray) (A : Option Addr) (n c bas : Nat) (xs : List Value) (q : Int) (w : World) (hown : w.ownsRow bas 3 1 (.slice A n c) n xs) (hq0 : 0 ≤ q) (hq1 : q ≤ 1000000000) (hm : n ≤ 4194304) :
    Calls Try.prog 103 #[.agg #[.string key, .slice A n c], .int .i64 q] w fun e w' => e = .returned (.int .i64 (q + n * 1)) ∧ w'.ownsRow bas 3 1 (.slice A n c) n (marksIntS n q) ∧ w.grownBy w' (Value.slice A n c).ownBlock := by
  have hlt := hown.lt
  go_enter Try.func103, Try.ntmps103
  go_wp2_with fail
  refine (markIntS_c _ _ _ _ _ _ _ (hown.alloc _) hq0 hq1 hm).mono ?_
  rintro e w1 ⟨rfl, o1, hg⟩
  have hgo := grown_alloc hg
  clear hg
  go_wp2
  go_ret
  exact ⟨ret_int (by omega), o1, hgo⟩
set_option maxHeartbeats 2000000 in
theorem markSteering_c (Ar : Option Addr) (nr cr : Nat) (As : Option Addr) (ns cs : Nat) (key : ByteArray) (At : Option Addr) (nt ct : Nat) (x1 x2 x3 : List Value) (q : Int) (w : World) (bas : Nat) (o1 : w.ownsRow bas 121 9 (.slice Ar nr cr) nr x1) (o2 : w.ownsRow bas 124 7 (.slice As ns cs) ns x2) (o3 : w.ownsRow bas 3 1 (.slice At nt ct) nt x3) (hq0 : 0 ≤ q) (hq1 : q ≤ 100000000) (hm1 : nr ≤ 1048576) (hm2 : ns ≤ 1048576) (hm3 : nt ≤ 1048576) :
    Calls Try.prog 31 #[.agg #[.slice Ar nr cr, .slice As ns cs, .string key, .slice At nt ct], .int .i64 q] w fun e w' => e = .returned (.int .i64 (q + nr * 9 + ns * 7 + nt * 1)) ∧ w'.ownsRow bas 121 9 (.slice Ar nr cr) nr (marksRuleS nr q) ∧ w'.ownsRow bas 124 7 (.slice As ns cs) ns (marksSlotS ns (q + nr * 9)) ∧ w'.ownsRow bas 3 1 (.slice At nt ct) nt (marksIntS nt (q + nr * 9 + ns * 7)) ∧ Grown3 w w' (Value.slice Ar nr cr).ownBlock (Value.slice As ns cs).ownBlock (Value.slice At nt ct).ownBlock := by
  go_enter Try.func31, Try.ntmps31
  go_wp2_with fail
  have hb0 : Blk (w.alloc (.cells #[.slice Ar nr cr, .slice As ns cs, .string key, .slice At nt ct] 58)) w.heap.size 58 [.slice Ar nr cr, .slice As ns cs, .string key, .slice At nt ct] := Blk.new _ _ _
  have g0 : Grown3 w (w.alloc (.cells #[.slice Ar nr cr, .slice As ns cs, .string key, .slice At nt ct] 58)) none none none := ⟨rfl, rfl, rfl, by simp, fun i hi _ _ _ => Below.heap_alloc w _ i hi⟩
  have p1 := o1.alloc (.cells #[.slice Ar nr cr, .slice As ns cs, .string key, .slice At nt ct] 58)
  have p2 := o2.alloc (.cells #[.slice Ar nr cr, .slice As ns cs, .string key, .slice At nt ct] 58)
  have p3 := o3.alloc (.cells #[.slice Ar nr cr, .slice As ns cs, .string key, .slice At nt ct] 58)
  have u1 := fun k hk => (o1.lt k hk).2
  have u2 := fun k hk => (o2.lt k hk).2
  have u3 := fun k hk => (o3.lt k hk).2
  have z1 := own_ne_ty o1 o2 (by decide)
  have z2 := own_ne_ty o1 o3 (by decide)
  have z3 := own_ne_ty o2 o3 (by decide)
  generalize hW0 : (w.alloc (.cells #[.slice Ar nr cr, .slice As ns cs, .string key, .slice At nt ct] 58)) = w0 at *
  clear hW0
  refine (markRuleS_c _ _ _ _ _ _ _ p1 hq0 (by omega) (by omega)).mono ?_
  rintro e w1 ⟨rfl, p1, h1⟩
  have hb1 := blk_ne hb0 h1 (fun e => by have := u1 _ e; omega)
  replace p2 := own_far p2 h1 (fun g a b => z1 g b a)
  replace p3 := own_far p3 h1 (fun g a b => z2 g b a)
  have s1 := hb1.at_ 1 _ rfl
  have s2 := hb1.at_ 2 _ rfl
  have s3 := hb1.at_ 3 _ rfl
  go_wp2_with fail
  refine (markFlowTable_c _ _ _ _ _ _ _ p2 (by omega) (by omega) (by omega)).mono ?_
  rintro e w2 ⟨rfl, p2, h2⟩
  have hb2 := blk_ne hb1 h2 (fun e => by have := u2 _ e; omega)
  replace p1 := own_far p1 h2 (fun g a b => z1 g a b)
  replace p3 := own_far p3 h2 (fun g a b => z3 g b a)
  clear s1 s2 s3
  have s2 := hb2.at_ 2 _ rfl
  have s3 := hb2.at_ 3 _ rfl
  go_wp2_with fail
  refine (markSpread_c key _ _ _ _ _ _ _ p3 (by omega) (by omega) (by omega)).mono ?_
  rintro e w3 ⟨rfl, p3, h3⟩
  replace p1 := own_far p1 h3 (fun g a b => z2 g a b)
  replace p2 := own_far p2 h3 (fun g a b => z3 g a b)
  clear s2 s3
  have hG := grown3_of h1 h2 h3
  go_wp2
  go_ret
  refine ⟨ret_int (by omega), p1, p2, p3, hG.1.trans g0.1, hG.2.1.trans g0.2.1, hG.2.2.1.trans g0.2.2.1, Nat.le_trans g0.size hG.size, fun i hi a b c => ?_⟩
  have := g0.size
  exact (hG.2.2.2.2 i (by omega) a b c).trans (g0.2.2.2.2 i hi (by simp) (by simp) (by simp))
end Go.Proofs.Ytifbfmafogmemaa
