/- Contracts of the laws' helpers on lists of packets: mark, held. -/
import Derived.Test.YtifbfmafogmemaaConvPks2
namespace Go.Proofs.Ytifbfmafogmemaa
set_option linter.unusedSimpArgs false
set_option linter.unusedVariables false
open Go.RowKit Go.ChangeShapes Go.WideShapes
def mdig : Nat → Int → ByteArray → ByteArray
  | 0, _, out => out
  | f + 1, k, out => if 0 < k then mdig f (k / 10) (strOfNums [48 + k % 10] ++ out) else out
def mInit : ByteArray := ⟨#[109]⟩
/-- The text that the laws write for a number. -/
def mtxt (q : Int) : ByteArray := if q ≤ 0 then ⟨#[109, 48]⟩ else mInit ++ mdig (q.toNat + 1) q ⟨#[]⟩
theorem bytesLit1 (W : World) (x0 : Int) : (convert 36 9 (.slice (some ⟨W.heap.size, 0, none⟩) 1 1)).run Try.prog (W.alloc (.cells #[.int .u8 x0] 5)) = .ok (.string (strOfNums [x0])) (W.alloc (.cells #[.int .u8 x0] 5)) :=
  run_convert_bytes_arg _ 36 5 Try.underlying36 Try.underlying5 W.heap.size 0 1 1 [x0] rfl (fun i hi => by
    match i, hi with
    | 0, _ => simp [go_sem]) 9 Try.underlying9
set_option maxHeartbeats 2000000 in
theorem markText_c (q : Int) (w : World) (hq : q ≤ 1000000000000) (hq0 : 0 ≤ q) :
    Calls Try.prog 108 #[.int .i64 q] w fun e w' => e = .returned (.string (mtxt q)) ∧ Below w.heap.size w w' := by
  have hcv := bytesLit1
  by_cases h0 : q ≤ 0
  · go_enter Try.func108, Try.ntmps108
    go_wp2
    go_ret
    exact ⟨ret_string (by rw [mtxt, if_pos h0]), Below.refl _ _⟩
  · have hfin : mtxt q = mInit ++ mdig (q.toNat + 1) q ⟨#[]⟩ := by rw [mtxt, if_neg h0]
    have HF := Lib.hid hfin
    clear hfin
    have hz1 : mInit.size = 1 := rfl
    go_enter Try.func108, Try.ntmps108
    go_wp2
    go_loopw [0, 3] (fun v s wr => ∃ (f : Nat) (k : Int) (out : ByteArray), v = .int .i64 k ∧ s = .string out ∧ 0 ≤ k ∧ k ≤ 1000000000000 ∧ k < f ∧ out.size + f ≤ 1000000000001 ∧ Hid (mdig f k out = mdig (q.toNat + 1) q ⟨#[]⟩) ∧ Below w.heap.size w wr) (fun v _ _ => (intOf v).toNat)
    case atStart => exact ⟨q.toNat + 1, q, ⟨#[]⟩, rfl, rfl, hq0, hq, by omega, by show 0 + (q.toNat + 1) ≤ _; omega, rfl, Below.refl _ _⟩
    case round =>
      obtain ⟨f, k, out, rfl, rfl, hk0, hk1, hkf, hof, hd, hbw⟩ := hrel
      have hsz := hbw.size
      by_cases hlt : 0 < k
      · obtain ⟨f, rfl⟩ : ∃ f', f = f' + 1 := ⟨f - 1, by omega⟩
        have hn : mdig f (k / 10) (strOfNums [48 + k % 10] ++ out) = mdig (q.toNat + 1) q ⟨#[]⟩ := by
          have := hd.out
          rwa [mdig, if_pos hlt] at this
        have hsn : (strOfNums [48 + k % 10]).size = 1 := rfl
        have HN := Lib.hid hn
        clear hn
        have m1 := Int.emod_nonneg k (show (10 : Int) ≠ 0 by omega)
        have m2 := Int.emod_lt_of_pos k (show (0 : Int) < 10 by omega)
        go_wp2
        go_roundw
        case rel => exact ⟨f, k / 10, strOfNums [48 + k % 10] ++ out, rfl, rfl, by omega, by omega, by omega, by rw [ByteArray.size_append, hsn]; omega, HN, by go_grown⟩
        case measure => simp [intOf]; omega
      · have hn : mInit ++ out = mtxt q := by
          rw [HF.out, ← hd.out]
          cases f with
          | zero => rfl
          | succ f => rw [mdig, if_neg hlt]
        have HN := Lib.hid hn
        clear hn
        go_wp2
        go_ret
        exact ⟨ret_string HN.out, hbw⟩
/-- What the laws write into an element's cells, from a number on. -/
def mkPacketS (q : Int) : List Value := [.int .i64 (q), .int .i64 (q + 1), .int .i64 (q + 1 + 1), .int .i64 (q + 1 + 1 + 1), .int .i64 (q + 1 + 1 + 1 + 1), .int .i64 (q + 1 + 1 + 1 + 1 + 1), .int .i64 (q + 1 + 1 + 1 + 1 + 1 + 1), .int .i64 (q + 1 + 1 + 1 + 1 + 1 + 1 + 1), .int .i64 (q + 1 + 1 + 1 + 1 + 1 + 1 + 1 + 1), .int .i64 (q + 1 + 1 + 1 + 1 + 1 + 1 + 1 + 1 + 1), .int .i64 (q + 1 + 1 + 1 + 1 + 1 + 1 + 1 + 1 + 1 + 1), .int .i64 (q + 1 + 1 + 1 + 1 + 1 + 1 + 1 + 1 + 1 + 1 + 1), .int .i64 (q + 1 + 1 + 1 + 1 + 1 + 1 + 1 + 1 + 1 + 1 + 1 + 1), .int .i64 (q + 1 + 1 + 1 + 1 + 1 + 1 + 1 + 1 + 1 + 1 + 1 + 1 + 1), .int .i64 (q + 1 + 1 + 1 + 1 + 1 + 1 + 1 + 1 + 1 + 1 + 1 + 1 + 1 + 1), .string (mtxt (q + 1 + 1 + 1 + 1 + 1 + 1 + 1 + 1 + 1 + 1 + 1 + 1 + 1 + 1 + 1))]
def marksPacketS (n : Nat) (q : Int) : List Value := (List.range n).flatMap fun (i : Nat) => mkPacketS (q + (i : Int) * 16)
set_option maxRecDepth 100000 in
set_option maxHeartbeats 4000000 in
/-- Every cell of a row of the caller's own is overwritten. -/
theorem markPacketS_c (A : Option Addr) (n c base : Nat) (xs : List Value) (q : Int) (w : World) (hown : w.ownsRow base 31 16 (.slice A n c) n xs) (hq0 : 0 ≤ q) (hq1 : q ≤ 1000000000) (hm : n ≤ 4194304) :
    Calls Try.prog 39 #[.slice A n c, .int .i64 q] w fun e w' => e = .returned (.int .i64 (q + n * 16)) ∧ w'.ownsRow base 31 16 (.slice A n c) n (marksPacketS n q) ∧ w.grownBy w' (Value.slice A n c).ownBlock := by
  rcases hown.2 with ⟨hv, hn⟩ | ⟨g, cap, cur, hv, hbg, hblk, hnc, hcm, hsz, htk⟩
  · injection hv with h1 h2 h3
    subst h1; subst h3; subst hn
    go_enter Try.func39, Try.ntmps39
    go_wp2
    go_loopw [1, 5] (fun q' i wr => q' = .int .i64 q ∧ i = .int .i64 0 ∧ wr = w) (fun _ _ _ => 0)
    case atStart => exact ⟨rfl, rfl, rfl⟩
    case round =>
      obtain ⟨rfl, rfl, rfl⟩ := hrel
      go_wp2
      go_ret
      exact ⟨ret_int (by omega), ⟨by simp [marksPacketS], .inl ⟨rfl, rfl⟩⟩, World.grownBy.refl _ _⟩
  · injection hv with h1 h2 h3
    subst h1; subst h3
    have hlen := hown.1
    have hcl : cur.toList.length = c * 16 := by simpa using hsz
    have HB0 : Blk w g 31 cur.toList := hblk
    have HC0 := Lib.hid hcl
    have hblt := HB0.lt
    clear hblk hsz hcl htk hlen hown
    generalize cur.toList = cu at *
    go_enter Try.func39, Try.ntmps39
    go_wp2
    go_loopw [1, 5] (fun q' i wr => ∃ k : Nat, ∃ cs : List Value, k ≤ n ∧ q' = .int .i64 (q + (k : Int) * 16) ∧ i = .int .i64 k ∧ w.grownBy wr (some g) ∧ Blk wr g 31 cs ∧ Hid (cs.length = c * 16) ∧ Hid (cs.take (k * 16) = ((List.range n).take k).flatMap fun (i : Nat) => mkPacketS (q + (i : Int) * 16))) (fun _ i _ => n - (intOf i).toNat)
    case atStart => exact ⟨0, cu, Nat.zero_le _, by simp, rfl, World.grownBy.refl _ _, HB0, HC0, by simp [Hid]⟩
    case round =>
      obtain ⟨k, cs, hk, rfl, rfl, hgr, hbk, hcl, htk⟩ := hrel
      have hgl := hbk.lt
      have hgz := hgr.size
      by_cases hlt : k < n
      · have hr : (List.range n)[k]? = some k := by simp [hlt]
        have HR := Lib.hid hr
        clear hr
        obtain ⟨v0, g0⟩ := hbk.get (i := k * 16) (by rw [hcl.out]; omega)
        obtain ⟨v1, g1⟩ := hbk.get (i := k * 16 + 1) (by rw [hcl.out]; omega)
        obtain ⟨v2, g2⟩ := hbk.get (i := k * 16 + 2) (by rw [hcl.out]; omega)
        obtain ⟨v3, g3⟩ := hbk.get (i := k * 16 + 3) (by rw [hcl.out]; omega)
        obtain ⟨v4, g4⟩ := hbk.get (i := k * 16 + 4) (by rw [hcl.out]; omega)
        obtain ⟨v5, g5⟩ := hbk.get (i := k * 16 + 5) (by rw [hcl.out]; omega)
        obtain ⟨v6, g6⟩ := hbk.get (i := k * 16 + 6) (by rw [hcl.out]; omega)
        obtain ⟨v7, g7⟩ := hbk.get (i := k * 16 + 7) (by rw [hcl.out]; omega)
        obtain ⟨v8, g8⟩ := hbk.get (i := k * 16 + 8) (by rw [hcl.out]; omega)
        obtain ⟨v9, g9⟩ := hbk.get (i := k * 16 + 9) (by rw [hcl.out]; omega)
        obtain ⟨v10, g10⟩ := hbk.get (i := k * 16 + 10) (by rw [hcl.out]; omega)
        obtain ⟨v11, g11⟩ := hbk.get (i := k * 16 + 11) (by rw [hcl.out]; omega)
        obtain ⟨v12, g12⟩ := hbk.get (i := k * 16 + 12) (by rw [hcl.out]; omega)
        obtain ⟨v13, g13⟩ := hbk.get (i := k * 16 + 13) (by rw [hcl.out]; omega)
        obtain ⟨v14, g14⟩ := hbk.get (i := k * 16 + 14) (by rw [hcl.out]; omega)
        obtain ⟨v15, g15⟩ := hbk.get (i := k * 16 + 15) (by rw [hcl.out]; omega)
        have f0 := hbk.frozen (k * 16)
        have f1 := hbk.frozen (k * 16 + 1)
        have f2 := hbk.frozen (k * 16 + 2)
        have f3 := hbk.frozen (k * 16 + 3)
        have f4 := hbk.frozen (k * 16 + 4)
        have f5 := hbk.frozen (k * 16 + 5)
        have f6 := hbk.frozen (k * 16 + 6)
        have f7 := hbk.frozen (k * 16 + 7)
        have f8 := hbk.frozen (k * 16 + 8)
        have f9 := hbk.frozen (k * 16 + 9)
        have f10 := hbk.frozen (k * 16 + 10)
        have f11 := hbk.frozen (k * 16 + 11)
        have f12 := hbk.frozen (k * 16 + 12)
        have f13 := hbk.frozen (k * 16 + 13)
        have f14 := hbk.frozen (k * 16 + 14)
        have f15 := hbk.frozen (k * 16 + 15)
        have hmn : (k : Int) ≤ 4194304 := by omega
        have hl16 : k * 16 + 16 ≤ cs.length := by rw [hcl.out]; have := Nat.mul_le_mul_right 16 (show k + 1 ≤ c by omega); omega
        go_wp2_with (go_at_call 108; refine (markText_c _ _ (by omega) (by omega)).mono ?_; rintro e w1 ⟨rfl, hb1⟩; have hg1 := only_below (only_setCell (only_setCell (only_setCell (only_setCell (only_setCell (only_setCell (only_setCell (only_setCell (only_setCell (only_setCell (only_setCell (only_setCell (only_setCell (only_setCell (only_setCell hgr (.inl rfl) _) (.inl rfl) _) (.inl rfl) _) (.inl rfl) _) (.inl rfl) _) (.inl rfl) _) (.inl rfl) _) (.inl rfl) _) (.inl rfl) _) (.inl rfl) _) (.inl rfl) _) (.inl rfl) _) (.inl rfl) _) (.inl rfl) _) (.inl rfl) _) hb1; have hbk1 := (((((((((((((((hbk.set_ _ _).set_ _ _).set_ _ _).set_ _ _).set_ _ _).set_ _ _).set_ _ _).set_ _ _).set_ _ _).set_ _ _).set_ _ _).set_ _ _).set_ _ _).set_ _ _).set_ _ _).ext hb1; obtain ⟨v1, e1⟩ := hbk1.get (i := k * 16 + 15) (by simp only [List.length_set]; omega); have fr1 := hbk1.frozen (k * 16 + 15); have hgl1 := hbk1.lt; clear hb1)
        go_roundw
        case rel =>
          refine ⟨k + 1, setsAt cs (k * 16) (mkPacketS (q + (k : Int) * 16)), by omega, by go_num, by go_num, only_setCell hg1 (.inl rfl) _, hbk1.set_ _ _, by rw [Hid, setsAt_len]; exact hcl.out, ?_⟩
          exact take_elem (cells := fun i : Nat => mkPacketS (q + (i : Int) * 16)) (fun _ => rfl) HR.out hcl.out (by omega) htk.out
        case measure => simp [intOf]; omega
      · have hkn : k = n := by omega
        subst hkn
        go_wp2
        go_ret
        refine ⟨ret_int (by omega), ⟨?_, .inr ⟨g, c, cs.toArray, rfl, hbg, hbk, hnc, hcm, by simpa using hcl.out, ?_⟩⟩, hgr⟩
        · rw [marksPacketS, flatMap_len _ 16 (fun _ => rfl)]; simp
        · have h1 := htk.out
          rw [show (List.range k).take k = List.range k from List.take_of_length_le (by simp)] at h1
          exact h1
set_option maxRecDepth 100000 in
set_option maxHeartbeats 4000000 in
/-- A row that holds the marks holds them. -/
theorem heldPacketS_c (A : Option Addr) (n c : Nat) (q : Int) (w : World) (hr : Reads w w.heap.size 16 A n (marksPacketS n q)) (hq0 : 0 ≤ q) (hq1 : q ≤ 1000000000) (hm : n ≤ 4194304) :
    Calls Try.prog 40 #[.slice A n c, .int .i64 q] w fun e w' => e = .returned (.int .i64 (q + n * 16)) ∧ Below w.heap.size w w' := by
  go_enter Try.func40, Try.ntmps40
  go_wp2
  go_loopw [1, 5] (fun q' i wr => ∃ k : Nat, k ≤ n ∧ q' = .int .i64 (q + (k : Int) * 16) ∧ i = .int .i64 k ∧ Below w.heap.size w wr) (fun _ i _ => n - (intOf i).toNat)
  case atStart => exact ⟨0, Nat.zero_le _, by simp, rfl, Below.refl _ _⟩
  case round =>
    obtain ⟨k, hk, rfl, rfl, hbw⟩ := hrel
    have hsz := hbw.size
    by_cases hlt : k < n
    · obtain ⟨b, o, x, rfl, hb, hx, hc⟩ := Reads.el (cells := fun i : Nat => mkPacketS (q + (i : Int) * 16)) (l := List.range n) hr (fun _ => rfl) (by decide) (by simp) hlt
      have hxk : k = x := by simpa [hlt] using hx
      subst hxk
      have c0 := (hbw.cell (p := ⟨b, o + k * 16, none⟩) hb).trans (by simpa using hc 0 _ rfl)
      have c1 := (hbw.cell (p := ⟨b, o + k * 16 + 1, none⟩) hb).trans (by simpa using hc 1 _ rfl)
      have c2 := (hbw.cell (p := ⟨b, o + k * 16 + 2, none⟩) hb).trans (by simpa using hc 2 _ rfl)
      have c3 := (hbw.cell (p := ⟨b, o + k * 16 + 3, none⟩) hb).trans (by simpa using hc 3 _ rfl)
      have c4 := (hbw.cell (p := ⟨b, o + k * 16 + 4, none⟩) hb).trans (by simpa using hc 4 _ rfl)
      have c5 := (hbw.cell (p := ⟨b, o + k * 16 + 5, none⟩) hb).trans (by simpa using hc 5 _ rfl)
      have c6 := (hbw.cell (p := ⟨b, o + k * 16 + 6, none⟩) hb).trans (by simpa using hc 6 _ rfl)
      have c7 := (hbw.cell (p := ⟨b, o + k * 16 + 7, none⟩) hb).trans (by simpa using hc 7 _ rfl)
      have c8 := (hbw.cell (p := ⟨b, o + k * 16 + 8, none⟩) hb).trans (by simpa using hc 8 _ rfl)
      have c9 := (hbw.cell (p := ⟨b, o + k * 16 + 9, none⟩) hb).trans (by simpa using hc 9 _ rfl)
      have c10 := (hbw.cell (p := ⟨b, o + k * 16 + 10, none⟩) hb).trans (by simpa using hc 10 _ rfl)
      have c11 := (hbw.cell (p := ⟨b, o + k * 16 + 11, none⟩) hb).trans (by simpa using hc 11 _ rfl)
      have c12 := (hbw.cell (p := ⟨b, o + k * 16 + 12, none⟩) hb).trans (by simpa using hc 12 _ rfl)
      have c13 := (hbw.cell (p := ⟨b, o + k * 16 + 13, none⟩) hb).trans (by simpa using hc 13 _ rfl)
      have c14 := (hbw.cell (p := ⟨b, o + k * 16 + 14, none⟩) hb).trans (by simpa using hc 14 _ rfl)
      have c15 : wr.cell? ⟨b, o + k * 16 + 15, none⟩ = some (.string (mtxt (q + (k : Int) * 16 + 1 + 1 + 1 + 1 + 1 + 1 + 1 + 1 + 1 + 1 + 1 + 1 + 1 + 1 + 1))) := (hbw.cell (p := ⟨b, o + k * 16 + 15, none⟩) hb).trans (by simpa [mkPacketS] using hc 15 _ rfl)
      clear hx hc
      have hx2 : ∀ t : Ext wr, t.wd.cell? ⟨b, o + k * 16 + 15, none⟩ = some (.string (mtxt (q + (k : Int) * 16 + 1 + 1 + 1 + 1 + 1 + 1 + 1 + 1 + 1 + 1 + 1 + 1 + 1 + 1 + 1))) := fun t => t.cell c15
      have l1 : (k : Int) < (n : Int) := by omega
      go_wp2_with fail
      refine wp_region_ext_lit (by kernel_rfl) (by kernel_rfl) ?_
      repeat (go_big_quiet_step (((go_at_call 108; exact ext_call (markText_c _ _ (by omega) (by omega))))))
      refine wpQuiet_nil ?_
      intro _ hw'
      obtain ⟨tq, hw''⟩ := hw'
      subst hw''
      go_wp2
      go_roundw
      case rel => exact ⟨k + 1, by omega, by go_num, by go_num, ext_step hbw hbw.size tq.below⟩
      case measure => simp [intOf]; omega
    · have hkn : k = n := by omega
      subst hkn
      go_wp2
      go_ret
      exact ⟨ret_int (by omega), hbw⟩
end Go.Proofs.Ytifbfmafogmemaa
