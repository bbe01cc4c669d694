/- Contracts of the laws' helpers on texts. -/
import Derived.Test.YtjeenjblenpinaaRows2
import Derived.Test.YtjeenjblenpinaaOpen
namespace Go.Proofs.Ytjeenjblenpinaa
set_option linter.unusedSimpArgs false
set_option linter.unusedVariables false
open Go.RowKit Go.ChangeShapes Go.WideShapes
/-- How many bytes the texts hold together. -/
def totS (l : List ByteArray) : Int := (l.map fun s => (s.size : Int)).sum
theorem totS_nonneg (l : List ByteArray) : 0 ≤ totS l := by
  induction l with
  | nil => simp [totS]
  | cons s l ih => simp [totS] at *; omega
theorem totS_append (a b : List ByteArray) : totS (a ++ b) = totS a + totS b := by simp [totS]
theorem totS_next {l : List ByteArray} {k : Nat} {x : ByteArray} (hx : l[k]? = some x) : totS (l.take (k + 1)) = totS (l.take k) + x.size := by
  rw [take_next hx, totS_append]; simp [totS]
theorem totS_le (l : List ByteArray) (k : Nat) : totS (l.take k) ≤ totS l := by
  have h := totS_append (l.take k) (l.drop k)
  rw [List.take_append_drop] at h
  have := totS_nonneg (l.drop k)
  omega
set_option maxHeartbeats 2000000 in
theorem szStringS_c (A : Option Addr) (n c : Nat) (l : List ByteArray) (left : Int) (w : World) (h0 : 0 ≤ left) (h1 : left ≤ 1048576) (hn : l.length = n) (hm : n ≤ 9223372036854775807) (hr : Reads w w.heap.size 1 A n (l.flatMap fun x : ByteArray => [Value.string x])) (hs : ∀ x ∈ l, x.size ≤ maxLen) :
    Calls Try.prog 46 #[.slice A n c, .int .i64 left] w fun e w' => e = .returned (.int .i64 (szI (left - n - totS l))) ∧ Below w.heap.size w w' := by
  have HN := Lib.hid hn
  have HS := Lib.hid hs
  clear hn hs
  by_cases h : left - n < 0
  · have ht := totS_nonneg l
    go_enter Try.func46, Try.ntmps46
    go_wp2
    go_ret
    exact ⟨ret_int (szI_neg (by omega)).symm, Below.refl _ _⟩
  · go_enter Try.func46, Try.ntmps46
    go_wp2
    go_loopw [1, 5] (fun v i wr => ∃ k : Nat, k ≤ n ∧ i = .int .i64 k ∧ v = .int .i64 (left - n - totS (l.take k)) ∧ 0 ≤ left - n - totS (l.take k) ∧ Below w.heap.size w wr) (fun _ i _ => n - (intOf i).toNat)
    case atStart => exact ⟨0, Nat.zero_le _, rfl, by simp [totS], by simp [totS]; omega, Below.refl _ _⟩
    case round =>
      obtain ⟨k, hk, rfl, rfl, hp, hbw⟩ := hrel
      have hsz := hbw.size
      have ht := totS_nonneg (l.take k)
      by_cases hlt : k < n
      · obtain ⟨b, o, x, rfl, hb, hxx, hcx⟩ := hr.el (fun _ => rfl) (by decide) HN.out hlt
        have c0 := (hbw.cell (p := ⟨b, o + k, none⟩) hb).trans (by simpa using hcx 0 _ rfl)
        have HXx := Lib.hid hxx
        clear hxx hcx
        have hxs := HS.out x (List.mem_of_getElem? HXx.out)
        unfold maxLen at hxs
        have htn := totS_next HXx.out
        have htl := totS_le l (k + 1)
        have HT := Lib.hid htn
        have HL := Lib.hid htl
        clear htn htl
        by_cases hneg : left - n - totS (l.take k) - x.size < 0
        · go_wp2
          go_ret
          exact ⟨ret_int (by have h3 := HT.out; have h4 := HL.out; exact (szI_neg (by omega)).symm), hbw⟩
        · go_wp2
          go_roundw
          case rel => exact ⟨k + 1, by omega, by go_num, by rw [HT.out]; congr 1; omega, by rw [HT.out]; omega, hbw⟩
          case measure => simp [intOf]; omega
      · have htk := take_all HN.out hlt
        have HT := Lib.hid htk
        clear htk
        go_wp2
        go_ret
        exact ⟨ret_int (by have h9 := hp; rw [HT.out] at h9 ⊢; exact (szI_nn (by omega)).symm), hbw⟩
theorem info_string : (Try.prog.info? 9).map (fun i => (i.zero, i.size, i.bytes)) = some (some (.string ByteArray.empty), 1, 16) := by kernel_rfl
set_option maxHeartbeats 2000000 in
/-- A slice that came in is copied into a row of the call's own. -/
theorem toStringS_c (A : Option Addr) (n c : Nat) (l : List ByteArray) (w : World) (hn : l.length = n) (hm : n ≤ 1048576) (hr : Reads w w.heap.size 1 A n (l.flatMap (fun x : ByteArray => [Value.string x]))) :
    Calls Try.prog 48 #[.slice A n c] w fun e w' => ∃ g, e = .returned (.slice (some ⟨g, 0, none⟩) n n) ∧ w.heap.size ≤ g ∧ Blk w' g 9 (l.flatMap (fun x : ByteArray => [Value.string x])) ∧ Below w.heap.size w w' := by
  obtain ⟨i0, hi, hz0, hz1, hz2⟩ := info_parts info_string
  have hmk := fun W => run_make_rowN (P := Try.prog) 23 9 i0 _ 1 16 Try.underlying23 hi hz0 hz1 hz2 n n (Nat.le_refl _) (by omega) (by omega) W
  have HN := Lib.hid hn
  clear hn hi hz0 hz1 hz2
  have hsz0 := madeCells_len (.string ByteArray.empty : Value).cells (n * 1)
  have HZ := Lib.hid hsz0
  generalize (madeCells (.string ByteArray.empty : Value).cells (n * 1)).toList = z at *
  clear hsz0
  go_enter Try.func48, Try.ntmps48
  go_wp2
  go_loopw [4] (fun i wr => ∃ k : Nat, ∃ cs : List Value, k ≤ n ∧ i = .int .i64 k ∧ Below w.heap.size w wr ∧ Blk wr w.heap.size 9 cs ∧ Hid (cs.length = n * 1) ∧ Hid (cs.take (k * 1) = (l.take k).flatMap (fun x : ByteArray => [Value.string x]))) (fun i _ => n - (intOf i).toNat)
  case atStart => exact ⟨0, z, Nat.zero_le _, rfl, by go_grown, Blk.new _ _ _, HZ, by simp [Hid]⟩
  case round =>
    obtain ⟨k, cs, hk, rfl, hbw, hblk, hcl, htk⟩ := hrel
    have hsz := hbw.size
    have hgl := hblk.lt
    by_cases hlt : k < n
    · obtain ⟨b, o, x, rfl, hb, hxx, hcx⟩ := hr.el (fun _ => rfl) (by decide) HN.out hlt
      have c0 := (hbw.cell (p := ⟨b, o + k, none⟩) hb).trans (by simpa using hcx 0 _ rfl)
      have HXx := Lib.hid hxx
      clear hxx hcx
      obtain ⟨v0, g0⟩ := hblk.get (i := k) (by rw [hcl.out]; omega)
      have f0 := hblk.frozen (k)
      have hk1 := hbw
      have hbk := hblk
      go_wp2
      go_roundw
      case rel => exact ⟨k + 1, setsAt cs (k * 1) ((fun x : ByteArray => [Value.string x]) x), by omega, by go_num, (Below.setCell hk1 (by simp) _), by rw [Nat.mul_one]; exact (hbk.set_ _ _), by rw [Hid, setsAt_len]; exact hcl.out, take_elem (cells := (fun x : ByteArray => [Value.string x])) (fun _ => rfl) HXx.out hcl.out hlt htk.out⟩
      case measure => simp [intOf]; omega
    · go_wp2
      go_ret
      refine ⟨_, rfl, Nat.le_refl _, ?_, hbw⟩
      have h1 := htk.out
      rw [take_all HN.out hlt, List.take_of_length_le (by rw [hcl.out]; exact Nat.mul_le_mul_right _ (by omega))] at h1
      rw [← h1]
      exact hblk
set_option maxHeartbeats 2000000 in
/-- Two slices that read as the same list are equal. -/
theorem eqStringS_c (A A' : Option Addr) (n c c' : Nat) (l : List ByteArray) (w : World) (hn : l.length = n) (hm : n ≤ 140737488355328) (hr : Reads w w.heap.size 1 A n (l.flatMap (fun x : ByteArray => [Value.string x]))) (hr' : Reads w w.heap.size 1 A' n (l.flatMap (fun x : ByteArray => [Value.string x]))) :
    Calls Try.prog 50 #[.slice A n c, .slice A' n c'] w fun e w' => e = .returned (.bool true) ∧ Below w.heap.size w w' := by
  have HN := Lib.hid hn
  clear hn
  go_enter Try.func50, Try.ntmps50
  go_wp2
  go_loopw [5] (fun i wr => ∃ k : Nat, k ≤ n ∧ i = .int .i64 k ∧ Below w.heap.size w wr) (fun i _ => n - (intOf i).toNat)
  case atStart => exact ⟨0, Nat.zero_le _, rfl, Below.refl _ _⟩
  case round =>
    obtain ⟨k, hk, rfl, hbw⟩ := hrel
    have hsz := hbw.size
    by_cases hlt : k < n
    · obtain ⟨b, o, x, rfl, hb, hxx, hcx⟩ := hr.el (fun _ => rfl) (by decide) HN.out hlt
      have c0 := (hbw.cell (p := ⟨b, o + k, none⟩) hb).trans (by simpa using hcx 0 _ rfl)
      have HXx := Lib.hid hxx
      clear hxx hcx
      obtain ⟨b', o', y, rfl, hb', hxy, hcy⟩ := hr'.el (fun _ => rfl) (by decide) HN.out hlt
      have d0 := (hbw.cell (p := ⟨b', o' + k, none⟩) hb').trans (by simpa using hcy 0 _ rfl)
      have HXy := Lib.hid hxy
      clear hxy hcy
      obtain rfl : x = y := by
        have h1 := HXx.out
        rw [HXy.out] at h1
        injection h1 with h1
        exact h1.symm
      have l1 : (k : Int) < (n : Int) := by omega
      go_wp2_with fail
      go_quiet (fail)
      have hk1 : Below w.heap.size w (wr.drewN nq) := below_drewN hbw _
      go_wp2
      go_roundw
      case rel => exact ⟨k + 1, by omega, by go_num, hk1⟩
      case measure => simp [intOf]; omega
    · go_wp2
      go_ret
      exact ⟨rfl, hbw⟩
def mdig : Nat → Int → ByteArray → ByteArray
  | 0, _, out => out
  | f + 1, k, out => if 0 < k then mdig f (k / 10) (strOfNums [48 + k % 10] ++ out) else out
def mInit : ByteArray := ⟨#[109]⟩
/-- The text that the laws write for a number. -/
def mtxt (q : Int) : ByteArray := if q ≤ 0 then ⟨#[109, 48]⟩ else mInit ++ mdig (q.toNat + 1) q ⟨#[]⟩
theorem bytesLit1 (W : World) (x0 : Int) : (convert 70 9 (.slice (some ⟨W.heap.size, 0, none⟩) 1 1)).run Try.prog (W.alloc (.cells #[.int .u8 x0] 5)) = .ok (.string (strOfNums [x0])) (W.alloc (.cells #[.int .u8 x0] 5)) :=
  run_convert_bytes_arg _ 70 5 Try.underlying70 Try.underlying5 W.heap.size 0 1 1 [x0] rfl (fun i hi => by
    match i, hi with
    | 0, _ => simp [go_sem]) 9 Try.underlying9
set_option maxHeartbeats 2000000 in
theorem markText_c (q : Int) (w : World) (hq : q ≤ 1000000000000) (hq0 : 0 ≤ q) :
    Calls Try.prog 92 #[.int .i64 q] w fun e w' => e = .returned (.string (mtxt q)) ∧ Below w.heap.size w w' := by
  have hcv := bytesLit1
  by_cases h0 : q ≤ 0
  · go_enter Try.func92, Try.ntmps92
    go_wp2
    go_ret
    exact ⟨ret_string (by rw [mtxt, if_pos h0]), Below.refl _ _⟩
  · have hfin : mtxt q = mInit ++ mdig (q.toNat + 1) q ⟨#[]⟩ := by rw [mtxt, if_neg h0]
    have HF := Lib.hid hfin
    clear hfin
    have hz1 : mInit.size = 1 := rfl
    go_enter Try.func92, Try.ntmps92
    go_wp2
    go_loopw [0, 3] (fun v s wr => ∃ (f : Nat) (k : Int) (out : ByteArray), v = .int .i64 k ∧ s = .string out ∧ 0 ≤ k ∧ k ≤ 1000000000000 ∧ k < f ∧ out.size + f ≤ 1000000000001 ∧ Hid (mdig f k out = mdig (q.toNat + 1) q ⟨#[]⟩) ∧ Below w.heap.size w wr) (fun v _ _ => (intOf v).toNat)
    case atStart => exact ⟨q.toNat + 1, q, ⟨#[]⟩, rfl, rfl, hq0, hq, by omega, by show 0 + (q.toNat + 1) ≤ _; omega, rfl, Below.refl _ _⟩
    case round =>
      obtain ⟨f, k, out, rfl, rfl, hk0, hk1, hkf, hof, hd, hbw⟩ := hrel
      have hsz := hbw.size
      by_cases hlt : 0 < k
      · obtain ⟨f, rfl⟩ : ∃ f', f = f' + 1 := ⟨f - 1, by omega⟩
        have hn : mdig f (k / 10) (strOfNums [48 + k % 10] ++ out) = mdig (q.toNat + 1) q ⟨#[]⟩ := by
          have := hd.out
          rwa [mdig, if_pos hlt] at this
        have hsn : (strOfNums [48 + k % 10]).size = 1 := rfl
        have HN := Lib.hid hn
        clear hn
        have m1 := Int.emod_nonneg k (show (10 : Int) ≠ 0 by omega)
        have m2 := Int.emod_lt_of_pos k (show (0 : Int) < 10 by omega)
        go_wp2
        go_roundw
        case rel => exact ⟨f, k / 10, strOfNums [48 + k % 10] ++ out, rfl, rfl, by omega, by omega, by omega, by rw [ByteArray.size_append, hsn]; omega, HN, by go_grown⟩
        case measure => simp [intOf]; omega
      · have hn : mInit ++ out = mtxt q := by
          rw [HF.out, ← hd.out]
          cases f with
          | zero => rfl
          | succ f => rw [mdig, if_neg hlt]
        have HN := Lib.hid hn
        clear hn
        go_wp2
        go_ret
        exact ⟨ret_string HN.out, hbw⟩
/-- What the laws write into an element's cells, from a number on. -/
def mkStringS (q : Int) : List Value := [.string (mtxt (q))]
def marksStringS (n : Nat) (q : Int) : List Value := (List.range n).flatMap fun (i : Nat) => mkStringS (q + (i : Int) * 1)
set_option maxHeartbeats 4000000 in
/-- Every cell of a row of the caller's own is overwritten. -/
theorem markStringS_c (A : Option Addr) (n c base : Nat) (xs : List Value) (q : Int) (w : World) (hown : w.ownsRow base 9 1 (.slice A n c) n xs) (hq0 : 0 ≤ q) (hq1 : q ≤ 1000000000) (hm : n ≤ 4194304) :
    Calls Try.prog 51 #[.slice A n c, .int .i64 q] w fun e w' => e = .returned (.int .i64 (q + n * 1)) ∧ w'.ownsRow base 9 1 (.slice A n c) n (marksStringS n q) ∧ w.grownBy w' (Value.slice A n c).ownBlock := by
  rcases hown.2 with ⟨hv, hn⟩ | ⟨g, cap, cur, hv, hbg, hblk, hnc, hcm, hsz, htk⟩
  · injection hv with h1 h2 h3
    subst h1; subst h3; subst hn
    go_enter Try.func51, Try.ntmps51
    go_wp2
    go_loopw [1, 5] (fun q' i wr => q' = .int .i64 q ∧ i = .int .i64 0 ∧ wr = w) (fun _ _ _ => 0)
    case atStart => exact ⟨rfl, rfl, rfl⟩
    case round =>
      obtain ⟨rfl, rfl, rfl⟩ := hrel
      go_wp2
      go_ret
      exact ⟨ret_int (by omega), ⟨by simp [marksStringS], .inl ⟨rfl, rfl⟩⟩, World.grownBy.refl _ _⟩
  · injection hv with h1 h2 h3
    subst h1; subst h3
    have hlen := hown.1
    have hcl : cur.toList.length = c * 1 := by simpa using hsz
    have HB0 : Blk w g 9 cur.toList := hblk
    have HC0 := Lib.hid hcl
    have hblt := HB0.lt
    clear hblk hsz hcl htk hlen hown
    generalize cur.toList = cu at *
    go_enter Try.func51, Try.ntmps51
    go_wp2
    go_loopw [1, 5] (fun q' i wr => ∃ k : Nat, ∃ cs : List Value, k ≤ n ∧ q' = .int .i64 (q + (k : Int)) ∧ i = .int .i64 k ∧ w.grownBy wr (some g) ∧ Blk wr g 9 cs ∧ Hid (cs.length = c * 1) ∧ Hid (cs.take (k * 1) = ((List.range n).take k).flatMap fun (i : Nat) => mkStringS (q + (i : Int) * 1))) (fun _ i _ => n - (intOf i).toNat)
    case atStart => exact ⟨0, cu, Nat.zero_le _, by simp, rfl, World.grownBy.refl _ _, HB0, HC0, by simp [Hid]⟩
    case round =>
      obtain ⟨k, cs, hk, rfl, rfl, hgr, hbk, hcl, htk⟩ := hrel
      have hgl := hbk.lt
      have hgz := hgr.size
      by_cases hlt : k < n
      · have hr : (List.range n)[k]? = some k := by simp [hlt]
        have HR := Lib.hid hr
        clear hr
        obtain ⟨v0, g0⟩ := hbk.get (i := k) (by rw [hcl.out]; omega)
        have f0 := hbk.frozen (k)
        have hmn : (k : Int) ≤ 4194304 := by omega
        go_wp2_with (go_at_call 92; refine (markText_c _ _ (by omega) (by omega)).mono ?_; rintro e w1 ⟨rfl, hb1⟩; have hg1 := only_below hgr hb1; have hbk1 := hbk.ext hb1; have e0 := (hb1.cell (p := ⟨g, k, none⟩) hgl).trans g0; have fr0 := hbk1.frozen k; have hgl1 := hbk1.lt; clear hb1)
        go_roundw
        case rel =>
          refine ⟨k + 1, setsAt cs (k * 1) (mkStringS (q + (k : Int) * 1)), by omega, by go_num, by go_num, only_setCell hg1 (.inl rfl) _, ?_, by rw [Hid, setsAt_len]; exact hcl.out, ?_⟩
          · rw [Nat.mul_one, mkStringS, Int.mul_one]; exact hbk1.set_ _ _
          · exact take_elem (cells := fun i : Nat => mkStringS (q + (i : Int) * 1)) (fun _ => rfl) HR.out hcl.out (by omega) htk.out
        case measure => simp [intOf]; omega
      · have hkn : k = n := by omega
        subst hkn
        go_wp2
        go_ret
        refine ⟨ret_int (by omega), ⟨?_, .inr ⟨g, c, cs.toArray, rfl, hbg, hbk, hnc, hcm, by simpa using hcl.out, ?_⟩⟩, hgr⟩
        · rw [marksStringS, flatMap_len _ 1 (fun _ => rfl)]; simp
        · have h1 := htk.out
          rw [show (List.range k).take k = List.range k from List.take_of_length_le (by simp)] at h1
          exact h1
set_option maxHeartbeats 4000000 in
/-- A row that holds the marks holds them. -/
theorem heldStringS_c (A : Option Addr) (n c : Nat) (q : Int) (w : World) (hr : Reads w w.heap.size 1 A n (marksStringS n q)) (hq0 : 0 ≤ q) (hq1 : q ≤ 1000000000) (hm : n ≤ 4194304) :
    Calls Try.prog 74 #[.slice A n c, .int .i64 q] w fun e w' => e = .returned (.int .i64 (q + n * 1)) ∧ Below w.heap.size w w' := by
  go_enter Try.func74, Try.ntmps74
  go_wp2
  go_loopw [1, 5] (fun q' i wr => ∃ k : Nat, k ≤ n ∧ q' = .int .i64 (q + (k : Int)) ∧ i = .int .i64 k ∧ Below w.heap.size w wr) (fun _ i _ => n - (intOf i).toNat)
  case atStart => exact ⟨0, Nat.zero_le _, by simp, rfl, Below.refl _ _⟩
  case round =>
    obtain ⟨k, hk, rfl, rfl, hbw⟩ := hrel
    have hsz := hbw.size
    by_cases hlt : k < n
    · obtain ⟨b, o, x, rfl, hb, hx, hc⟩ := Reads.el (cells := fun i : Nat => mkStringS (q + (i : Int) * 1)) (l := List.range n) hr (fun _ => rfl) (by decide) (by simp) hlt
      have hxk : k = x := by simpa [hlt] using hx
      subst hxk
      have c0 : wr.cell? ⟨b, o + k, none⟩ = some (.string (mtxt (q + (k : Int)))) := (hbw.cell (p := ⟨b, o + k, none⟩) hb).trans (by simpa [mkStringS] using hc 0 _ rfl)
      clear hx hc
      have hx2 : ∀ t : Ext wr, t.wd.cell? ⟨b, o + k, none⟩ = some (.string (mtxt (q + (k : Int)))) := fun t => t.cell c0
      have l1 : (k : Int) < (n : Int) := by omega
      go_wp2_with fail
      refine wp_region_ext_lit (by kernel_rfl) (by kernel_rfl) ?_
      repeat (go_big_quiet_step (((go_at_call 92; exact ext_call (markText_c _ _ (by omega) (by omega))))))
      refine wpQuiet_nil ?_
      intro _ hw'
      obtain ⟨tq, hw''⟩ := hw'
      subst hw''
      go_wp2
      go_roundw
      case rel => exact ⟨k + 1, by omega, by go_num, by go_num, ext_step hbw hbw.size tq.below⟩
      case measure => simp [intOf]; omega
    · have hkn : k = n := by omega
      subst hkn
      go_wp2
      go_ret
      exact ⟨ret_int (by omega), hbw⟩
end Go.Proofs.Ytjeenjblenpinaa
