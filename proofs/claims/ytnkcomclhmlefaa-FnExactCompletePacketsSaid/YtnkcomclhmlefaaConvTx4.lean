/- Contracts of the laws' helpers on queues for sending: mark, held (the walks). -/
import Derived.Test.YtnkcomclhmlefaaConvTx3
namespace Go.Proofs.Ytnkcomclhmlefaa
set_option linter.unusedSimpArgs false
set_option linter.unusedVariables false
open Go.RowKit Go.ChangeShapes Go.WideShapes
theorem row_cell {w : World} {g n k : Nat} {cs : List Value} {M : List SentH} {x : SentH} (hb : Blk w g 52 cs) (ht : cs.take (n * 3) = M.flatMap SentH.cells) (hx : M[k]? = some x) (hk : k < n) (j : Nat) (u : Value) (hj : (SentH.cells x)[j]? = some u) : w.cell? ⟨g, k * 3 + j, none⟩ = some u := by
  have hj3 : j < 3 := by have := (List.getElem?_eq_some_iff.1 hj).1; exact this
  have h1 : (M.flatMap SentH.cells)[k * 3 + j]? = some u := by
    rw [flatMap_get SentH.cells 3 (fun _ => rfl) (by decide), show (k * 3 + j) / 3 = k by omega, show (k * 3 + j) % 3 = j by omega, hx]; exact hj
  rw [← ht, List.getElem?_take] at h1
  rw [hb.cell]
  rwa [if_pos (by omega)] at h1
set_option maxHeartbeats 4000000 in
/-- Every waiting packet is overwritten, its buffers too. -/
theorem markSentS_c (A : Option Addr) (n c base : Nat) (L : List SentH) (q : Int) (w : World) (hown : w.ownsRow base 52 3 (.slice A n c) n (L.flatMap SentH.cells)) (hn : L.length = n) (iO : InOwn w base L) (hq0 : 0 ≤ q) (hq1 : q ≤ 100000000) (hm : n ≤ 1048576) (hm2 : totB L ≤ 1048576) :
    Calls Try.prog 37 #[.slice A n c, .int .i64 q] w fun e w' => e = .returned (.int .i64 (q + 2 * n + totB L)) ∧ w'.ownsRow base 52 3 (.slice A n c) n ((markH q L).flatMap SentH.cells) ∧ InOwn w' base (markH q L) ∧ GrownB w w' (fun g => (Value.slice A n c).ownBlock = some g ∨ ∃ x ∈ L, x.ob = some g) := by
  rcases hown.2 with ⟨hv, h0⟩ | ⟨g, cap, cur, hv, hbg, hblk, hnc, hcm, hsz, htk⟩
  · injection hv with h1 h2 h3
    subst h1; subst h3; subst h2
    have hL : L = [] := List.eq_nil_of_length_eq_zero hn
    subst hL
    go_enter Try.func37, Try.ntmps37
    go_wp2
    go_loopw [1, 5] (fun q' i wr => q' = .int .i64 q ∧ i = .int .i64 0 ∧ wr = w) (fun _ _ _ => 0)
    case atStart => exact ⟨rfl, rfl, rfl⟩
    case round =>
      obtain ⟨rfl, rfl, rfl⟩ := hrel
      go_wp2
      go_ret
      exact ⟨ret_int (by simp [totB]), own_nil _ _ _ _, InOwn.nil _ _, GrownB.refl _ _⟩
  · injection hv with h1 h2 h3
    subst h1; subst h3
    have hcl : cur.toList.length = c * 3 := by simpa using hsz
    have HB0 : Blk w g 52 cur.toList := hblk
    have HC0 := Lib.hid hcl
    have HT0 : Hid (cur.toList.take (n * 3) = (mkL q L 0).flatMap SentH.cells) := by rw [mkL_0]; exact htk
    have iO0 : InOwn w base (mkL q L 0) := by rw [mkL_0]; exact iO
    clear hblk hsz hcl htk hown
    generalize cur.toList = cu at *
    go_enter Try.func37, Try.ntmps37
    go_wp2
    go_loopw [1, 5] (fun q' i wr => ∃ (k : Nat) (cs : List Value), k ≤ n ∧ q' = .int .i64 (q + 2 * k + totB (L.take k)) ∧ i = .int .i64 k ∧ GrownB w wr (fun j => some g = some j ∨ ∃ x ∈ L, x.ob = some j) ∧ Blk wr g 52 cs ∧ Hid (cs.length = c * 3) ∧ Hid (cs.take (n * 3) = (mkL q L k).flatMap SentH.cells) ∧ InOwn wr base (mkL q L k)) (fun _ i _ => n - (intOf i).toNat)
    case atStart => exact ⟨0, cu, Nat.zero_le _, by simp [totB], rfl, GrownB.refl _ _, HB0, HC0, HT0, iO0⟩
    case round =>
      obtain ⟨k, cs, hk, rfl, rfl, hgr, hbk, hcl, htk, hio⟩ := hrel
      have hgl := hbk.lt
      have hgz := hgr.size
      have htt := totB_take L k
      by_cases hlt : k < n
      · obtain ⟨x, hx⟩ : ∃ x, L[k]? = some x := ⟨L[k]'(by omega), List.getElem?_eq_getElem (by omega)⟩
        have hgx := mkL_get (q := q) hx
        have hnx := mkL_next (q := q) hx
        have htn := totB_next hx
        have hxm := List.mem_of_getElem? hx
        have hxn := totB_mem hxm
        have c2 := row_cell hbk htk.out hgx hlt 2 _ rfl
        obtain ⟨v0, g0⟩ := hbk.get (i := k * 3) (by rw [hcl.out]; omega)
        obtain ⟨v1, g1⟩ := hbk.get (i := k * 3 + 1) (by rw [hcl.out]; omega)
        have f0 := hbk.frozen (k * 3)
        have f1 := hbk.frozen (k * 3 + 1)
        obtain ⟨T, hT⟩ : ∃ T, totB (L.take k) = T := ⟨_, rfl⟩
        rw [hT] at hnx htn htt
        simp only [hT]
        have HNX := Lib.hid hnx
        have HTN := Lib.hid htn
        have HGX := Lib.hid hgx
        clear hnx htn hgx hx
        have hcA : ChgA g wr ((wr.setCell ⟨g, k * 3, none⟩ (.int .i64 (q + 2 * k + T))).setCell ⟨g, k * 3 + 1, none⟩ (.int .i64 (q + 2 * k + T + 1))) := ((ChgA.refl g wr).set _ _).set _ _
        have hbk2 := (hbk.set_ (k * 3) (.int .i64 (q + 2 * k + T))).set_ (k * 3 + 1) (.int .i64 (q + 2 * k + T + 1))
        have hio2 := hio.chgT hcA hbk (by decide)
        have hox := (hio2.1 x (List.mem_of_getElem? HGX.out)).2
        have hgr2 := hgr.chgA hcA (.inl rfl)
        go_wp2_with (go_at_call 14; refine (markIntS_c x.A x.n x.c base (ints x.bufs) (q + 2 * k + T + 1 + 1) _ hox (by omega) (by omega) (by omega)).mono ?_; rintro e w1 ⟨rfl, om, hg⟩)
        have hgr3 := hgr2.row hg (fun j e => .inr ⟨x, hxm, e⟩)
        have hbk3 := Blk.grow hbk2 hox hg (by decide)
        rw [← mkI_ints] at om
        have hio3 := hio2.setAt (y := markX (q + 2 * k + T) x) HGX.out hg (by rw [show (markX (q + 2 * k + T) x).bufs = mkI x.n (q + 2 * k + T + 1 + 1) by simp only [markX]; congr 1; omega]; exact om) rfl (mkI_len _ _)
        rw [← HNX.out] at hio3
        have htk3 : Hid (((cs.set (k * 3) (.int .i64 (q + 2 * k + T))).set (k * 3 + 1) (.int .i64 (q + 2 * k + T + 1))).take (n * 3) = (mkL q L (k + 1)).flatMap SentH.cells) := by
          rw [Hid, List.take_set, List.take_set, htk.out, HNX.out]
          have e1 := flat_set1 (cells := SentH.cells) (size := 3) (fun _ => rfl) (mkL q L k) k 0 (.int .i64 (q + 2 * k + T)) x ⟨q + 2 * k + T, x.slots, x.A, x.n, x.c, x.bufs⟩ HGX.out (by decide) rfl
          rw [Nat.add_zero] at e1
          rw [e1]
          have hkl : k < (mkL q L k).length := (List.getElem?_eq_some_iff.1 HGX.out).1
          have e2 := flat_set1 (cells := SentH.cells) (size := 3) (fun _ => rfl) ((mkL q L k).set k ⟨q + 2 * k + T, x.slots, x.A, x.n, x.c, x.bufs⟩) k 1 (.int .i64 (q + 2 * k + T + 1)) ⟨q + 2 * k + T, x.slots, x.A, x.n, x.c, x.bufs⟩ (markX (q + 2 * k + T) x) (by rw [List.getElem?_set_self hkl]) (by decide) rfl
          rw [e2, List.set_set]
        go_roundw
        case rel => exact ⟨k + 1, _, by omega, by rw [HTN.out]; congr 1; omega, by go_num, hgr3, hbk3, by rw [Hid, List.length_set, List.length_set]; exact hcl.out, htk3, hio3⟩
        case measure => simp [intOf]; omega
      · have hkn : k = n := by omega
        subst hkn
        have hta : L.take k = L := List.take_of_length_le (by omega)
        have hma : mkL q L k = markH q L := by rw [← hn]; exact mkL_all q L
        rw [hma] at htk hio
        rw [hta]
        go_wp2
        go_ret
        exact ⟨rfl, own_mk hbg hbk hnc hcm hcl.out htk.out (by rw [flatMap_len _ 3 (fun _ => rfl), markH_len, hn]), hio, hgr⟩
set_option maxHeartbeats 4000000 in
theorem heldSentS_c (A : Option Addr) (n c : Nat) (L : List SentH) (q : Int) (w : World) (hr : Reads w w.heap.size 3 A n ((markH q L).flatMap SentH.cells)) (hn : L.length = n) (hi : InRd w w.heap.size (markH q L)) (hq0 : 0 ≤ q) (hq1 : q ≤ 100000000) (hm : n ≤ 1048576) (hm2 : totB L ≤ 1048576) :
    Calls Try.prog 39 #[.slice A n c, .int .i64 q] w fun e w' => e = .returned (.int .i64 (q + 2 * n + totB L)) ∧ Below w.heap.size w w' := by
  go_enter Try.func39, Try.ntmps39
  go_wp2
  go_loopw [1, 5] (fun q' i wr => ∃ k : Nat, k ≤ n ∧ q' = .int .i64 (q + 2 * k + totB (L.take k)) ∧ i = .int .i64 k ∧ Below w.heap.size w wr) (fun _ i _ => n - (intOf i).toNat)
  case atStart => exact ⟨0, Nat.zero_le _, by simp [totB], rfl, Below.refl _ _⟩
  case round =>
    obtain ⟨k, hk, rfl, rfl, hbw⟩ := hrel
    have hsz := hbw.size
    have htt := totB_take L k
    by_cases hlt : k < n
    · obtain ⟨x, hx⟩ : ∃ x, L[k]? = some x := ⟨L[k]'(by omega), List.getElem?_eq_getElem (by omega)⟩
      have hxn := totB_mem (List.mem_of_getElem? hx)
      have hmx := markH_get (q := q) hx
      obtain ⟨b, o, y, rfl, hbl, hy, hc⟩ := hr.el (fun _ => rfl) (by decide) (by rw [markH_len, hn]) hlt
      rw [hmx] at hy
      injection hy with hy
      subst hy
      obtain ⟨hyl, hyr⟩ := hi _ (List.mem_of_getElem? hmx)
      have htn := totB_next hx
      obtain ⟨T, hT⟩ : ∃ T, totB (L.take k) = T := ⟨_, rfl⟩
      rw [hT] at htn htt hc hyl hyr
      simp only [hT]
      have c0 : wr.cell? ⟨b, o + k * 3, none⟩ = some (.int .i64 (q + 2 * k + T)) := (hbw.cell (p := ⟨b, o + k * 3, none⟩) hbl).trans (by simpa [markX] using hc 0 _ rfl)
      have c1 : wr.cell? ⟨b, o + k * 3 + 1, none⟩ = some (.int .i64 (q + 2 * k + T + 1)) := (hbw.cell (p := ⟨b, o + k * 3 + 1, none⟩) hbl).trans (by simpa [markX] using hc 1 _ rfl)
      have c2 : wr.cell? ⟨b, o + k * 3 + 2, none⟩ = some (.slice x.A x.n x.c) := (hbw.cell (p := ⟨b, o + k * 3 + 2, none⟩) hbl).trans (by simpa [markX] using hc 2 _ rfl)
      have hrx : Reads wr wr.heap.size 1 x.A x.n (marksIntS x.n (q + 2 * k + T + 1 + 1)) := by
        rw [← mkI_ints, show q + 2 * (k : Int) + T + 1 + 1 = q + 2 * k + T + 2 by omega]; exact hyr.to hbw
      have HTN := Lib.hid htn
      have hp : ¬ (q + 2 * (k : Int) + T + 1 + 1 + x.n * 1 < 0) := by omega
      clear hc hyl hyr hmx hx htn
      go_wp2_with (go_at_call 16; refine (heldIntS_c x.A x.n x.c (q + 2 * k + T + 1 + 1) _ hrx (by omega) (by omega) (by omega)).mono ?_; rintro e w1 ⟨rfl, hb1⟩; have k1 : Below w.heap.size w w1 := ext_step hbw hsz hb1; clear hb1)
      go_roundw
      case rel => exact ⟨k + 1, by omega, by rw [HTN.out]; congr 1; omega, by go_num, k1⟩
      case measure => simp [intOf]; omega
    · have hkn : k = n := by omega
      subst hkn
      have hta : L.take k = L := List.take_of_length_le (by omega)
      rw [hta]
      go_wp2
      go_ret
      exact ⟨rfl, hbw⟩
end Go.Proofs.Ytnkcomclhmlefaa
