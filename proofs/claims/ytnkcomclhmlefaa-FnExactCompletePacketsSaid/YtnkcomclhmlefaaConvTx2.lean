/- Contracts of the laws' helpers on queues for sending: sz, eq. -/
import Derived.Test.YtnkcomclhmlefaaConvTx
namespace Go.Proofs.Ytnkcomclhmlefaa
set_option linter.unusedSimpArgs false
set_option linter.unusedVariables false
open Go.RowKit Go.ChangeShapes Go.WideShapes
set_option maxHeartbeats 1000000 in
theorem szSent_p (cookie slots : Int) (A : Option Addr) (n c : Nat) (left : Int) (w : World) (h0 : (n : Int) ≤ left) (h1 : left ≤ 1048576) :
    Calls Try.prog 41 #[.agg #[.int .i64 cookie, .int .i64 slots, .slice A n c], .int .i64 left] w fun e w' => e = .returned (.int .i64 (left - n)) ∧ Below w.heap.size w w' := by
  have hs := fun u => szIntS_p A n c left u h0 h1
  have hq : ¬ left - (n : Int) < 0 := by omega
  go_enter Try.func41, Try.ntmps41
  go_wp2_with fail
  refine (hs _).mono ?_
  rintro e w1 ⟨rfl, hw⟩
  have k1 : Below w.heap.size w w1 := by rw [← hw]; go_grown
  clear hw
  go_wp2
  go_ret
  exact ⟨rfl, k1⟩
set_option maxHeartbeats 1000000 in
theorem szSent_n (cookie slots : Int) (A : Option Addr) (n c : Nat) (left : Int) (w : World) (hl : 0 ≤ left) (h0 : left < n) (h1 : left ≤ 1048576) (hm : n ≤ 9223372036854775807) :
    Calls Try.prog 41 #[.agg #[.int .i64 cookie, .int .i64 slots, .slice A n c], .int .i64 left] w fun e w' => e = .returned (.int .i64 (-1)) ∧ Below w.heap.size w w' := by
  have hs := fun u => szIntS_n A n c left u hl h0 h1 hm
  skip
  go_enter Try.func41, Try.ntmps41
  go_wp2_with fail
  refine (hs _).mono ?_
  rintro e w1 ⟨rfl, hw⟩
  have k1 : Below w.heap.size w w1 := by rw [← hw]; go_grown
  clear hw
  go_wp2
  go_ret
  exact ⟨rfl, k1⟩
set_option maxHeartbeats 2000000 in
theorem szSentS_c (A : Option Addr) (n c : Nat) (L : List SentH) (left : Int) (w : World) (h0 : 0 ≤ left) (h1 : left ≤ 1048576) (hn : L.length = n) (hm : n ≤ 9223372036854775807) (hr : Reads w w.heap.size 3 A n (L.flatMap SentH.cells)) (hx63 : ∀ x ∈ L, x.n ≤ 9223372036854775807) :
    Calls Try.prog 18 #[.slice A n c, .int .i64 left] w fun e w' => e = .returned (.int .i64 (szI (left - n - totB L))) ∧ Below w.heap.size w w' := by
  have HN := Lib.hid hn
  clear hn
  by_cases h : left - n < 0
  · go_enter Try.func18, Try.ntmps18
    go_wp2
    go_ret
    exact ⟨ret_int (szI_neg (by omega)).symm, Below.refl _ _⟩
  · go_enter Try.func18, Try.ntmps18
    go_wp2
    go_loopw [1, 5] (fun v i wr => ∃ k : Nat, k ≤ n ∧ i = .int .i64 k ∧ v = .int .i64 (left - n - totB (L.take k)) ∧ 0 ≤ left - n - totB (L.take k) ∧ Below w.heap.size w wr) (fun _ i _ => n - (intOf i).toNat)
    case atStart => exact ⟨0, Nat.zero_le _, rfl, by simp [totB], by simp [totB]; omega, Below.refl _ _⟩
    case round =>
      obtain ⟨k, hk, rfl, rfl, hp, hbw⟩ := hrel
      have hsz := hbw.size
      by_cases hlt : k < n
      · obtain ⟨b, o, x, rfl, hbl, hx, hc⟩ := hr.el (fun _ => rfl) (by decide) HN.out hlt
        have c0 := (hbw.cell (p := ⟨b, o + k * 3, none⟩) hbl).trans (by simpa using hc 0 _ rfl)
        have c1 := (hbw.cell (p := ⟨b, o + k * 3 + 1, none⟩) hbl).trans (by simpa using hc 1 _ rfl)
        have c2 := (hbw.cell (p := ⟨b, o + k * 3 + 2, none⟩) hbl).trans (by simpa using hc 2 _ rfl)
        have hxs := hx63 x (List.mem_of_getElem? hx)
        have htn := totB_next hx
        have htl := totB_take L (k + 1)
        obtain ⟨T, hT⟩ : ∃ T, totB (L.take k) = T := ⟨_, rfl⟩
        rw [hT] at htn hp
        simp only [hT]
        have HT := Lib.hid htn
        have HL := Lib.hid htl
        clear htn htl hx hc
        by_cases hneg : left - n - T < x.n
        · have hs := fun u => szSent_n x.cookie x.slots x.A x.n x.c (left - n - T) u hp hneg (by omega) hxs
          go_wp2_with (go_at_call 41; refine (hs _).mono ?_; rintro e w1 ⟨rfl, hb1⟩; have k1 : Below w.heap.size w w1 := ext_step hbw hsz hb1; clear hb1)
          go_ret
          exact ⟨ret_int (by have h3 := HT.out; have h4 := HL.out; exact (szI_neg (by omega)).symm), k1⟩
        · have hs := fun u => szSent_p x.cookie x.slots x.A x.n x.c (left - n - T) u (by omega) (by omega)
          have hq : ¬ left - n - T - (x.n : Int) < 0 := by omega
          go_wp2_with (go_at_call 41; refine (hs _).mono ?_; rintro e w1 ⟨rfl, hb1⟩; have k1 : Below w.heap.size w w1 := ext_step hbw hsz hb1; clear hb1)
          go_roundw
          case rel => exact ⟨k + 1, by omega, by go_num, by rw [HT.out]; congr 1; omega, by rw [HT.out]; omega, k1⟩
          case measure => simp [intOf]; omega
      · have htk := take_all HN.out hlt
        have HT := Lib.hid htk
        clear htk
        go_wp2
        go_ret
        exact ⟨ret_int (by have h9 := hp; rw [HT.out] at h9 ⊢; exact (szI_nn (by omega)).symm), hbw⟩
set_option maxHeartbeats 2000000 in
theorem szTxQueue_c (rb rs rh rt pb ps pc : Int) (Ap : Option Addr) (np cp : Nat) (As : Option Addr) (ns cs : Nat) (L : List SentH) (next : Int) (left : Int) (w : World) (h0 : 0 ≤ left) (h1 : left ≤ 1048576) (hnp : np ≤ 9223372036854775807) (hn2 : L.length = ns) (hns : ns ≤ 9223372036854775807) (hr2 : Reads w w.heap.size 3 As ns (L.flatMap SentH.cells)) (hx63 : ∀ x ∈ L, x.n ≤ 9223372036854775807) :
    Calls Try.prog 5 #[.agg #[.int .i64 rb, .int .i64 rs, .int .i64 rh, .int .i64 rt, .int .i64 pb, .int .i64 ps, .int .i64 pc, .slice Ap np cp, .slice As ns cs, .int .i64 next], .int .i64 left] w fun e w' => e = .returned (.int .i64 (szI (left - np - ns - totB L))) ∧ Below w.heap.size w w' := by
  by_cases g1 : left - np < 0
  · have H1 := Lib.hid (szI_neg g1)
    go_enter Try.func5, Try.ntmps5
    go_wp2_with fail
    have k0 : Below w.heap.size w (w.alloc (.cells #[.int .i64 rb, .int .i64 rs, .int .i64 rh, .int .i64 rt, .int .i64 pb, .int .i64 ps, .int .i64 pc, .slice Ap np cp, .slice As ns cs, .int .i64 next] 29)) := by go_grown
    have bl0 : w.heap.size < (w.alloc (.cells #[.int .i64 rb, .int .i64 rs, .int .i64 rh, .int .i64 rt, .int .i64 pb, .int .i64 ps, .int .i64 pc, .slice Ap np cp, .slice As ns cs, .int .i64 next] 29)).heap.size := by go_size
    have hk0 : Blk (w.alloc (.cells #[.int .i64 rb, .int .i64 rs, .int .i64 rh, .int .i64 rt, .int .i64 pb, .int .i64 ps, .int .i64 pc, .slice Ap np cp, .slice As ns cs, .int .i64 next] 29)) (w.heap.size) 29 [.int .i64 rb, .int .i64 rs, .int .i64 rh, .int .i64 rt, .int .i64 pb, .int .i64 ps, .int .i64 pc, .slice Ap np cp, .slice As ns cs, .int .i64 next] := by simpa using Blk.new w 29 [.int .i64 rb, .int .i64 rs, .int .i64 rh, .int .i64 rt, .int .i64 pb, .int .i64 ps, .int .i64 pc, .slice Ap np cp, .slice As ns cs, .int .i64 next]
    have p0 := k0.size
    generalize hW0 : (w.alloc (.cells #[.int .i64 rb, .int .i64 rs, .int .i64 rh, .int .i64 rt, .int .i64 pb, .int .i64 ps, .int .i64 pc, .slice Ap np cp, .slice As ns cs, .int .i64 next] 29)) = w0 at *
    clear hW0
    refine (szPool_c _ _ _ _ _ _ left _ h0 h1 (by omega)).mono ?_
    rintro e w1 ⟨rfl, hb⟩
    have k1 : Below w.heap.size w w1 := ext_step k0 (by omega) hb
    have p1 := hb.size
    replace hk0 := hk0.ext hb
    have bl0 := Nat.lt_of_lt_of_le bl0 hb.size
    rw [H1.out]
    clear hb
    go_wp2
    go_ret
    exact ⟨ret_int (by rw [szI_neg (by omega)]), k1⟩
  · have H1 := Lib.hid (szI_nn g1)
    by_cases g2 : left - np - ns - totB L < 0
    · have H2 := Lib.hid (szI_neg g2)
      go_enter Try.func5, Try.ntmps5
      go_wp2_with fail
      have k0 : Below w.heap.size w (w.alloc (.cells #[.int .i64 rb, .int .i64 rs, .int .i64 rh, .int .i64 rt, .int .i64 pb, .int .i64 ps, .int .i64 pc, .slice Ap np cp, .slice As ns cs, .int .i64 next] 29)) := by go_grown
      have bl0 : w.heap.size < (w.alloc (.cells #[.int .i64 rb, .int .i64 rs, .int .i64 rh, .int .i64 rt, .int .i64 pb, .int .i64 ps, .int .i64 pc, .slice Ap np cp, .slice As ns cs, .int .i64 next] 29)).heap.size := by go_size
      have hk0 : Blk (w.alloc (.cells #[.int .i64 rb, .int .i64 rs, .int .i64 rh, .int .i64 rt, .int .i64 pb, .int .i64 ps, .int .i64 pc, .slice Ap np cp, .slice As ns cs, .int .i64 next] 29)) (w.heap.size) 29 [.int .i64 rb, .int .i64 rs, .int .i64 rh, .int .i64 rt, .int .i64 pb, .int .i64 ps, .int .i64 pc, .slice Ap np cp, .slice As ns cs, .int .i64 next] := by simpa using Blk.new w 29 [.int .i64 rb, .int .i64 rs, .int .i64 rh, .int .i64 rt, .int .i64 pb, .int .i64 ps, .int .i64 pc, .slice Ap np cp, .slice As ns cs, .int .i64 next]
      have p0 := k0.size
      generalize hW0 : (w.alloc (.cells #[.int .i64 rb, .int .i64 rs, .int .i64 rh, .int .i64 rt, .int .i64 pb, .int .i64 ps, .int .i64 pc, .slice Ap np cp, .slice As ns cs, .int .i64 next] 29)) = w0 at *
      clear hW0
      refine (szPool_c _ _ _ _ _ _ left _ h0 h1 (by omega)).mono ?_
      rintro e w1 ⟨rfl, hb⟩
      have k1 : Below w.heap.size w w1 := ext_step k0 (by omega) hb
      have p1 := hb.size
      replace hk0 := hk0.ext hb
      have bl0 := Nat.lt_of_lt_of_le bl0 hb.size
      rw [H1.out]
      clear hb
      have bx0_8 := hk0.at_ 8 _ rfl
      have hrz := hr2.to k1
      go_wp2_with fail
      refine (szSentS_c _ _ _ L (left - np) _ (by omega) (by omega) hn2 (by omega) hrz hx63).mono ?_
      rintro e w2 ⟨rfl, hb⟩
      have k2 : Below w.heap.size w w2 := ext_step k1 (by omega) hb
      have p2 := hb.size
      replace hk0 := hk0.ext hb
      clear bx0_8
      have bl0 := Nat.lt_of_lt_of_le bl0 hb.size
      rw [H2.out]
      clear hb
      go_wp2
      go_ret
      exact ⟨ret_int (by rw [szI_neg (by omega)]), k2⟩
    · have H2 := Lib.hid (szI_nn g2)
      go_enter Try.func5, Try.ntmps5
      go_wp2_with fail
      have k0 : Below w.heap.size w (w.alloc (.cells #[.int .i64 rb, .int .i64 rs, .int .i64 rh, .int .i64 rt, .int .i64 pb, .int .i64 ps, .int .i64 pc, .slice Ap np cp, .slice As ns cs, .int .i64 next] 29)) := by go_grown
      have bl0 : w.heap.size < (w.alloc (.cells #[.int .i64 rb, .int .i64 rs, .int .i64 rh, .int .i64 rt, .int .i64 pb, .int .i64 ps, .int .i64 pc, .slice Ap np cp, .slice As ns cs, .int .i64 next] 29)).heap.size := by go_size
      have hk0 : Blk (w.alloc (.cells #[.int .i64 rb, .int .i64 rs, .int .i64 rh, .int .i64 rt, .int .i64 pb, .int .i64 ps, .int .i64 pc, .slice Ap np cp, .slice As ns cs, .int .i64 next] 29)) (w.heap.size) 29 [.int .i64 rb, .int .i64 rs, .int .i64 rh, .int .i64 rt, .int .i64 pb, .int .i64 ps, .int .i64 pc, .slice Ap np cp, .slice As ns cs, .int .i64 next] := by simpa using Blk.new w 29 [.int .i64 rb, .int .i64 rs, .int .i64 rh, .int .i64 rt, .int .i64 pb, .int .i64 ps, .int .i64 pc, .slice Ap np cp, .slice As ns cs, .int .i64 next]
      have p0 := k0.size
      generalize hW0 : (w.alloc (.cells #[.int .i64 rb, .int .i64 rs, .int .i64 rh, .int .i64 rt, .int .i64 pb, .int .i64 ps, .int .i64 pc, .slice Ap np cp, .slice As ns cs, .int .i64 next] 29)) = w0 at *
      clear hW0
      refine (szPool_c _ _ _ _ _ _ left _ h0 h1 (by omega)).mono ?_
      rintro e w1 ⟨rfl, hb⟩
      have k1 : Below w.heap.size w w1 := ext_step k0 (by omega) hb
      have p1 := hb.size
      replace hk0 := hk0.ext hb
      have bl0 := Nat.lt_of_lt_of_le bl0 hb.size
      rw [H1.out]
      clear hb
      have bx0_8 := hk0.at_ 8 _ rfl
      have hrz := hr2.to k1
      go_wp2_with fail
      refine (szSentS_c _ _ _ L (left - np) _ (by omega) (by omega) hn2 (by omega) hrz hx63).mono ?_
      rintro e w2 ⟨rfl, hb⟩
      have k2 : Below w.heap.size w w2 := ext_step k1 (by omega) hb
      have p2 := hb.size
      replace hk0 := hk0.ext hb
      clear bx0_8
      have bl0 := Nat.lt_of_lt_of_le bl0 hb.size
      rw [H2.out]
      clear hb
      go_wp2
      go_ret
      exact ⟨ret_int (by rw [szI_nn (by omega)]), k2⟩
set_option maxHeartbeats 1000000 in
theorem eqSent_c (cookie slots : Int) (A A' : Option Addr) (n c c' : Nat) (l : List Int) (w : World) (hn : l.length = n) (hm : n ≤ 1048576) (hr : Reads w w.heap.size 1 A n (ints l)) (hr' : Reads w w.heap.size 1 A' n (ints l)) :
    Calls Try.prog 50 #[.agg #[.int .i64 cookie, .int .i64 slots, .slice A n c], .agg #[.int .i64 cookie, .int .i64 slots, .slice A' n c']] w fun e w' => e = .returned (.bool true) ∧ Below w.heap.size w w' := by
  go_enter Try.func50, Try.ntmps50
  go_wp2_with fail
  have k0 : Below w.heap.size w ((w.alloc (.cells #[.int .i64 cookie, .int .i64 slots, .slice A n c] 52)).alloc (.cells #[.int .i64 cookie, .int .i64 slots, .slice A' n c'] 52)) := by go_grown
  have bl0 : w.heap.size < ((w.alloc (.cells #[.int .i64 cookie, .int .i64 slots, .slice A n c] 52)).alloc (.cells #[.int .i64 cookie, .int .i64 slots, .slice A' n c'] 52)).heap.size := by go_size
  have hk0 : Blk ((w.alloc (.cells #[.int .i64 cookie, .int .i64 slots, .slice A n c] 52)).alloc (.cells #[.int .i64 cookie, .int .i64 slots, .slice A' n c'] 52)) (w.heap.size) 52 [.int .i64 cookie, .int .i64 slots, .slice A n c] := by simpa using (Blk.new w 52 [.int .i64 cookie, .int .i64 slots, .slice A n c]).alloc (.cells #[.int .i64 cookie, .int .i64 slots, .slice A' n c'] 52)
  have bl1 : w.heap.size + 1 < ((w.alloc (.cells #[.int .i64 cookie, .int .i64 slots, .slice A n c] 52)).alloc (.cells #[.int .i64 cookie, .int .i64 slots, .slice A' n c'] 52)).heap.size := by go_size
  have hk1 : Blk ((w.alloc (.cells #[.int .i64 cookie, .int .i64 slots, .slice A n c] 52)).alloc (.cells #[.int .i64 cookie, .int .i64 slots, .slice A' n c'] 52)) (w.heap.size + 1) 52 [.int .i64 cookie, .int .i64 slots, .slice A' n c'] := by simpa using Blk.new (w.alloc (.cells #[.int .i64 cookie, .int .i64 slots, .slice A n c] 52)) 52 [.int .i64 cookie, .int .i64 slots, .slice A' n c']
  have p0 := k0.size
  generalize hW0 : ((w.alloc (.cells #[.int .i64 cookie, .int .i64 slots, .slice A n c] 52)).alloc (.cells #[.int .i64 cookie, .int .i64 slots, .slice A' n c'] 52)) = w0 at *
  clear hW0
  refine (eqIntS_c _ _ n _ _ l _ hn (by omega) (hr.to k0) (hr'.to k0)).mono ?_
  rintro e w1 ⟨rfl, hb⟩
  have k1 : Below w.heap.size w w1 := ext_step k0 (by omega) hb
  have p1 := hb.size
  replace hk0 := hk0.ext hb
  replace hk1 := hk1.ext hb
  have bl0 := Nat.lt_of_lt_of_le bl0 hb.size
  have bl1 := Nat.lt_of_lt_of_le bl1 hb.size
  clear hb
  go_wp2
  go_ret
  exact ⟨rfl, k1⟩
set_option maxHeartbeats 2000000 in
theorem eqSentS_c (A A' : Option Addr) (n c c' : Nat) (L L' : List SentH) (w : World) (hv : L'.map SentH.v = L.map SentH.v) (hn : L.length = n) (hm : n ≤ 1048576) (hm2 : totB L ≤ 1048576) (hr : Reads w w.heap.size 3 A n (L.flatMap SentH.cells)) (hr' : Reads w w.heap.size 3 A' n (L'.flatMap SentH.cells)) (hi : InRd w w.heap.size L) (hi' : InRd w w.heap.size L') :
    Calls Try.prog 32 #[.slice A n c, .slice A' n c'] w fun e w' => e = .returned (.bool true) ∧ Below w.heap.size w w' := by
  have HN := Lib.hid hn
  have HN' := Lib.hid ((map_v_len hv).trans hn)
  clear hn
  go_enter Try.func32, Try.ntmps32
  go_wp2
  go_loopw [5] (fun i wr => ∃ k : Nat, k ≤ n ∧ i = .int .i64 k ∧ Below w.heap.size w wr) (fun i _ => n - (intOf i).toNat)
  case atStart => exact ⟨0, Nat.zero_le _, rfl, Below.refl _ _⟩
  case round =>
    obtain ⟨k, hk, rfl, hbw⟩ := hrel
    have hsz := hbw.size
    by_cases hlt : k < n
    · obtain ⟨b, o, x, rfl, hbl, hx, hc⟩ := hr.el (fun _ => rfl) (by decide) HN.out hlt
      have c0 := (hbw.cell (p := ⟨b, o + k * 3, none⟩) hbl).trans (by simpa using hc 0 _ rfl)
      have c1 := (hbw.cell (p := ⟨b, o + k * 3 + 1, none⟩) hbl).trans (by simpa using hc 1 _ rfl)
      have c2 := (hbw.cell (p := ⟨b, o + k * 3 + 2, none⟩) hbl).trans (by simpa using hc 2 _ rfl)
      obtain ⟨b', o', y, rfl, hbl', hy, hc'⟩ := hr'.el (fun _ => rfl) (by decide) HN'.out hlt
      have d0 := (hbw.cell (p := ⟨b', o' + k * 3, none⟩) hbl').trans (by simpa using hc' 0 _ rfl)
      have d1 := (hbw.cell (p := ⟨b', o' + k * 3 + 1, none⟩) hbl').trans (by simpa using hc' 1 _ rfl)
      have d2 := (hbw.cell (p := ⟨b', o' + k * 3 + 2, none⟩) hbl').trans (by simpa using hc' 2 _ rfl)
      have hxm := List.mem_of_getElem? hx
      have hym := List.mem_of_getElem? hy
      have hxn := totB_mem hxm
      have hxy := map_v_get hv hx hy
      obtain ⟨hxl, hxr⟩ := hi x hxm
      obtain ⟨hyl, hyr⟩ := hi' y hym
      clear hx hy hc hc' hxm hym
      obtain ⟨yc, ysl, yA, yn, ycp, yb⟩ := y
      obtain ⟨xc, xsl, xA, xn, xcp, xb⟩ := x
      simp only [SentH.v, SentV.mk.injEq] at hxy
      obtain ⟨rfl, rfl, rfl⟩ := hxy
      dsimp only at *
      obtain rfl : xn = yn := hxl.symm.trans hyl
      have l1 : (k : Int) < (n : Int) := by omega
      have hcs : ∀ t : Ext wr, (t.wd.cell? ⟨b, o + k * 3, none⟩ = some (.int .i64 yc) ∧ t.wd.cell? ⟨b, o + k * 3 + 1, none⟩ = some (.int .i64 ysl) ∧ t.wd.cell? ⟨b, o + k * 3 + 2, none⟩ = some (.slice xA xn xcp)) ∧ (t.wd.cell? ⟨b', o' + k * 3, none⟩ = some (.int .i64 yc) ∧ t.wd.cell? ⟨b', o' + k * 3 + 1, none⟩ = some (.int .i64 ysl) ∧ t.wd.cell? ⟨b', o' + k * 3 + 2, none⟩ = some (.slice yA xn ycp)) := fun t => ⟨⟨t.cell c0, t.cell c1, t.cell c2⟩, t.cell d0, t.cell d1, t.cell d2⟩
      have hrx := fun t : Ext wr => And.intro (hxr.to (ext_step hbw hsz t.below)) (hyr.to (ext_step hbw hsz t.below))
      clear c0 c1 c2 d0 d1 d2
      go_wp2_with fail
      refine wp_region_ext_lit (by kernel_rfl) (by kernel_rfl) ?_
      repeat (go_big_quiet_step (((go_at_call 50; exact ext_call (eqSent_c _ _ _ _ _ _ _ yb _ hxl (by omega) (hrx _).1 (hrx _).2)))))
      refine wpQuiet_nil ?_
      intro _ hw'
      obtain ⟨tq, hw''⟩ := hw'
      subst hw''
      have hk1 : Below w.heap.size w tq.wd := ext_step hbw hbw.size tq.below
      go_wp2
      go_roundw
      case rel => exact ⟨k + 1, by omega, by go_num, hk1⟩
      case measure => simp [intOf]; omega
    · go_wp2
      go_ret
      exact ⟨rfl, hbw⟩
set_option maxRecDepth 100000 in
set_option maxHeartbeats 4000000 in
theorem eqTxQueue_c (rb rs rh rt pb ps pc : Int) (Ap : Option Addr) (np cp : Nat) (free : List Int) (As : Option Addr) (ns cs : Nat) (L : List SentH) (next : Int) (Ap' : Option Addr) (cp' : Nat) (As' : Option Addr) (cs' : Nat) (L' : List SentH) (w : World) (hv : L'.map SentH.v = L.map SentH.v) (hm : np + ns + totB L ≤ 1048576)
    (hn1 : free.length = np) (hr1 : Reads w w.heap.size 1 Ap np (ints free)) (hn2 : L.length = ns) (hr2 : Reads w w.heap.size 3 As ns (L.flatMap SentH.cells)) (hi : InRd w w.heap.size L)
    (hr1' : Reads w w.heap.size 1 Ap' np (ints free)) (hr2' : Reads w w.heap.size 3 As' ns (L'.flatMap SentH.cells)) (hi' : InRd w w.heap.size L') :
    Calls Try.prog 9 #[.agg #[.int .i64 rb, .int .i64 rs, .int .i64 rh, .int .i64 rt, .int .i64 pb, .int .i64 ps, .int .i64 pc, .slice Ap np cp, .slice As ns cs, .int .i64 next], .agg #[.int .i64 rb, .int .i64 rs, .int .i64 rh, .int .i64 rt, .int .i64 pb, .int .i64 ps, .int .i64 pc, .slice Ap' np cp', .slice As' ns cs', .int .i64 next]] w fun e w' => e = .returned (.bool true) ∧ Below w.heap.size w w' := by
  go_enter Try.func9, Try.ntmps9
  go_wp2_with fail
  have k0 : Below w.heap.size w ((w.alloc (.cells #[.int .i64 rb, .int .i64 rs, .int .i64 rh, .int .i64 rt, .int .i64 pb, .int .i64 ps, .int .i64 pc, .slice Ap np cp, .slice As ns cs, .int .i64 next] 36)).alloc (.cells #[.int .i64 rb, .int .i64 rs, .int .i64 rh, .int .i64 rt, .int .i64 pb, .int .i64 ps, .int .i64 pc, .slice Ap' np cp', .slice As' ns cs', .int .i64 next] 36)) := by go_grown
  have bl0 : w.heap.size < ((w.alloc (.cells #[.int .i64 rb, .int .i64 rs, .int .i64 rh, .int .i64 rt, .int .i64 pb, .int .i64 ps, .int .i64 pc, .slice Ap np cp, .slice As ns cs, .int .i64 next] 36)).alloc (.cells #[.int .i64 rb, .int .i64 rs, .int .i64 rh, .int .i64 rt, .int .i64 pb, .int .i64 ps, .int .i64 pc, .slice Ap' np cp', .slice As' ns cs', .int .i64 next] 36)).heap.size := by go_size
  have hk0 : Blk ((w.alloc (.cells #[.int .i64 rb, .int .i64 rs, .int .i64 rh, .int .i64 rt, .int .i64 pb, .int .i64 ps, .int .i64 pc, .slice Ap np cp, .slice As ns cs, .int .i64 next] 36)).alloc (.cells #[.int .i64 rb, .int .i64 rs, .int .i64 rh, .int .i64 rt, .int .i64 pb, .int .i64 ps, .int .i64 pc, .slice Ap' np cp', .slice As' ns cs', .int .i64 next] 36)) (w.heap.size) 36 [.int .i64 rb, .int .i64 rs, .int .i64 rh, .int .i64 rt, .int .i64 pb, .int .i64 ps, .int .i64 pc, .slice Ap np cp, .slice As ns cs, .int .i64 next] := by simpa using (Blk.new w 36 [.int .i64 rb, .int .i64 rs, .int .i64 rh, .int .i64 rt, .int .i64 pb, .int .i64 ps, .int .i64 pc, .slice Ap np cp, .slice As ns cs, .int .i64 next]).alloc (.cells #[.int .i64 rb, .int .i64 rs, .int .i64 rh, .int .i64 rt, .int .i64 pb, .int .i64 ps, .int .i64 pc, .slice Ap' np cp', .slice As' ns cs', .int .i64 next] 36)
  have bl1 : w.heap.size + 1 < ((w.alloc (.cells #[.int .i64 rb, .int .i64 rs, .int .i64 rh, .int .i64 rt, .int .i64 pb, .int .i64 ps, .int .i64 pc, .slice Ap np cp, .slice As ns cs, .int .i64 next] 36)).alloc (.cells #[.int .i64 rb, .int .i64 rs, .int .i64 rh, .int .i64 rt, .int .i64 pb, .int .i64 ps, .int .i64 pc, .slice Ap' np cp', .slice As' ns cs', .int .i64 next] 36)).heap.size := by go_size
  have hk1 : Blk ((w.alloc (.cells #[.int .i64 rb, .int .i64 rs, .int .i64 rh, .int .i64 rt, .int .i64 pb, .int .i64 ps, .int .i64 pc, .slice Ap np cp, .slice As ns cs, .int .i64 next] 36)).alloc (.cells #[.int .i64 rb, .int .i64 rs, .int .i64 rh, .int .i64 rt, .int .i64 pb, .int .i64 ps, .int .i64 pc, .slice Ap' np cp', .slice As' ns cs', .int .i64 next] 36)) (w.heap.size + 1) 36 [.int .i64 rb, .int .i64 rs, .int .i64 rh, .int .i64 rt, .int .i64 pb, .int .i64 ps, .int .i64 pc, .slice Ap' np cp', .slice As' ns cs', .int .i64 next] := by simpa using Blk.new (w.alloc (.cells #[.int .i64 rb, .int .i64 rs, .int .i64 rh, .int .i64 rt, .int .i64 pb, .int .i64 ps, .int .i64 pc, .slice Ap np cp, .slice As ns cs, .int .i64 next] 36)) 36 [.int .i64 rb, .int .i64 rs, .int .i64 rh, .int .i64 rt, .int .i64 pb, .int .i64 ps, .int .i64 pc, .slice Ap' np cp', .slice As' ns cs', .int .i64 next]
  have p0 := k0.size
  generalize hW0 : ((w.alloc (.cells #[.int .i64 rb, .int .i64 rs, .int .i64 rh, .int .i64 rt, .int .i64 pb, .int .i64 ps, .int .i64 pc, .slice Ap np cp, .slice As ns cs, .int .i64 next] 36)).alloc (.cells #[.int .i64 rb, .int .i64 rs, .int .i64 rh, .int .i64 rt, .int .i64 pb, .int .i64 ps, .int .i64 pc, .slice Ap' np cp', .slice As' ns cs', .int .i64 next] 36)) = w0 at *
  clear hW0
  refine (eqRing_c _ _ _ _ _).mono ?_
  rintro e w1 ⟨rfl, hb⟩
  have k1 : Below w.heap.size w w1 := ext_step k0 (by omega) hb
  have p1 := hb.size
  replace hk0 := hk0.ext hb
  replace hk1 := hk1.ext hb
  have bl0 := Nat.lt_of_lt_of_le bl0 hb.size
  have bl1 := Nat.lt_of_lt_of_le bl1 hb.size
  clear hb
  have bx0_4 := hk0.at_ 4 _ rfl
  have bx0_5 := hk0.at_ 5 _ rfl
  have bx0_6 := hk0.at_ 6 _ rfl
  have bx0_7 := hk0.at_ 7 _ rfl
  have bx1_4 := hk1.at_ 4 _ rfl
  have bx1_5 := hk1.at_ 5 _ rfl
  have bx1_6 := hk1.at_ 6 _ rfl
  have bx1_7 := hk1.at_ 7 _ rfl
  go_wp2_with fail
  refine (eqPool_c _ _ _ _ _ np _ _ free _ hn1 (by omega) (hr1.to k1) (hr1'.to k1)).mono ?_
  rintro e w2 ⟨rfl, hb⟩
  have k2 : Below w.heap.size w w2 := ext_step k1 (by omega) hb
  have p2 := hb.size
  replace hk0 := hk0.ext hb
  replace hk1 := hk1.ext hb
  clear bx0_4 bx0_5 bx0_6 bx0_7 bx1_4 bx1_5 bx1_6 bx1_7
  have bl0 := Nat.lt_of_lt_of_le bl0 hb.size
  have bl1 := Nat.lt_of_lt_of_le bl1 hb.size
  clear hb
  have bx0_8 := hk0.at_ 8 _ rfl
  have bx1_8 := hk1.at_ 8 _ rfl
  go_wp2_with fail
  refine (eqSentS_c _ _ ns _ _ L L' _ hv hn2 (by omega) (by omega) (hr2.to k2) (hr2'.to k2) (hi.to k2) (hi'.to k2)).mono ?_
  rintro e w3 ⟨rfl, hb⟩
  have k3 : Below w.heap.size w w3 := ext_step k2 (by omega) hb
  have p3 := hb.size
  replace hk0 := hk0.ext hb
  replace hk1 := hk1.ext hb
  clear bx0_8 bx1_8
  have bl0 := Nat.lt_of_lt_of_le bl0 hb.size
  have bl1 := Nat.lt_of_lt_of_le bl1 hb.size
  clear hb
  have bx0_9 := hk0.at_ 9 _ rfl
  have bx1_9 := hk1.at_ 9 _ rfl
  go_wp2
  go_ret
  exact ⟨rfl, k3⟩
end Go.Proofs.Ytnkcomclhmlefaa
