/- Contracts of DmaRead: impl and spec. -/
import Derived.Test.YtnnlagmgdfhaiaaRunsOf
import Derived.Test.YtnnlagmgdfhaiaaParts
import Derived.Deep.RegionHeld3
namespace Go.Proofs.Ytnnlagmgdfhaiaa
set_option linter.unusedSimpArgs false
set_option linter.unusedVariables false
open Go.RowKit Go.ChangeShapes Go.WideShapes
set_option maxRecDepth 100000 in
set_option maxHeartbeats 4000000 in
theorem implDmaRead_c (A A' : Option Addr) (n c n' c' : Nat) (l : List Mapping) (pg : List ByteArray) (w : World) (hn : l.length = n) (hn' : pg.length = n') (hm : n ≤ 1048576) (hm' : n' ≤ 1048576) (hr : Reads w w.heap.size 4 A n (l.flatMap Mapping.cells)) (hr' : Reads w w.heap.size 1 A' n' (pg.flatMap fun x : ByteArray => [Value.string x])) (d at_ x : Int) (ha : I64 at_) (hx : I64 x) :
    Calls Try.prog 32 #[.slice A n c, .agg #[.slice A' n' c'], .int .i64 d, .int .i64 at_, .int .i64 x] w fun e w' => e = .returned (.tuple #[.string (dmaR l pg d at_ x), .bool (dmaOk l pg d at_ x false)]) ∧ Below w.heap.size w w' := by
  obtain ⟨hok, hlen, _⟩ := runsD_ok (l := l) (pg := pg) (d := d) (at_ := at_) (n := x) (wr := false)
  cases hd : dmaOk l pg d at_ x false
  · have hz : dmaR l pg d at_ x = ByteArray.empty := by rw [dmaR, runsD_nok hd]; rfl
    rw [hz]
    clear hz
    go_enter Try.func32, Try.ntmps32
    go_wp2_with fail
    refine (implRunsOf_c _ _ _ _ _ _ l pg _ hn hn' hm hm' (hr.to (by go_grown)) (hr'.to (by go_grown)) _ _ _ _ ha hx).mono ?_
    rintro e w1 ⟨v, rfl, ho, hb⟩
    obtain ⟨m0, fm0, zm0⟩ := own_cell hb (b := w.heap.size) (o := 0) (v := .slice A' n' c') (by first | assumption | (simp [go_sem]; done) | (simp [go_sem, *]; done)) (by first | assumption | (simp [go_sem]; done) | (simp [go_sem, *]; done))
    have k1 : Below w.heap.size w w1 := ext_step (by go_grown) (by go_size) hb
    clear hb
    rw [hd]
    go_wp2
    go_ret2
    exact ⟨rfl, k1⟩
  · go_enter Try.func32, Try.ntmps32
    go_wp2_with fail
    refine (implRunsOf_c _ _ _ _ _ _ l pg _ hn hn' hm hm' (hr.to (by go_grown)) (hr'.to (by go_grown)) _ _ _ _ ha hx).mono ?_
    rintro e w1 ⟨v, rfl, ho, hb⟩
    obtain ⟨m0, fm0, zm0⟩ := own_cell hb (b := w.heap.size) (o := 0) (v := .slice A' n' c') (by first | assumption | (simp [go_sem]; done) | (simp [go_sem, *]; done)) (by first | assumption | (simp [go_sem]; done) | (simp [go_sem, *]; done))
    have k1 : Below w.heap.size w w1 := ext_step (by go_grown) (by go_size) hb
    clear hb
    rw [hd]
    have hdr : dmaR l pg d at_ x = catR pg (runsD l pg d at_ x false) := rfl
    generalize runsD l pg d at_ x false = rs at *
    obtain ⟨j, hj⟩ : ∃ j, rs.length = j := ⟨_, rfl⟩
    rw [hj] at ho hlen
    obtain ⟨Av, cv, rfl, hrs, _, _⟩ := own_form ho
    have HJ := Lib.hid hj
    have HD := Lib.hid hdr
    have HOK := Lib.hid hok
    clear hj hdr hok hd ho
    go_wp2
    go_loopw [14, 32] (fun o i wr => ∃ k : Nat, k ≤ j ∧ i = .int .i64 (k : Int) ∧ o = .string (catR pg (rs.take k)) ∧ Below w1.heap.size w1 wr ∧ wr.cell? ⟨w.heap.size, 0, none⟩ = some (.slice A' n' c')) (fun _ i _ => j - (intOf i).toNat)
    case atStart => exact ⟨0, Nat.zero_le _, rfl, rfl, Below.refl _ _, m0⟩
    case round =>
      obtain ⟨k, hk, rfl, rfl, hbw, m0⟩ := hrel
      have hsz := hbw.size
      have hsz1 := k1.size
      have zm : w.heap.size < wr.heap.size := cell_block_lt m0
      by_cases hlt : k < j
      · obtain ⟨b, o, x, rfl, hb, hxx, hcx⟩ := hrs.el (fun _ => rfl) (by decide) HJ.out hlt
        have c0 := (hbw.cell (p := ⟨b, o + k * 2, none⟩) hb).trans (by simpa using hcx 0 _ rfl)
        have c1 := (hbw.cell (p := ⟨b, o + k * 2 + 1, none⟩) hb).trans (by simpa using hcx 1 _ rfl)
        have HXx := Lib.hid hxx
        clear hxx hcx
        obtain ⟨b1, b2, b3, b4⟩ := HOK.out x (List.mem_of_getElem? HXx.out)
        have hbd := withB_t b4
        have hI1 : I64 x.at_ := ⟨by omega, by omega⟩
        have hI2 : I64 x.ln := ⟨by omega, by omega⟩
        have hs1 := catR_size HOK.out k (by rw [HJ.out]; exact hk)
        have hs2 := readB_size b4
        have hs3 : (readB pg x.at_ x.ln).size ≤ 128 := by omega
        have HC := Lib.hid (catR_next (pg := pg) HXx.out)
        have kR : Below w.heap.size w (wr.alloc (.cells #[.int .i64 x.at_, .int .i64 x.ln] 128)) := (k1.trans (hbw.mono hsz1)).alloc (by omega) _
        clear hs2 hbd
        go_wp2_with (go_at_call 25; refine (implReadMemory_c _ _ _ pg _ hn' (by omega) (hr'.to kR) _ _ hI1 hI2).mono ?_; rintro e w2 ⟨rfl, hb⟩; have m0 := ccell hb _ _ _ ((World.cell?_alloc_lt _ _ _ (cell_block_lt m0)).trans m0); have hb2 : Below w1.heap.size w1 w2 := ext_step (hbw.alloc hsz _) (by go_size) hb; clear hb)
        go_roundw
        case rel => exact ⟨k + 1, by omega, by go_num, by rw [HC.out], hb2, m0⟩
        case measure => simp [intOf]; omega
      · have htk := take_all HJ.out hlt
        rw [htk]
        clear htk
        go_wp2
        go_ret2
        exact ⟨by rw [HD.out]; rfl, k1.trans (hbw.mono hsz1)⟩
set_option maxRecDepth 100000 in
set_option maxHeartbeats 4000000 in
theorem specDmaRead_c (A A' : Option Addr) (n c n' c' : Nat) (l : List Mapping) (pg : List ByteArray) (w : World) (hn : l.length = n) (hn' : pg.length = n') (hm : n ≤ 1048576) (hm' : n' ≤ 1048576) (hr : Reads w w.heap.size 4 A n (l.flatMap Mapping.cells)) (hr' : Reads w w.heap.size 1 A' n' (pg.flatMap fun x : ByteArray => [Value.string x])) (d at_ x : Int) (ha : I64 at_) (hx : I64 x) :
    Calls Try.prog 105 #[.slice A n c, .agg #[.slice A' n' c'], .int .i64 d, .int .i64 at_, .int .i64 x] w fun e w' => e = .returned (.tuple #[.string (dmaR l pg d at_ x), .bool (dmaOk l pg d at_ x false)]) ∧ Below w.heap.size w w' := by
  obtain ⟨hok, hlen, _⟩ := runsD_ok (l := l) (pg := pg) (d := d) (at_ := at_) (n := x) (wr := false)
  cases hd : dmaOk l pg d at_ x false
  · have hz : dmaR l pg d at_ x = ByteArray.empty := by rw [dmaR, runsD_nok hd]; rfl
    rw [hz]
    clear hz
    go_enter Try.func105, Try.ntmps105
    go_wp2_with fail
    refine (specParts_c _ _ _ _ _ _ l pg _ hn hn' hm hm' (hr.to (by go_grown)) (hr'.to (by go_grown)) _ _ _ _ ha hx).mono ?_
    rintro e w1 ⟨v1, v2, rfl, ho1, ho2, hb⟩
    obtain ⟨m0, fm0, zm0⟩ := own_cell hb (b := w.heap.size) (o := 0) (v := .slice A' n' c') (by first | assumption | (simp [go_sem]; done) | (simp [go_sem, *]; done)) (by first | assumption | (simp [go_sem]; done) | (simp [go_sem, *]; done))
    have k1 : Below w.heap.size w w1 := ext_step (by go_grown) (by go_size) hb
    clear hb
    rw [hd]
    go_wp2
    go_ret2
    exact ⟨rfl, k1⟩
  · go_enter Try.func105, Try.ntmps105
    go_wp2_with fail
    refine (specParts_c _ _ _ _ _ _ l pg _ hn hn' hm hm' (hr.to (by go_grown)) (hr'.to (by go_grown)) _ _ _ _ ha hx).mono ?_
    rintro e w1 ⟨v1, v2, rfl, ho1, ho2, hb⟩
    obtain ⟨m0, fm0, zm0⟩ := own_cell hb (b := w.heap.size) (o := 0) (v := .slice A' n' c') (by first | assumption | (simp [go_sem]; done) | (simp [go_sem, *]; done)) (by first | assumption | (simp [go_sem]; done) | (simp [go_sem, *]; done))
    have k1 : Below w.heap.size w w1 := ext_step (by go_grown) (by go_size) hb
    clear hb
    rw [hd]
    have hdr : dmaR l pg d at_ x = catR pg (runsD l pg d at_ x false) := rfl
    generalize runsD l pg d at_ x false = rs at *
    obtain ⟨j, hj⟩ : ∃ j, rs.length = j := ⟨_, rfl⟩
    rw [hj] at ho1 ho2 hlen
    obtain ⟨Av, cv, rfl, hrs, _, _⟩ := own_form ho1
    obtain ⟨Au, cu, rfl, hrl, _, _⟩ := own_form ho2
    have HJ := Lib.hid hj
    have HD := Lib.hid hdr
    have HOK := Lib.hid hok
    clear hj hdr hok hd ho1 ho2
    go_wp2
    go_loopw [15, 16] (fun o i wr => ∃ k : Nat, k ≤ j ∧ i = .int .i64 (k : Int) ∧ o = .string (catR pg (rs.take k)) ∧ Below w1.heap.size w1 wr ∧ wr.cell? ⟨w.heap.size, 0, none⟩ = some (.slice A' n' c')) (fun _ i _ => j - (intOf i).toNat)
    case atStart => exact ⟨0, Nat.zero_le _, rfl, rfl, Below.refl _ _, m0⟩
    case round =>
      obtain ⟨k, hk, rfl, rfl, hbw, m0⟩ := hrel
      have hsz := hbw.size
      have hsz1 := k1.size
      have zm : w.heap.size < wr.heap.size := cell_block_lt m0
      by_cases hlt : k < j
      · obtain ⟨bs, ps, xs, rfl, hbs, hxs, hcs⟩ := hrs.el (cells := (fun r : Run => [Value.int .i64 r.at_])) (l := rs) (fun _ => rfl) (by decide) HJ.out hlt
        have s0 := (hbw.cell (p := ⟨bs, ps + k, none⟩) hbs).trans (by simpa using hcs 0 _ rfl)
        clear hcs
        obtain ⟨bt, pt, xt, rfl, hbt, hxt, hct⟩ := hrl.el (cells := (fun r : Run => [Value.int .i64 r.ln])) (l := rs) (fun _ => rfl) (by decide) HJ.out hlt
        have t0 := (hbw.cell (p := ⟨bt, pt + k, none⟩) hbt).trans (by simpa using hct 0 _ rfl)
        clear hct
        have hxe : xt = xs := by rw [hxs] at hxt; injection hxt with hxt; exact hxt.symm
        subst hxe
        have HXx := Lib.hid hxs
        clear hxs hxt
        obtain ⟨b1, b2, b3, b4⟩ := HOK.out xt (List.mem_of_getElem? HXx.out)
        have hbd := withB_t b4
        have hI1 : I64 xt.at_ := ⟨by omega, by omega⟩
        have hI2 : I64 xt.ln := ⟨by omega, by omega⟩
        have hs1 := catR_size HOK.out k (by rw [HJ.out]; exact hk)
        have hs2 := readB_size b4
        have hs3 : (readB pg xt.at_ xt.ln).size ≤ 128 := by omega
        have HC := Lib.hid (catR_next (pg := pg) HXx.out)
        have kR : Below w.heap.size w wr.drew := (k1.trans (hbw.mono hsz1)).drew
        have i0 : (0 : Int) ≤ (k : Int) := by omega
        have i1 : (k : Int) < (j : Int) := by omega
        clear hs2 hbd
        go_wp2_with fail
        have hdr : Below wr.heap.size wr wr.drew := (Below.refl _ _).drew
        have m0' := ccell hdr _ _ _ m0
        have s0' := ccell hdr _ _ _ s0
        have t0' := ccell hdr _ _ _ t0
        go_region_held3 (fun w' => w'.cell? ⟨w.heap.size, 0, none⟩ = some (.slice A' n' c') ∧ w'.cell? ⟨bs, ps + k, none⟩ = some (.int .i64 xt.at_) ∧ w'.cell? ⟨bt, pt + k, none⟩ = some (.int .i64 xt.ln)) (first | exact ⟨m0, s0, t0⟩ | exact ⟨m0', s0', t0'⟩)
          ((go_at_call 27; refine (specReadMemory_c _ _ _ pg _ hn' (by omega) (hr'.to kR) _ _ hI1 hI2).mono ?_; rintro e w1x ⟨rfl, hb⟩; have m0 := ccell hb _ _ _ m0'; have s0 := ccell hb _ _ _ s0'; have t0 := ccell hb _ _ _ t0'; have hb2 : Below w1.heap.size w1 w1x := ext_step hbw.drew hsz hb; clear hb))
        go_wp2
        go_roundw
        case rel => exact ⟨k + 1, by omega, by go_num, by rw [HC.out], hb2, m0⟩
        case measure => simp [intOf]; omega
      · have htk := take_all HJ.out hlt
        rw [htk]
        clear htk
        go_wp2
        go_ret2
        exact ⟨by rw [HD.out]; rfl, k1.trans (hbw.mono hsz1)⟩
end Go.Proofs.Ytnnlagmgdfhaiaa
