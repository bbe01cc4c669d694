/- Contract of DmaWrite: spec. -/
import Derived.Test.YtnnlagmgdfhaiaaParts
import Derived.Deep.RegionLaw
namespace Go.Proofs.Ytnnlagmgdfhaiaa
set_option linter.unusedSimpArgs false
set_option linter.unusedVariables false
open Go.RowKit Go.ChangeShapes Go.WideShapes
set_option maxRecDepth 100000 in
set_option maxHeartbeats 4000000 in
theorem specDmaWrite_c (A A' : Option Addr) (n c n' c' : Nat) (l : List Mapping) (pg : List ByteArray) (w : World) (hn : l.length = n) (hn' : pg.length = n') (hm : n ≤ 1048576) (hm' : n' ≤ 1048576) (hr : Reads w w.heap.size 4 A n (l.flatMap Mapping.cells)) (hr' : Reads w w.heap.size 1 A' n' (pg.flatMap fun x : ByteArray => [Value.string x])) (d at_ : Int) (s : ByteArray) (ha : I64 at_) (hs : s.size ≤ 1048576) :
    Calls Try.prog 35 #[.slice A n c, .agg #[.slice A' n' c'], .int .i64 d, .int .i64 at_, .string s] w fun e w' => ∃ A2 c2, e = .returned (.tuple #[.agg #[.slice A2 n' c2], .bool (dmaOk l pg d at_ s.size true)]) ∧ w'.ownsRow w.heap.size 9 1 (.slice A2 n' c2) n' ((dmaW l pg d at_ s true).flatMap fun x : ByteArray => [Value.string x]) ∧ Below w.heap.size w w' := by
  obtain ⟨hok, hlen, hsum⟩ := runsD_ok (l := l) (pg := pg) (d := d) (at_ := at_) (n := s.size) (wr := true)
  cases hd : dmaOk l pg d at_ s.size true
  · have hz : dmaW l pg d at_ s true = pg := by rw [dmaW, runsD_nok hd]; rfl
    rw [hz]
    clear hz hsum
    go_enter Try.func35, Try.ntmps35
    go_wp2_with fail
    refine (specParts_c _ _ _ _ _ _ l pg _ hn hn' hm hm' (hr.to (by go_grown)) (hr'.to (by go_grown)) _ _ _ _ ha ⟨by omega, by omega⟩).mono ?_
    rintro e w1 ⟨v1, v2, rfl, hr1, hr2, hb⟩
    obtain ⟨m0, fm0, zm0⟩ := own_cell hb (b := w.heap.size) (o := 0) (v := .slice A' n' c') (by first | assumption | (simp [go_sem]; done) | (simp [go_sem, *]; done)) (by first | assumption | (simp [go_sem]; done) | (simp [go_sem, *]; done))
    obtain ⟨d0, fd0, zd0⟩ := own_cell hb (b := w.heap.size + 1) (o := 0) (v := .slice none 0 0) (by first | assumption | (simp [go_sem]; done) | (simp [go_sem, *]; done)) (by first | assumption | (simp [go_sem]; done) | (simp [go_sem, *]; done))
    have k1 : Below w.heap.size w w1 := ext_step (by go_grown) (by go_size) hb
    have z1 : w.heap.size + 1 < w1.heap.size := zd0
    have qa := fun k hk => (hr1.lt k hk).2
    have qb := fun k hk => (hr2.lt k hk).2
    have hr1 := own_base hr1 (base' := w.heap.size + 1) (by simp)
    have hr2 := own_base hr2 (base' := w.heap.size + 1) (by simp)
    clear hb
    go_wp2_with fail
    refine (l16Copy_c _ _ _ pg _ hn' (by omega) (hr'.to k1)).mono ?_
    rintro e w2 ⟨A1, c1, rfl, ho, hb⟩
    obtain ⟨d0, fd0, zd0⟩ := own_cell hb d0 fd0
    have k2 := ext_step k1 k1.size hb
    have z2 := hb.size
    have q1 : ∀ k, (Value.slice A1 n' c1).ownBlock = some k → w.heap.size + 1 < k ∧ k < w2.heap.size := fun k hk => by have := ho.lt k hk; omega
    have ho := own_base ho (base' := w.heap.size + 1) (by omega)
    have hr1 := own_ext hr1 hb
    have hr2 := own_ext hr2 hb
    clear hb
    try rw [hd]
    go_wp2
    refine bodyPost_ret (v := .tuple #[.agg #[.slice A1 n' c1], .bool false]) (by simp [results, Try.results35, go_sem, d0, zd0]) rfl ?_
    exact ⟨A1, c1, rfl, (own_set_ne (own_base ho (by omega)) (fun e => by have := q1 _ e; (try dsimp only at this); omega) _).alloc _, by go_grown⟩
  · have hsum := hsum hd
    go_enter Try.func35, Try.ntmps35
    go_wp2_with fail
    refine (specParts_c _ _ _ _ _ _ l pg _ hn hn' hm hm' (hr.to (by go_grown)) (hr'.to (by go_grown)) _ _ _ _ ha ⟨by omega, by omega⟩).mono ?_
    rintro e w1 ⟨v1, v2, rfl, hr1, hr2, hb⟩
    obtain ⟨m0, fm0, zm0⟩ := own_cell hb (b := w.heap.size) (o := 0) (v := .slice A' n' c') (by first | assumption | (simp [go_sem]; done) | (simp [go_sem, *]; done)) (by first | assumption | (simp [go_sem]; done) | (simp [go_sem, *]; done))
    obtain ⟨d0, fd0, zd0⟩ := own_cell hb (b := w.heap.size + 1) (o := 0) (v := .slice none 0 0) (by first | assumption | (simp [go_sem]; done) | (simp [go_sem, *]; done)) (by first | assumption | (simp [go_sem]; done) | (simp [go_sem, *]; done))
    have k1 : Below w.heap.size w w1 := ext_step (by go_grown) (by go_size) hb
    have z1 : w.heap.size + 1 < w1.heap.size := zd0
    have qa := fun k hk => (hr1.lt k hk).2
    have qb := fun k hk => (hr2.lt k hk).2
    have hr1 := own_base hr1 (base' := w.heap.size + 1) (by simp)
    have hr2 := own_base hr2 (base' := w.heap.size + 1) (by simp)
    clear hb
    go_wp2_with fail
    refine (l16Copy_c _ _ _ pg _ hn' (by omega) (hr'.to k1)).mono ?_
    rintro e w2 ⟨A1, c1, rfl, ho, hb⟩
    obtain ⟨d0, fd0, zd0⟩ := own_cell hb d0 fd0
    have k2 := ext_step k1 k1.size hb
    have z2 := hb.size
    have q1 : ∀ k, (Value.slice A1 n' c1).ownBlock = some k → w.heap.size + 1 < k ∧ k < w2.heap.size := fun k hk => by have := ho.lt k hk; omega
    have ho := own_base ho (base' := w.heap.size + 1) (by omega)
    have hr1 := own_ext hr1 hb
    have hr2 := own_ext hr2 hb
    clear hb
    try rw [hd]
    have hdw : dmaW l pg d at_ s true = putR pg (runsD l pg d at_ s.size true) s := rfl
    generalize runsD l pg d at_ s.size true = rs at *
    obtain ⟨j, hj⟩ : ∃ j, rs.length = j := ⟨_, rfl⟩
    rw [hj] at hr1 hr2 hlen
    obtain ⟨Av, cv, rfl, _, _, _⟩ := own_form hr1
    obtain ⟨Au, cu, rfl, _, _, _⟩ := own_form hr2
    have HJ := Lib.hid hj
    have HD := Lib.hid hdw
    have HOK := Lib.hid hok
    have HSM := Lib.hid hsum
    clear hj hdw hok hd hsum
    go_wp2
    go_loopw [4, 16] (fun sv i wr => ∃ (k : Nat) (p : List ByteArray) (t : ByteArray) (A3 : Option Addr) (c3 : Nat), k ≤ j ∧ i = .int .i64 (k : Int) ∧ sv = .string t ∧ t.size ≤ 1048576 ∧ Hid (p.length = n') ∧ Hid (sumR (rs.drop k) = t.size) ∧ Hid (putR p (rs.drop k) t = dmaW l pg d at_ s true) ∧ Below w.heap.size w wr ∧ wr.cell? ⟨w2.heap.size, 0, none⟩ = some (.slice A3 n' c3) ∧ wr.frozen? ⟨w2.heap.size, 0, none⟩ = false ∧ wr.cell? ⟨w.heap.size + 1, 0, none⟩ = some (.slice none 0 0) ∧ wr.frozen? ⟨w.heap.size + 1, 0, none⟩ = false ∧ wr.ownsRow (w.heap.size + 1) 9 1 (.slice A3 n' c3) n' (p.flatMap fun x : ByteArray => [Value.string x]) ∧ (∀ k, (Value.slice A3 n' c3).ownBlock = some k → w.heap.size + 1 < k ∧ k ≠ w2.heap.size) ∧ wr.ownsRow (w.heap.size + 1) 3 1 (.slice Av j cv) j (rs.flatMap (fun r : Run => [Value.int .i64 r.at_])) ∧ wr.ownsRow (w.heap.size + 1) 3 1 (.slice Au j cu) j (rs.flatMap (fun r : Run => [Value.int .i64 r.ln]))) (fun _ i _ => j - (intOf i).toNat)
    case atStart => exact ⟨0, pg, s, A1, c1, Nat.zero_le _, rfl, rfl, hs, hn', HSM.out, HD.out.symm, k2.alloc k2.size _, by simp [go_sem], by simp [go_sem], by rw [World.cell?_alloc_lt _ _ _ zd0]; exact d0, by simpa [go_sem, zd0] using fd0, ho.alloc _, fun k hk => by have := q1 k hk; omega, hr1.alloc _, hr2.alloc _⟩
    case round =>
      obtain ⟨k, p, t, A3, c3, hk, rfl, rfl, ht, hpl, hsm, hpt, hbw, o0, fo0, d0, fd0, ho, q3, hr1, hr2⟩ := hrel
      have hsz := hbw.size
      have zo : w2.heap.size < wr.heap.size := cell_block_lt o0
      have zd : w.heap.size + 1 < wr.heap.size := cell_block_lt d0
      have hrs := Reads.of_own hr1
      have hrl := Reads.of_own hr2
      by_cases hlt : k < j
      · obtain ⟨bs, ps, xs, rfl, hbs, hxs, hcs⟩ := hrs.el (cells := (fun r : Run => [Value.int .i64 r.at_])) (l := rs) (fun _ => rfl) (by decide) HJ.out hlt
        have s0 := (by simpa using hcs 0 _ rfl : wr.cell? ⟨bs, ps + k, none⟩ = some (.int .i64 xs.at_))
        obtain ⟨bt, pt, xt, rfl, hbt, hxt, hct⟩ := hrl.el (cells := (fun r : Run => [Value.int .i64 r.ln])) (l := rs) (fun _ => rfl) (by decide) HJ.out hlt
        have t0 := (by simpa using hct 0 _ rfl : wr.cell? ⟨bt, pt + k, none⟩ = some (.int .i64 xt.ln))
        clear hcs hct
        have hxe : xt = xs := by rw [hxs] at hxt; injection hxt with hxt; exact hxt.symm
        subst hxe
        have HXx := Lib.hid hxs
        clear hxs hxt
        obtain ⟨b1, b2, b3, b4⟩ := HOK.out xt (List.mem_of_getElem? HXx.out)
        have hbd := withB_t b4
        have hI1 : I64 xt.at_ := ⟨by omega, by omega⟩
        have hst := sumR_step HXx.out
        have hnn := sumR_nonneg (pg := pg) (rs := rs.drop (k + 1)) (fun r hr => HOK.out r (List.mem_of_mem_drop hr))
        have hsm2 := hsm.out
        have x1 : xt.ln ≤ (t.size : Int) := by omega
        have x0 : 0 ≤ xt.ln := by omega
        have hE : (t.extract 0 xt.ln.toNat).size ≤ 1048576 := by rw [ByteArray.size_extract]; omega
        have hE2 : (t.extract xt.ln.toNat t.size).size ≤ 1048576 := by rw [ByteArray.size_extract]; omega
        have HS2 : Hid (sumR (rs.drop (k + 1)) = ((t.extract xt.ln.toNat t.size).size : Int)) := by rw [Hid, ByteArray.size_extract]; omega
        have HP2 : Hid (putR (writeL p xt.at_ (t.extract 0 xt.ln.toNat)) (rs.drop (k + 1)) (t.extract xt.ln.toNat t.size) = dmaW l pg d at_ s true) := by rw [Hid, ← putR_step HXx.out]; exact hpt.out
        have HL2 : Hid ((writeL p xt.at_ (t.extract 0 xt.ln.toNat)).length = n') := by rw [Hid, writeL_len']; exact hpl.out
        have hrp := Reads.of_own (own_ext ho ((Below.refl _ _).drew))
        have nb1 : bs ≠ w2.heap.size := fun e => by have := qa bs rfl; omega
        have nb2 : ¬ bt = w2.heap.size := fun e => by have := qb bt rfl; omega
        have ne2 : ¬ w.heap.size + 1 = w2.heap.size := by omega
        have i0 : (0 : Int) ≤ (k : Int) := by omega
        have i1 : (k : Int) < (j : Int) := by omega
        clear hst hnn hsm2 hbd hsm hpt hrs hrl
        go_wp2_with fail
        go_region_law (go_simp; go_at_call 24; refine (specWriteMemory_c _ _ _ p _ hpl.out hm' hrp _ _ hI1 hE).mono ?_; rintro e w3 ⟨A4, c4, rfl, own4, hb⟩; have hb : Below wr.heap.size wr w3 := below_undrew hb; obtain ⟨o0, fo0, zo0⟩ := own_cell hb (b := w2.heap.size) (o := 0) (v := .slice A3 n' c3) (by first | assumption | (simp [go_sem]; done) | (simp [go_sem, *]; done)) (by first | assumption | (simp [go_sem]; done) | (simp [go_sem, *]; done)); obtain ⟨d0, fd0, zd0⟩ := own_cell hb (b := w.heap.size + 1) (o := 0) (v := .slice none 0 0) (by first | assumption | (simp [go_sem]; done) | (simp [go_sem, *]; done)) (by first | assumption | (simp [go_sem]; done) | (simp [go_sem, *]; done)); have t0 := ccell hb _ _ _ t0; have hr1 := own_ext hr1 hb; have hr2 := own_ext hr2 hb; have k3 : Below w.heap.size w w3 := ext_step hbw hsz hb; have q4 : ∀ g, (Value.slice A4 n' c4).ownBlock = some g → wr.heap.size ≤ g := (fun g hg => by have := (own4.lt g hg).1; (try simp at this); omega); have own4 := own_base own4 (base' := w.heap.size + 1) (by (try simp); omega); clear hb)
        all_goals
          go_wp2
          go_roundw
          case rel => exact ⟨k + 1, writeL p xt.at_ (t.extract 0 xt.ln.toNat), t.extract xt.ln.toNat t.size, A4, c4, by omega, by go_num, rfl, hE2, HL2, HS2, HP2, k3.setCell (by show w.heap.size ≤ w2.heap.size; omega) _, by simp [go_sem, o0], by simpa [go_sem] using fo0, by rw [World.cell?_setCell_other _ _ _ _ (by simp <;> omega)]; exact d0, by simpa [go_sem] using fd0, own_set_ne own4 (fun e => by have := q4 _ e; (try dsimp only at this); omega) _, fun g hg => by have := q4 g hg; omega, own_set_ne hr1 (fun e => by have := qa _ e; (try dsimp only at this); omega) _, own_set_ne hr2 (fun e => by have := qb _ e; (try dsimp only at this); omega) _⟩
          case measure => simp [intOf]; omega
      · have hkj : k = j := by omega
        have hpf : putR p (rs.drop k) t = p := by rw [List.drop_eq_nil_of_le (by rw [HJ.out]; omega)]; rfl
        have hfin := hpt.out
        rw [hpf] at hfin
        have HF := Lib.hid hfin
        clear hpf hfin hpt hsm hkj
        go_wp2
        refine bodyPost_ret (v := .tuple #[.agg #[.slice A3 n' c3], .bool true]) (by simp [results, Try.results35, go_sem, d0, o0]) rfl ?_
        rw [← HF.out]
        exact ⟨A3, c3, rfl, own_set_ne (own_base ho (by omega)) (fun e => by have := q3 _ e; (try dsimp only at this); omega) _, by go_grown⟩
end Go.Proofs.Ytnnlagmgdfhaiaa
