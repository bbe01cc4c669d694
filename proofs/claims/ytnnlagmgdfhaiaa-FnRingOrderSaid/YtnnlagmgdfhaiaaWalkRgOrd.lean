/- The walk of laws.FnRingOrder. -/
import Derived.Test.YtnnlagmgdfhaiaaDrawRng3
import Derived.Test.YtnnlagmgdfhaiaaRingP
import Derived.Test.YtnnlagmgdfhaiaaRingPt
import Derived.Test.YtnnlagmgdfhaiaaLawAt
import Derived.Deep.CutBlock
import Derived.Deep.DeepCutAuto
namespace Go.Proofs.Ytnnlagmgdfhaiaa
set_option linter.unusedSimpArgs false
set_option linter.unusedVariables false
open Go.RowKit Go.ChangeShapes Go.WideShapes
/-- What goes in with more behind it went in. -/
theorem paG_pre {l : List Mapping} {d base size head t0 : Int} (es : List ByteArray) {pg p q : List ByteArray} {t u : Int} {k : Nat} {x : ByteArray} (hx : es[k]? = some x) (hk : paG l d base size head (es.take k) pg t0 = some (p, t)) (h : paG l d base size head es pg t0 = some (q, u)) :
    rputB l p d base size head t x = true := by
  have hs : ∀ (a b r : List ByteArray) (s : Int), paG l d base size head (a ++ b) r s = (paG l d base size head a r s).bind fun z => paG l d base size head b z.1 z.2 := by
    intro a
    induction a with
    | nil => intro b r s; rfl
    | cons e a ih =>
      intro b r s
      rw [List.cons_append, paG, paG]
      split
      · exact ih _ _ _
      · rfl
  have he : es = es.take (k + 1) ++ es.drop (k + 1) := (List.take_append_drop _ _).symm
  have hn := paG_next (l := l) (d := d) (base := base) (size := size) (head := head) (t0 := t0) (pg := pg) hx
  rw [hk] at hn
  simp only [Option.bind_some] at hn
  rw [he, hs, hn] at h
  split at hn
  · rename_i hr; exact hr
  · rename_i hr
    rw [if_neg hr] at h
    cases h
set_option maxRecDepth 100000 in
set_option maxHeartbeats 16000000 in
theorem fnRingOrder_walk (A : Option Addr) (n c : Nat) (l : List Int) (w : World) (hs : SlBytes w A n c l) :
    Calls Try.prog 10 #[.slice A n c] w fun e w' => e = .returned (.bool true) ∧ Below w.heap.size w w' := by
  obtain ⟨⟨hn, hnc, hc, hr⟩, hok⟩ := hs
  have hm : n ≤ 9223372036854775807 := by omega
  by_cases hbig : (1048576 : Int) < n
  · go_enter Try.func10, Try.ntmps10
    go_wp2_with fail
    refine (big_c _ _ _ _).mono ?_
    rintro e wq ⟨rfl, rfl⟩
    go_wp2
    go_ret
    exact ⟨rfl, Below.refl _ _⟩
  · have hm2 : n ≤ 1048576 := by omega
    go_enter Try.func10, Try.ntmps10
    go_wp2_with fail
    refine (big_c _ _ _ _).mono ?_
    rintro e wq ⟨rfl, rfl⟩
    have k0 : Below w.heap.size w w := Below.refl _ _
    have p0 : w.heap.size ≤ w.heap.size := Nat.le_refl _
    have r_u := hr
    have hn_u := hn
    go_wp2_with fail
    refine (drawRing_c A n c l _ hn_u hm2 (r_u.more (by omega)) hok).mono ?_
    rintro e w1 ⟨ml, pg, A_m, c_m, A_p, c_p, base, size, head, tail, es, A_e, c_e, ⟨hn_m, hwl, hpg, hn_p, hrg, hel, hes⟩, rfl, o_m, o_p, o_e, hb⟩
    have k1 : Below w.heap.size w w1 := ext_step k0 (by omega) hb
    have p1 := hb.size
    replace r_u := r_u.below (hb.mono (by omega))
    obtain ⟨je, hn_e⟩ : ∃ j, es.length = j := ⟨_, rfl⟩
    rw [hn_e] at hel o_e ⊢
    have r_m := Reads.of_own o_m
    have u_m := fun k hk => (o_m.lt k hk).2
    have r_p := Reads.of_own o_p
    have u_p := fun k hk => (o_p.lt k hk).2
    have r_e := Reads.of_own o_e
    have u_e := fun k hk => (o_e.lt k hk).2
    clear hb
    have HM := Lib.hid hn_m
    have HP := Lib.hid hn_p
    have HE := Lib.hid hn_e
    have HW := Lib.hid hwl
    clear hn_m hn_p hn_e hwl
    obtain ⟨hrb, rb0, rb1, rs, rh0, rh1, rt0, rt1⟩ := hrg
    have hh : I64 head := ⟨by omega, by omega⟩
    have ht : I64 tail := ⟨by omega, by omega⟩
    have hi3 : ∀ x ∈ es, x.size ≤ 1048576 := fun x hx => by have := hes x hx; omega
    have od_p := o_p
    have rd_m := r_m.more (show _ ≤ w1.heap.size by omega)
    have rd_e := r_e.more (show _ ≤ w1.heap.size by omega)
    have kr := Below.refl w1.heap.size w1
    have hring0 := ring_inv HW.out HM.out hpg HP.out rb0 rb1 rs rt0 rt1 (es := es)
    clear hrb rh0 rh1 hh
    go_upto_block 0 with fail
    have hb : Below w1.heap.size w1 ((((w1.alloc (.cells #[.slice A_p 5 c_p] 39)).alloc (.cells #[.int .i64 base, .int .i64 size, .int .i64 tail, .int .i64 tail] 69)).alloc (.cells #[.slice A_p 5 c_p] 39)).alloc (.cells #[.int .i64 base, .int .i64 size, .int .i64 tail, .int .i64 tail] 69)) := by go_grown
    have bx0_0 : ((((w1.alloc (.cells #[.slice A_p 5 c_p] 39)).alloc (.cells #[.int .i64 base, .int .i64 size, .int .i64 tail, .int .i64 tail] 69)).alloc (.cells #[.slice A_p 5 c_p] 39)).alloc (.cells #[.int .i64 base, .int .i64 size, .int .i64 tail, .int .i64 tail] 69)).cell? ⟨w1.heap.size, 0, none⟩ = some (.slice A_p 5 c_p) := by simp [go_sem]
    have bl0 : w1.heap.size < ((((w1.alloc (.cells #[.slice A_p 5 c_p] 39)).alloc (.cells #[.int .i64 base, .int .i64 size, .int .i64 tail, .int .i64 tail] 69)).alloc (.cells #[.slice A_p 5 c_p] 39)).alloc (.cells #[.int .i64 base, .int .i64 size, .int .i64 tail, .int .i64 tail] 69)).heap.size := by go_size
    have hk0 : Blk ((((w1.alloc (.cells #[.slice A_p 5 c_p] 39)).alloc (.cells #[.int .i64 base, .int .i64 size, .int .i64 tail, .int .i64 tail] 69)).alloc (.cells #[.slice A_p 5 c_p] 39)).alloc (.cells #[.int .i64 base, .int .i64 size, .int .i64 tail, .int .i64 tail] 69)) (w1.heap.size) 39 [.slice A_p 5 c_p] := by simpa using (((Blk.new w1 39 [.slice A_p 5 c_p]).alloc (.cells #[.int .i64 base, .int .i64 size, .int .i64 tail, .int .i64 tail] 69)).alloc (.cells #[.slice A_p 5 c_p] 39)).alloc (.cells #[.int .i64 base, .int .i64 size, .int .i64 tail, .int .i64 tail] 69)
    have bx1_0 : ((((w1.alloc (.cells #[.slice A_p 5 c_p] 39)).alloc (.cells #[.int .i64 base, .int .i64 size, .int .i64 tail, .int .i64 tail] 69)).alloc (.cells #[.slice A_p 5 c_p] 39)).alloc (.cells #[.int .i64 base, .int .i64 size, .int .i64 tail, .int .i64 tail] 69)).cell? ⟨w1.heap.size + 1, 0, none⟩ = some (.int .i64 base) := by simp [go_sem]
    have bx1_1 : ((((w1.alloc (.cells #[.slice A_p 5 c_p] 39)).alloc (.cells #[.int .i64 base, .int .i64 size, .int .i64 tail, .int .i64 tail] 69)).alloc (.cells #[.slice A_p 5 c_p] 39)).alloc (.cells #[.int .i64 base, .int .i64 size, .int .i64 tail, .int .i64 tail] 69)).cell? ⟨w1.heap.size + 1, 1, none⟩ = some (.int .i64 size) := by simp [go_sem]
    have bx1_2 : ((((w1.alloc (.cells #[.slice A_p 5 c_p] 39)).alloc (.cells #[.int .i64 base, .int .i64 size, .int .i64 tail, .int .i64 tail] 69)).alloc (.cells #[.slice A_p 5 c_p] 39)).alloc (.cells #[.int .i64 base, .int .i64 size, .int .i64 tail, .int .i64 tail] 69)).cell? ⟨w1.heap.size + 1, 2, none⟩ = some (.int .i64 tail) := by simp [go_sem]
    have bx1_3 : ((((w1.alloc (.cells #[.slice A_p 5 c_p] 39)).alloc (.cells #[.int .i64 base, .int .i64 size, .int .i64 tail, .int .i64 tail] 69)).alloc (.cells #[.slice A_p 5 c_p] 39)).alloc (.cells #[.int .i64 base, .int .i64 size, .int .i64 tail, .int .i64 tail] 69)).cell? ⟨w1.heap.size + 1, 3, none⟩ = some (.int .i64 tail) := by simp [go_sem]
    have bl1 : w1.heap.size + 1 < ((((w1.alloc (.cells #[.slice A_p 5 c_p] 39)).alloc (.cells #[.int .i64 base, .int .i64 size, .int .i64 tail, .int .i64 tail] 69)).alloc (.cells #[.slice A_p 5 c_p] 39)).alloc (.cells #[.int .i64 base, .int .i64 size, .int .i64 tail, .int .i64 tail] 69)).heap.size := by go_size
    have hk1 : Blk ((((w1.alloc (.cells #[.slice A_p 5 c_p] 39)).alloc (.cells #[.int .i64 base, .int .i64 size, .int .i64 tail, .int .i64 tail] 69)).alloc (.cells #[.slice A_p 5 c_p] 39)).alloc (.cells #[.int .i64 base, .int .i64 size, .int .i64 tail, .int .i64 tail] 69)) (w1.heap.size + 1) 69 [.int .i64 base, .int .i64 size, .int .i64 tail, .int .i64 tail] := by simpa using ((Blk.new (w1.alloc (.cells #[.slice A_p 5 c_p] 39)) 69 [.int .i64 base, .int .i64 size, .int .i64 tail, .int .i64 tail]).alloc (.cells #[.slice A_p 5 c_p] 39)).alloc (.cells #[.int .i64 base, .int .i64 size, .int .i64 tail, .int .i64 tail] 69)
    have bx2_0 : ((((w1.alloc (.cells #[.slice A_p 5 c_p] 39)).alloc (.cells #[.int .i64 base, .int .i64 size, .int .i64 tail, .int .i64 tail] 69)).alloc (.cells #[.slice A_p 5 c_p] 39)).alloc (.cells #[.int .i64 base, .int .i64 size, .int .i64 tail, .int .i64 tail] 69)).cell? ⟨w1.heap.size + 1 + 1, 0, none⟩ = some (.slice A_p 5 c_p) := by simp [go_sem]
    have bl2 : w1.heap.size + 1 + 1 < ((((w1.alloc (.cells #[.slice A_p 5 c_p] 39)).alloc (.cells #[.int .i64 base, .int .i64 size, .int .i64 tail, .int .i64 tail] 69)).alloc (.cells #[.slice A_p 5 c_p] 39)).alloc (.cells #[.int .i64 base, .int .i64 size, .int .i64 tail, .int .i64 tail] 69)).heap.size := by go_size
    have hk2 : Blk ((((w1.alloc (.cells #[.slice A_p 5 c_p] 39)).alloc (.cells #[.int .i64 base, .int .i64 size, .int .i64 tail, .int .i64 tail] 69)).alloc (.cells #[.slice A_p 5 c_p] 39)).alloc (.cells #[.int .i64 base, .int .i64 size, .int .i64 tail, .int .i64 tail] 69)) (w1.heap.size + 1 + 1) 39 [.slice A_p 5 c_p] := by simpa using (Blk.new ((w1.alloc (.cells #[.slice A_p 5 c_p] 39)).alloc (.cells #[.int .i64 base, .int .i64 size, .int .i64 tail, .int .i64 tail] 69)) 39 [.slice A_p 5 c_p]).alloc (.cells #[.int .i64 base, .int .i64 size, .int .i64 tail, .int .i64 tail] 69)
    have bx3_0 : ((((w1.alloc (.cells #[.slice A_p 5 c_p] 39)).alloc (.cells #[.int .i64 base, .int .i64 size, .int .i64 tail, .int .i64 tail] 69)).alloc (.cells #[.slice A_p 5 c_p] 39)).alloc (.cells #[.int .i64 base, .int .i64 size, .int .i64 tail, .int .i64 tail] 69)).cell? ⟨w1.heap.size + 1 + 1 + 1, 0, none⟩ = some (.int .i64 base) := by simp [go_sem]
    have bx3_1 : ((((w1.alloc (.cells #[.slice A_p 5 c_p] 39)).alloc (.cells #[.int .i64 base, .int .i64 size, .int .i64 tail, .int .i64 tail] 69)).alloc (.cells #[.slice A_p 5 c_p] 39)).alloc (.cells #[.int .i64 base, .int .i64 size, .int .i64 tail, .int .i64 tail] 69)).cell? ⟨w1.heap.size + 1 + 1 + 1, 1, none⟩ = some (.int .i64 size) := by simp [go_sem]
    have bx3_2 : ((((w1.alloc (.cells #[.slice A_p 5 c_p] 39)).alloc (.cells #[.int .i64 base, .int .i64 size, .int .i64 tail, .int .i64 tail] 69)).alloc (.cells #[.slice A_p 5 c_p] 39)).alloc (.cells #[.int .i64 base, .int .i64 size, .int .i64 tail, .int .i64 tail] 69)).cell? ⟨w1.heap.size + 1 + 1 + 1, 2, none⟩ = some (.int .i64 tail) := by simp [go_sem]
    have bx3_3 : ((((w1.alloc (.cells #[.slice A_p 5 c_p] 39)).alloc (.cells #[.int .i64 base, .int .i64 size, .int .i64 tail, .int .i64 tail] 69)).alloc (.cells #[.slice A_p 5 c_p] 39)).alloc (.cells #[.int .i64 base, .int .i64 size, .int .i64 tail, .int .i64 tail] 69)).cell? ⟨w1.heap.size + 1 + 1 + 1, 3, none⟩ = some (.int .i64 tail) := by simp [go_sem]
    have bl3 : w1.heap.size + 1 + 1 + 1 < ((((w1.alloc (.cells #[.slice A_p 5 c_p] 39)).alloc (.cells #[.int .i64 base, .int .i64 size, .int .i64 tail, .int .i64 tail] 69)).alloc (.cells #[.slice A_p 5 c_p] 39)).alloc (.cells #[.int .i64 base, .int .i64 size, .int .i64 tail, .int .i64 tail] 69)).heap.size := by go_size
    have hk3 : Blk ((((w1.alloc (.cells #[.slice A_p 5 c_p] 39)).alloc (.cells #[.int .i64 base, .int .i64 size, .int .i64 tail, .int .i64 tail] 69)).alloc (.cells #[.slice A_p 5 c_p] 39)).alloc (.cells #[.int .i64 base, .int .i64 size, .int .i64 tail, .int .i64 tail] 69)) (w1.heap.size + 1 + 1 + 1) 69 [.int .i64 base, .int .i64 size, .int .i64 tail, .int .i64 tail] := by simpa using Blk.new (((w1.alloc (.cells #[.slice A_p 5 c_p] 39)).alloc (.cells #[.int .i64 base, .int .i64 size, .int .i64 tail, .int .i64 tail] 69)).alloc (.cells #[.slice A_p 5 c_p] 39)) 69 [.int .i64 base, .int .i64 size, .int .i64 tail, .int .i64 tail]
    generalize hW0 : ((((w1.alloc (.cells #[.slice A_p 5 c_p] 39)).alloc (.cells #[.int .i64 base, .int .i64 size, .int .i64 tail, .int .i64 tail] 69)).alloc (.cells #[.slice A_p 5 c_p] 39)).alloc (.cells #[.int .i64 base, .int .i64 size, .int .i64 tail, .int .i64 tail] 69)) = w2 at *
    clear hW0
    have k2 : Below w.heap.size w w2 := ext_step k1 (by omega) hb
    have p2 := hb.size
    replace kr := ext_step kr kr.size hb
    replace r_u := r_u.below (hb.mono (by omega))
    replace r_m := r_m.below (hb.mono (by omega))
    replace o_m := own_ext o_m hb
    replace r_p := r_p.below (hb.mono (by omega))
    replace o_p := own_ext o_p hb
    replace r_e := r_e.below (hb.mono (by omega))
    replace o_e := own_ext o_e hb
    clear hb
    go_cut [7, 10, 11, 12, 13] from 40 to 63 (fun s7 s10 s11 s12 s13 wx => ∃ (kS : Nat) (p : List ByteArray) (t : Int), s7 = .int .i64 (kS : Int) ∧ kS ≤ je ∧ Hid (paG ml 0 base size tail (es.take kS) pg tail = some (p, t)) ∧ Hid (∀ x, es[kS]? = some x → rputB ml p 0 base size tail t x = false) ∧ Blk wx (w1.heap.size) 39 [.slice A_p 5 c_p] ∧ Blk wx (w1.heap.size + 1) 69 [.int .i64 base, .int .i64 size, .int .i64 tail, .int .i64 tail] ∧ Below w1.heap.size w1 wx)
    case first =>
      go_wp2_with fail
      go_loopw [7, 10] (fun s i wr => ∃ (k : Nat) (p : List ByteArray) (t : Int) (A4 : Option Addr) (c4 : Nat), s = .int .i64 (k : Int) ∧ i = .int .i64 (k : Int) ∧ k ≤ je ∧ Hid (paG ml 0 base size tail (es.take k) pg tail = some (p, t)) ∧ Blk wr (w1.heap.size) 39 [.slice A_p 5 c_p] ∧ Blk wr (w1.heap.size + 1) 69 [.int .i64 base, .int .i64 size, .int .i64 tail, .int .i64 tail] ∧ Blk wr (w1.heap.size + 1 + 1) 39 [.slice A4 5 c4] ∧ Blk wr (w1.heap.size + 1 + 1 + 1) 69 [.int .i64 base, .int .i64 size, .int .i64 tail, .int .i64 t] ∧ wr.ownsRow w.heap.size 9 1 (.slice A4 5 c4) 5 (p.flatMap fun x : ByteArray => [Value.string x]) ∧ Below w1.heap.size w1 wr) (fun _ i _ => je - (intOf i).toNat)
      case atStart => exact ⟨0, pg, tail, A_p, c_p, rfl, rfl, Nat.zero_le _, Lib.hid (by rw [List.take_zero, paG]), hk0, hk1, hk2, hk3, own_base o_p (by omega), kr⟩
      case round =>
        obtain ⟨k, p, t, A4, c4, rfl, rfl, hk, HK, b0, b1, b2, b3, o4, kr⟩ := hrel
        clear hk0 hk1 hk2 hk3 bx0_0 bx1_0 bx1_1 bx1_2 bx1_3 bx2_0 bx3_0 bx3_1 bx3_2 bx3_3 o_p r_p r_m r_e r_u u_p u_m u_e
        have hkj := hk
        generalize hW0 : wr = w3 at *
        clear hW0
        have k3 : Below w.heap.size w w3 := ext_step k1 (by omega) kr
        have p3 := kr.size
        have hk0 := b0
        have bl0 := hk0.lt
        have bx0_0 : w3.cell? ⟨w1.heap.size, 0, none⟩ = some (.slice A_p 5 c_p) := (hk0.cell 0).trans rfl
        have hk1 := b1
        have bl1 := hk1.lt
        have bx1_0 : w3.cell? ⟨w1.heap.size + 1, 0, none⟩ = some (.int .i64 base) := (hk1.cell 0).trans rfl
        have bx1_1 : w3.cell? ⟨w1.heap.size + 1, 1, none⟩ = some (.int .i64 size) := (hk1.cell 1).trans rfl
        have bx1_2 : w3.cell? ⟨w1.heap.size + 1, 2, none⟩ = some (.int .i64 tail) := (hk1.cell 2).trans rfl
        have bx1_3 : w3.cell? ⟨w1.heap.size + 1, 3, none⟩ = some (.int .i64 tail) := (hk1.cell 3).trans rfl
        have hk2 := b2
        have bl2 := hk2.lt
        have bx2_0 : w3.cell? ⟨w1.heap.size + 1 + 1, 0, none⟩ = some (.slice A4 5 c4) := (hk2.cell 0).trans rfl
        have hk3 := b3
        have bl3 := hk3.lt
        have bx3_0 : w3.cell? ⟨w1.heap.size + 1 + 1 + 1, 0, none⟩ = some (.int .i64 base) := (hk3.cell 0).trans rfl
        have bx3_1 : w3.cell? ⟨w1.heap.size + 1 + 1 + 1, 1, none⟩ = some (.int .i64 size) := (hk3.cell 1).trans rfl
        have bx3_2 : w3.cell? ⟨w1.heap.size + 1 + 1 + 1, 2, none⟩ = some (.int .i64 tail) := (hk3.cell 2).trans rfl
        have bx3_3 : w3.cell? ⟨w1.heap.size + 1 + 1 + 1, 3, none⟩ = some (.int .i64 t) := (hk3.cell 3).trans rfl
        have r_m := (rd_m.below kr).more kr.size
        have r_e := (rd_e.below kr).more kr.size
        have o_q := o4
        have r_q := Reads.of_own o_q
        have u_q := fun k hk => (o_q.lt k hk).2
        clear o4 b0 b1 b2 b3
        obtain ⟨i1_, i2_, i3_, i4_, i5_, i6_, i7_⟩ := hring0 k p t (by rw [HE.out]; exact hkj) HK.out
        clear i7_
        have HP5 := Lib.hid i2_
        have ht2 : I64 t := by have := Int.emod_nonneg (tail + (k : Int)) (show 2 * size ≠ 0 by omega); have := Int.emod_lt_of_pos (tail + (k : Int)) (show 0 < 2 * size by omega); exact ⟨by omega, by omega⟩
        clear i1_ i2_ i3_ i4_ i5_ i6_
        by_cases hlt : k < je
        · obtain ⟨b, o, x, hAe, hbb, hx, hcc⟩ := r_e.el (fun _ => rfl) (by decide) HE.out hlt
          have e0 : w3.cell? ⟨b, o + k, none⟩ = some (.string x) := by simpa using hcc 0 _ rfl
          have hx16 := hes x (List.mem_of_getElem? hx)
          have HX := Lib.hid hx
          have i1 : (k : Int) < (je : Int) := by omega
          clear hcc hx
          subst hAe
          obtain ⟨bo, hbo⟩ : ∃ v, rputB ml p 0 base size tail t x = v := ⟨_, rfl⟩
          obtain ⟨tn, htn⟩ : ∃ v, rputT ml p 0 base size tail t x = v := ⟨_, rfl⟩
          obtain ⟨pn, hpn⟩ : ∃ v, rputM ml p 0 base size tail t x = v := ⟨_, rfl⟩
          have hRP : ∀ (w9 : World), Reads w9 w9.heap.size 4 A_m 5 (ml.flatMap Mapping.cells) → Reads w9 w9.heap.size 1 A4 5 (p.flatMap fun x : ByteArray => [Value.string x]) → Calls Try.prog 52 #[.slice A_m 5 c_m, .agg #[.slice A4 5 c4], .int .i64 0, .agg #[.int .i64 base, .int .i64 size, .int .i64 tail, .int .i64 t], .string x] w9 (fun e w' => ∃ A2 c2, e = .returned (.tuple #[.agg #[.slice A2 5 c2], .agg #[.int .i64 base, .int .i64 size, .int .i64 tail, .int .i64 tn], .bool bo]) ∧ w'.ownsRow w9.heap.size 9 1 (.slice A2 5 c2) 5 (pn.flatMap fun x : ByteArray => [Value.string x]) ∧ Below w9.heap.size w9 w') := fun w9 h1 h2 => by
            have h9 := specRingPut_c A_m A4 5 c_m 5 c4 ml p w9 HM.out HP5.out (by omega) (by omega) h1 h2 0 base size tail t x ht ht2 (by omega)
            rw [hbo, htn, hpn] at h9
            exact h9
          have HB := Lib.hid hbo
          have HT := Lib.hid htn
          have HPN := Lib.hid hpn
          clear hbo htn hpn
          go_wp2_with fail
          have hBB : w3.heap.size ≤ w3.heap.size := by omega
          refine wp_region_slotsS (w3.heap.size) [(47, fun _ v => v = .slice A_m 5 c_m), (48, fun _ v => v = .agg #[.slice A4 5 c4]), (49, fun _ v => v = .agg #[.int .i64 base, .int .i64 size, .int .i64 tail, .int .i64 t]), (50, fun _ v => v = .slice (some ⟨b, o, none⟩) je c_e), (51, fun _ v => v = .int .i64 (k : Int)), (52, fun _ v => v = .pointer (some ⟨b, o + k, none⟩)), (53, fun _ v => v = .string x), (54, RowP w3.heap.size 9 1 5 (pn.flatMap fun x : ByteArray => [Value.string x]) (fun A c => .tuple #[.agg #[.slice A 5 c], .agg #[.int .i64 base, .int .i64 size, .int .i64 tail, .int .i64 tn], .bool bo])), (46, RowP w3.heap.size 9 1 5 (pn.flatMap fun x : ByteArray => [Value.string x]) (fun A c => .tuple #[.agg #[.slice A 5 c], .agg #[.int .i64 base, .int .i64 size, .int .i64 tail, .int .i64 tn], .bool bo])), (55, RowP w3.heap.size 9 1 5 (pn.flatMap fun x : ByteArray => [Value.string x]) (fun A c => .agg #[.slice A 5 c])), (56, fun _ v => v = .agg #[.int .i64 base, .int .i64 size, .int .i64 tail, .int .i64 tn]), (57, fun _ v => v = .bool bo), (11, BoxP w3.heap.size 39 1), (12, BoxP w3.heap.size 69 4), (13, fun _ v => v = .bool bo)] [⟨14, 11, fun _ => True, StoR w3.heap.size 39 9 1 5 (pn.flatMap fun x : ByteArray => [Value.string x]) (fun A c => [.slice A 5 c])⟩, ⟨15, 12, fun _ => True, StoP w3.heap.size 69 [.int .i64 base, .int .i64 size, .int .i64 tail, .int .i64 tn]⟩] (fun _ => True) (by kernel_rfl) hBB (by kernel_rfl) (by kernel_rfl) (by kernel_rfl) (by kernel_rfl) ?_ ?_ ?_ ?_ ?_ ?_ ?_
          · intro p hp
            simp only [List.mem_cons, List.not_mem_nil, or_false] at hp
            rcases hp with rfl | rfl | rfl | rfl | rfl | rfl | rfl | rfl | rfl | rfl | rfl | rfl | rfl | rfl | rfl
            all_goals (intro u u' v hb hv; first | exact hv | exact BoxP.keep hv hb | exact RowP.keep hv hb)
          · intro s hs u u' hb
            simp only [List.mem_cons, List.not_mem_nil, or_false] at hs
            rcases hs with rfl | rfl
            all_goals (refine ⟨fun h => ?_, fun _ h => ?_⟩ <;> first | exact h | exact StoP.keep h hb | exact StoR.keep h hb | exact Blk.ext h hb | exact StaR.keep h hb)
          · intro s hs
            simp only [List.mem_cons, List.not_mem_nil, or_false] at hs
            rcases hs with rfl | rfl
            all_goals first | trivial
          · exact trivial
          · intro u u' hb hj
            exact trivial
          · intro hGk hSk hJk
            refine allStep_cons (stepS_plain hGk hSk hBB hJk (by kernel_rfl) rfl ?_) ?_
            · intro a u hb hz hj hl hp K Q hK
              have e3 : a.tmps[3]?.getD undef = .slice A_m 5 c_m := gd (hl 3 (by kernel_rfl))
              go_simp
              exact hK _ _ (Below.refl _ _) (by intro d hd; cases hd; exact rfl)
            refine allStep_cons (stepS_plain hGk hSk hBB hJk (by kernel_rfl) rfl ?_) ?_
            · intro a u hb hz hj hl hp K Q hK
              have e8 : a.tmps[8]?.getD undef = .pointer (some ⟨w1.heap.size + 1 + 1, 0, none⟩) := gd (hl 8 (by kernel_rfl))
              have bx2_0 := ccell hb _ _ _ bx2_0
              go_simp
              exact hK _ _ (Below.refl _ _) (by intro d hd; cases hd; exact rfl)
            refine allStep_cons (stepS_plain hGk hSk hBB hJk (by kernel_rfl) rfl ?_) ?_
            · intro a u hb hz hj hl hp K Q hK
              have e9 : a.tmps[9]?.getD undef = .pointer (some ⟨w1.heap.size + 1 + 1 + 1, 0, none⟩) := gd (hl 9 (by kernel_rfl))
              have bx3_0 := ccell hb _ _ _ bx3_0
              have bx3_1 := ccell hb _ _ _ bx3_1
              have bx3_2 := ccell hb _ _ _ bx3_2
              have bx3_3 := ccell hb _ _ _ bx3_3
              go_simp
              exact hK _ _ (Below.refl _ _) (by intro d hd; cases hd; exact rfl)
            refine allStep_cons (stepS_plain hGk hSk hBB hJk (by kernel_rfl) rfl ?_) ?_
            · intro a u hb hz hj hl hp K Q hK
              have e6 : a.tmps[6]?.getD undef = .slice (some ⟨b, o, none⟩) je c_e := gd (hl 6 (by kernel_rfl))
              go_simp
              exact hK _ _ (Below.refl _ _) (by intro d hd; cases hd; exact rfl)
            refine allStep_cons (stepS_plain hGk hSk hBB hJk (by kernel_rfl) rfl ?_) ?_
            · intro a u hb hz hj hl hp K Q hK
              have e10 : a.tmps[10]?.getD undef = .int .i64 (k : Int) := gd (hl 10 (by kernel_rfl))
              go_simp
              exact hK _ _ (Below.refl _ _) (by intro d hd; cases hd; exact rfl)
            refine allStep_cons (stepS_plain hGk hSk hBB hJk (by kernel_rfl) rfl ?_) ?_
            · intro a u hb hz hj hl hp K Q hK
              have e50 : a.tmps[50]?.getD undef = .slice (some ⟨b, o, none⟩) je c_e := gd (hl 50 (by kernel_rfl))
              have e51 : a.tmps[51]?.getD undef = .int .i64 (k : Int) := gd (hl 51 (by kernel_rfl))
              go_simp
              exact hK _ _ (Below.refl _ _) (by intro d hd; cases hd; exact rfl)
            refine allStep_cons (stepS_plain hGk hSk hBB hJk (by kernel_rfl) rfl ?_) ?_
            · intro a u hb hz hj hl hp K Q hK
              have e52 : a.tmps[52]?.getD undef = .pointer (some ⟨b, o + k, none⟩) := gd (hl 52 (by kernel_rfl))
              have e1 := ccell hb _ _ _ e0
              go_simp
              exact hK _ _ (Below.refl _ _) (by intro d hd; cases hd; exact rfl)
            refine allStep_cons (stepS_plain hGk hSk hBB hJk (by kernel_rfl) rfl ?_) ?_
            · intro a u hb hz hj hl hp K Q hK
              have e47 : a.tmps[47]?.getD undef = .slice A_m 5 c_m := gd (hl 47 (by kernel_rfl))
              have e48 : a.tmps[48]?.getD undef = .agg #[.slice A4 5 c4] := gd (hl 48 (by kernel_rfl))
              have e49 : a.tmps[49]?.getD undef = .agg #[.int .i64 base, .int .i64 size, .int .i64 tail, .int .i64 t] := gd (hl 49 (by kernel_rfl))
              have e53 : a.tmps[53]?.getD undef = .string x := gd (hl 53 (by kernel_rfl))
              go_simp
              refine (hRP _ ((r_m.below (hb.mono (by omega))).more (by omega)) ((r_q.below (hb.mono (by omega))).more (by omega))).mono ?_
              rintro e u1 ⟨A_g, c_g, rfl, o_g, hb1⟩
              exact hK _ _ hb1 (by intro d hd; cases hd; exact ⟨A_g, c_g, rfl, own_base o_g (by omega)⟩)
            refine allStep_cons (stepS_plain hGk hSk hBB hJk (by kernel_rfl) rfl ?_) ?_
            · intro a u hb hz hj hl hp K Q hK
              obtain ⟨A1, c1, ex54, o1⟩ : RowP w3.heap.size 9 1 5 (pn.flatMap fun x : ByteArray => [Value.string x]) (fun A c => .tuple #[.agg #[.slice A 5 c], .agg #[.int .i64 base, .int .i64 size, .int .i64 tail, .int .i64 tn], .bool bo]) u (a.tmps.getD 54 undef) := hl 54 (by kernel_rfl)
              have e54 := gd ex54
              go_simp
              exact hK _ _ (Below.refl _ _) (by intro d hd; cases hd; exact ⟨A1, c1, rfl, o1⟩)
            refine allStep_cons (stepS_plain hGk hSk hBB hJk (by kernel_rfl) rfl ?_) ?_
            · intro a u hb hz hj hl hp K Q hK
              obtain ⟨A1, c1, ex46, o1⟩ : RowP w3.heap.size 9 1 5 (pn.flatMap fun x : ByteArray => [Value.string x]) (fun A c => .tuple #[.agg #[.slice A 5 c], .agg #[.int .i64 base, .int .i64 size, .int .i64 tail, .int .i64 tn], .bool bo]) u (a.tmps.getD 46 undef) := hl 46 (by kernel_rfl)
              have e46 := gd ex46
              go_simp
              exact hK _ _ (Below.refl _ _) (by intro d hd; cases hd; exact ⟨A1, c1, rfl, o1⟩)
            refine allStep_cons (stepS_plain hGk hSk hBB hJk (by kernel_rfl) rfl ?_) ?_
            · intro a u hb hz hj hl hp K Q hK
              obtain ⟨A1, c1, ex46, o1⟩ : RowP w3.heap.size 9 1 5 (pn.flatMap fun x : ByteArray => [Value.string x]) (fun A c => .tuple #[.agg #[.slice A 5 c], .agg #[.int .i64 base, .int .i64 size, .int .i64 tail, .int .i64 tn], .bool bo]) u (a.tmps.getD 46 undef) := hl 46 (by kernel_rfl)
              have e46 := gd ex46
              go_simp
              exact hK _ _ (Below.refl _ _) (by intro d hd; cases hd; exact rfl)
            refine allStep_cons (stepS_plain hGk hSk hBB hJk (by kernel_rfl) rfl ?_) ?_
            · intro a u hb hz hj hl hp K Q hK
              obtain ⟨A1, c1, ex46, o1⟩ : RowP w3.heap.size 9 1 5 (pn.flatMap fun x : ByteArray => [Value.string x]) (fun A c => .tuple #[.agg #[.slice A 5 c], .agg #[.int .i64 base, .int .i64 size, .int .i64 tail, .int .i64 tn], .bool bo]) u (a.tmps.getD 46 undef) := hl 46 (by kernel_rfl)
              have e46 := gd ex46
              go_simp
              exact hK _ _ (Below.refl _ _) (by intro d hd; cases hd; exact rfl)
            refine allStep_cons (stepS_plain hGk hSk hBB hJk (by kernel_rfl) rfl ?_) ?_
            · intro a u hb hz hj hl hp K Q hK
              go_simp
              exact hK _ _ (by go_grown) (by intro d hd; cases hd; exact BoxP.new _ _ [.slice none 0 0] (by omega) rfl)
            refine allStep_cons (stepS_plain hGk hSk hBB hJk (by kernel_rfl) rfl ?_) ?_
            · intro a u hb hz hj hl hp K Q hK
              go_simp
              exact hK _ _ (by go_grown) (by intro d hd; cases hd; exact BoxP.new _ _ [.int .i64 0, .int .i64 0, .int .i64 0, .int .i64 0] (by omega) rfl)
            refine allStep_cons (stepS_store (Chg w3.heap.size 39) (fun _ _ hc hb => hc.below' (by omega) hb) (fun _ _ hc => hc.size) (hold_rel ?_) ?_ ?_ rfl rfl ?_) ?_
            · intro p hp
              simp only [List.mem_cons, List.not_mem_nil, or_false] at hp
              rcases hp with rfl | rfl | rfl | rfl | rfl | rfl | rfl | rfl | rfl | rfl | rfl | rfl | rfl | rfl | rfl
              all_goals (intro u u' v hb hv; first | exact hv | exact BoxP.chg hv hb | exact RowP.chg hv hb (by decide))
            · intro s hs hne u u' hb
              simp only [List.mem_cons, List.not_mem_nil, or_false] at hs
              rcases hs with rfl | rfl
              all_goals first | exact absurd (by rfl) hne | (refine ⟨fun h => ?_, fun _ h => ?_⟩ <;> first | exact h | exact StoP.chg h hb (by decide) | exact StoR.chg h hb (by decide) (by decide) | exact Blk.chgL h hb (by omega) | exact StaR.chgL h hb (by omega) (by decide))
            · intro u u' hb hj
              exact trivial
            · intro a u hb hz hj hl hp K Q hK
              obtain ⟨b, exb, hB, zs, hzl, hbk⟩ : BoxP w3.heap.size 39 1 u (a.tmps.getD 11 undef) := hl 11 (by kernel_rfl)
              have e11 := gd exb
              obtain ⟨A2, c2, ex55, o2⟩ : RowP w3.heap.size 9 1 5 (pn.flatMap fun x : ByteArray => [Value.string x]) (fun A c => .agg #[.slice A 5 c]) u (a.tmps.getD 55 undef) := hl 55 (by kernel_rfl)
              have e55 := gd ex55
              obtain ⟨z0, rfl⟩ : ∃ z0, zs = [z0] := (by match zs, hzl with | [z0], _ => exact ⟨_, rfl⟩)
              have hlt := hbk.lt
              have g0 : u.cell? ⟨b, 0, none⟩ = some z0 := (hbk.cell 0).trans rfl
              have f0 := hbk.frozen 0
              go_simp
              refine hK undef _ ((Chg.refl _ _ _).set hbk hB 0 _) (fun s hs he => ?_)
              simp only [List.mem_cons, List.not_mem_nil, or_false] at hs
              rcases hs with rfl | rfl
              · exact ⟨b, A2, c2, exb, hB, (hbk.set_ 0 _), own_chg o2 ((Chg.refl _ _ _).set hbk hB 0 _) (by decide)⟩
              · exact absurd (show (15 : Nat) = 14 from he) (by decide)
            refine allStep_cons (stepS_store (Chg w3.heap.size 69) (fun _ _ hc hb => hc.below' (by omega) hb) (fun _ _ hc => hc.size) (hold_rel ?_) ?_ ?_ rfl rfl ?_) ?_
            · intro p hp
              simp only [List.mem_cons, List.not_mem_nil, or_false] at hp
              rcases hp with rfl | rfl | rfl | rfl | rfl | rfl | rfl | rfl | rfl | rfl | rfl | rfl | rfl | rfl | rfl
              all_goals (intro u u' v hb hv; first | exact hv | exact BoxP.chg hv hb | exact RowP.chg hv hb (by decide))
            · intro s hs hne u u' hb
              simp only [List.mem_cons, List.not_mem_nil, or_false] at hs
              rcases hs with rfl | rfl
              all_goals first | exact absurd (by rfl) hne | (refine ⟨fun h => ?_, fun _ h => ?_⟩ <;> first | exact h | exact StoP.chg h hb (by decide) | exact StoR.chg h hb (by decide) (by decide) | exact Blk.chgL h hb (by omega) | exact StaR.chgL h hb (by omega) (by decide))
            · intro u u' hb hj
              exact trivial
            · intro a u hb hz hj hl hp K Q hK
              obtain ⟨b, exb, hB, zs, hzl, hbk⟩ : BoxP w3.heap.size 69 4 u (a.tmps.getD 12 undef) := hl 12 (by kernel_rfl)
              have e12 := gd exb
              have e56 : a.tmps[56]?.getD undef = .agg #[.int .i64 base, .int .i64 size, .int .i64 tail, .int .i64 tn] := gd (hl 56 (by kernel_rfl))
              obtain ⟨z0, z1, z2, z3, rfl⟩ : ∃ z0 z1 z2 z3, zs = [z0, z1, z2, z3] := (by match zs, hzl with | [z0, z1, z2, z3], _ => exact ⟨_, _, _, _, rfl⟩)
              have hlt := hbk.lt
              have g0 : u.cell? ⟨b, 0, none⟩ = some z0 := (hbk.cell 0).trans rfl
              have f0 := hbk.frozen 0
              have g1 : u.cell? ⟨b, 1, none⟩ = some z1 := (hbk.cell 1).trans rfl
              have f1 := hbk.frozen 1
              have g2 : u.cell? ⟨b, 2, none⟩ = some z2 := (hbk.cell 2).trans rfl
              have f2 := hbk.frozen 2
              have g3 : u.cell? ⟨b, 3, none⟩ = some z3 := (hbk.cell 3).trans rfl
              have f3 := hbk.frozen 3
              go_simp
              refine hK undef _ (((((Chg.refl _ _ _).set hbk hB 0 _).set (hbk.set_ 0 _) hB 1 _).set ((hbk.set_ 0 _).set_ 1 _) hB 2 _).set (((hbk.set_ 0 _).set_ 1 _).set_ 2 _) hB 3 _) (fun s hs he => ?_)
              simp only [List.mem_cons, List.not_mem_nil, or_false] at hs
              rcases hs with rfl | rfl
              · exact absurd (show (14 : Nat) = 15 from he) (by decide)
              · exact ⟨b, exb, hB, ((((hbk.set_ 0 _).set_ 1 _).set_ 2 _).set_ 3 _)⟩
            refine allStep_cons (stepS_plain hGk hSk hBB hJk (by kernel_rfl) rfl ?_) ?_
            · intro a u hb hz hj hl hp K Q hK
              have e57 : a.tmps[57]?.getD undef = .bool bo := gd (hl 57 (by kernel_rfl))
              go_simp
              exact hK _ _ (Below.refl _ _) (by intro d hd; cases hd; exact rfl)
            exact allStep_nil
          intro xT w4 hb hz hj hL hSt
          have fx13 : xT 13 = .bool bo := hL _ (List.mem_of_getElem? (i := 14) rfl)
          obtain ⟨bk_4, A_g, c_g, fx11, lo4, hk4, o_g⟩ : StoR w3.heap.size 39 9 1 5 (pn.flatMap fun x : ByteArray => [Value.string x]) (fun A c => [.slice A 5 c]) w4 (xT 11) := hSt _ (List.mem_of_getElem? (i := 0) rfl)
          obtain ⟨bk_5, fx12, lo5, hk5⟩ : StoP w3.heap.size 69 [.int .i64 base, .int .i64 size, .int .i64 tail, .int .i64 tn] w4 (xT 12) := hSt _ (List.mem_of_getElem? (i := 1) rfl)
          simp only [List.map, putAll, fx13, fx11, fx12]
          have bl4 := hk4.lt
          have bx4_0 : w4.cell? ⟨bk_4, 0, none⟩ = some (.slice A_g 5 c_g) := (hk4.cell 0).trans rfl
          have bl5 := hk5.lt
          have bx5_0 : w4.cell? ⟨bk_5, 0, none⟩ = some (.int .i64 base) := (hk5.cell 0).trans rfl
          have bx5_1 : w4.cell? ⟨bk_5, 1, none⟩ = some (.int .i64 size) := (hk5.cell 1).trans rfl
          have bx5_2 : w4.cell? ⟨bk_5, 2, none⟩ = some (.int .i64 tail) := (hk5.cell 2).trans rfl
          have bx5_3 : w4.cell? ⟨bk_5, 3, none⟩ = some (.int .i64 tn) := (hk5.cell 3).trans rfl
          have k4 : Below w.heap.size w w4 := ext_step k3 (by omega) hb
          have p4 := hb.size
          replace kr := ext_step kr kr.size hb
          replace hk0 := hk0.ext hb
          replace hk1 := hk1.ext hb
          replace hk2 := hk2.ext hb
          replace hk3 := hk3.ext hb
          replace bx0_0 := ccell hb _ _ _ bx0_0
          replace bx1_0 := ccell hb _ _ _ bx1_0
          replace bx1_1 := ccell hb _ _ _ bx1_1
          replace bx1_2 := ccell hb _ _ _ bx1_2
          replace bx1_3 := ccell hb _ _ _ bx1_3
          replace bx2_0 := ccell hb _ _ _ bx2_0
          replace bx3_0 := ccell hb _ _ _ bx3_0
          replace bx3_1 := ccell hb _ _ _ bx3_1
          replace bx3_2 := ccell hb _ _ _ bx3_2
          replace bx3_3 := ccell hb _ _ _ bx3_3
          replace e0 := ccell hb _ _ _ e0
          have bl0 := Nat.lt_of_lt_of_le bl0 hb.size
          have bl1 := Nat.lt_of_lt_of_le bl1 hb.size
          have bl2 := Nat.lt_of_lt_of_le bl2 hb.size
          have bl3 := Nat.lt_of_lt_of_le bl3 hb.size
          replace r_m := r_m.below (hb.mono (by omega))
          replace r_e := r_e.below (hb.mono (by omega))
          replace r_q := r_q.below (hb.mono (by omega))
          replace o_q := own_ext o_q hb
          have nb_g_4 := own_ty o_g hk4 (by decide)
          have nb_g_5 := own_ty o_g hk5 (by decide)
          have r_g := Reads.of_own o_g
          have u_g := fun k hk => (o_g.lt k hk).2
          clear hL hSt hb hz fx13 fx11 fx12 hk4 hk5
          cases bo
          · go_wp2_with fail
            go_meet
            exact ⟨k, p, t, rfl, hkj, HK, Lib.hid (fun y hy => by rw [HX.out] at hy; injection hy with hy; rw [← hy]; exact HB.out), hk0, hk1, kr⟩
          · skip
            have P0 := (((((hk0.far' (p := ⟨w1.heap.size + 1 + 1, 0, none⟩) (by show w1.heap.size + 1 + 1 ≠ w1.heap.size; omega) (.slice A_g 5 c_g)).far' (p := ⟨w1.heap.size + 1 + 1 + 1, 0, none⟩) (by show w1.heap.size + 1 + 1 + 1 ≠ w1.heap.size; omega) (.int .i64 base)).far' (p := ⟨w1.heap.size + 1 + 1 + 1, 1, none⟩) (by show w1.heap.size + 1 + 1 + 1 ≠ w1.heap.size; omega) (.int .i64 size)).far' (p := ⟨w1.heap.size + 1 + 1 + 1, 2, none⟩) (by show w1.heap.size + 1 + 1 + 1 ≠ w1.heap.size; omega) (.int .i64 tail)).far' (p := ⟨w1.heap.size + 1 + 1 + 1, 3, none⟩) (by show w1.heap.size + 1 + 1 + 1 ≠ w1.heap.size; omega) (.int .i64 tn))
            have P1 := (((((hk1.far' (p := ⟨w1.heap.size + 1 + 1, 0, none⟩) (by show w1.heap.size + 1 + 1 ≠ w1.heap.size + 1; omega) (.slice A_g 5 c_g)).far' (p := ⟨w1.heap.size + 1 + 1 + 1, 0, none⟩) (by show w1.heap.size + 1 + 1 + 1 ≠ w1.heap.size + 1; omega) (.int .i64 base)).far' (p := ⟨w1.heap.size + 1 + 1 + 1, 1, none⟩) (by show w1.heap.size + 1 + 1 + 1 ≠ w1.heap.size + 1; omega) (.int .i64 size)).far' (p := ⟨w1.heap.size + 1 + 1 + 1, 2, none⟩) (by show w1.heap.size + 1 + 1 + 1 ≠ w1.heap.size + 1; omega) (.int .i64 tail)).far' (p := ⟨w1.heap.size + 1 + 1 + 1, 3, none⟩) (by show w1.heap.size + 1 + 1 + 1 ≠ w1.heap.size + 1; omega) (.int .i64 tn))
            have P2 := (((((hk2.set_ 0 (.slice A_g 5 c_g)).far' (p := ⟨w1.heap.size + 1 + 1 + 1, 0, none⟩) (by show w1.heap.size + 1 + 1 + 1 ≠ w1.heap.size + 1 + 1; omega) (.int .i64 base)).far' (p := ⟨w1.heap.size + 1 + 1 + 1, 1, none⟩) (by show w1.heap.size + 1 + 1 + 1 ≠ w1.heap.size + 1 + 1; omega) (.int .i64 size)).far' (p := ⟨w1.heap.size + 1 + 1 + 1, 2, none⟩) (by show w1.heap.size + 1 + 1 + 1 ≠ w1.heap.size + 1 + 1; omega) (.int .i64 tail)).far' (p := ⟨w1.heap.size + 1 + 1 + 1, 3, none⟩) (by show w1.heap.size + 1 + 1 + 1 ≠ w1.heap.size + 1 + 1; omega) (.int .i64 tn))
            have P3 := (((((hk3.far' (p := ⟨w1.heap.size + 1 + 1, 0, none⟩) (by show w1.heap.size + 1 + 1 ≠ w1.heap.size + 1 + 1 + 1; omega) (.slice A_g 5 c_g)).set_ 0 (.int .i64 base)).set_ 1 (.int .i64 size)).set_ 2 (.int .i64 tail)).set_ 3 (.int .i64 tn))
            have o_g := own_base o_g (base' := w.heap.size) (by omega)
            have P7 := (own_set_ne (p := ⟨w1.heap.size + 1 + 1 + 1, 3, none⟩) (own_set_ne (p := ⟨w1.heap.size + 1 + 1 + 1, 2, none⟩) (own_set_ne (p := ⟨w1.heap.size + 1 + 1 + 1, 1, none⟩) (own_set_ne (p := ⟨w1.heap.size + 1 + 1 + 1, 0, none⟩) (own_set_ne (p := ⟨w1.heap.size + 1 + 1, 0, none⟩) o_g (fun e => own_ty o_g hk2 (by decide) _ e rfl) (.slice A_g 5 c_g)) (fun e => own_ty o_g hk3 (by decide) _ e rfl) (.int .i64 base)) (fun e => own_ty o_g hk3 (by decide) _ e rfl) (.int .i64 size)) (fun e => own_ty o_g hk3 (by decide) _ e rfl) (.int .i64 tail)) (fun e => own_ty o_g hk3 (by decide) _ e rfl) (.int .i64 tn))
            have P8 := (((((kr.setCell (p := ⟨w1.heap.size + 1 + 1, 0, none⟩) (by show w1.heap.size ≤ w1.heap.size + 1 + 1; omega) (.slice A_g 5 c_g)).setCell (p := ⟨w1.heap.size + 1 + 1 + 1, 0, none⟩) (by show w1.heap.size ≤ w1.heap.size + 1 + 1 + 1; omega) (.int .i64 base)).setCell (p := ⟨w1.heap.size + 1 + 1 + 1, 1, none⟩) (by show w1.heap.size ≤ w1.heap.size + 1 + 1 + 1; omega) (.int .i64 size)).setCell (p := ⟨w1.heap.size + 1 + 1 + 1, 2, none⟩) (by show w1.heap.size ≤ w1.heap.size + 1 + 1 + 1; omega) (.int .i64 tail)).setCell (p := ⟨w1.heap.size + 1 + 1 + 1, 3, none⟩) (by show w1.heap.size ≤ w1.heap.size + 1 + 1 + 1; omega) (.int .i64 tn))
            have fz2_0 := hk2.frozen 0
            have fz3_0 := hk3.frozen 0
            have fz3_1 := hk3.frozen 1
            have fz3_2 := hk3.frozen 2
            have fz3_3 := hk3.frozen 3
            have HN := Lib.hid (paG_next (l := ml) (d := 0) (base := base) (size := size) (head := tail) (t0 := tail) (pg := pg) HX.out)
            go_wp2
            go_roundw
            case rel => exact ⟨k + 1, pn, tn, A_g, c_g, by go_num, by go_num, by omega, Lib.hid (by rw [HN.out, HK.out]; simp only [Option.bind_some]; rw [if_pos HB.out, HPN.out, HT.out]), P0, P1, P2, P3, P7, P8⟩
            case measure => simp [intOf]; omega
        · have i1 : ¬ (k : Int) < (je : Int) := by omega
          go_wp2_with fail
          go_meet
          exact ⟨k, p, t, rfl, hkj, HK, Lib.hid (fun y hy => by have := (List.getElem?_eq_some_iff.1 hy).1; rw [HE.out] at this; omega), hk0, hk1, kr⟩
    case rest =>
      obtain ⟨kS, pS, tS, rfl, hkS, HKS, HEND, b0, b1, kr⟩ := hcut
      have hkS2 : kS ≤ es.length := by rw [HE.out]; exact hkS
      try clear hk0 hk1 hk2 hk3
      try clear bx0_0 bx1_0 bx1_1 bx1_2 bx1_3 bx2_0 bx3_0 bx3_1 bx3_2 bx3_3
      generalize hW0 : wc = w5 at *
      clear hW0
      have k5 : Below w.heap.size w w5 := ext_step k1 (by omega) kr
      have p5 := kr.size
      have hk0 := b0
      have bl0 := hk0.lt
      have bx0_0 : w5.cell? ⟨w1.heap.size, 0, none⟩ = some (.slice A_p 5 c_p) := (hk0.cell 0).trans rfl
      have hk1 := b1
      have bl1 := hk1.lt
      have bx1_0 : w5.cell? ⟨w1.heap.size + 1, 0, none⟩ = some (.int .i64 base) := (hk1.cell 0).trans rfl
      have bx1_1 : w5.cell? ⟨w1.heap.size + 1, 1, none⟩ = some (.int .i64 size) := (hk1.cell 1).trans rfl
      have bx1_2 : w5.cell? ⟨w1.heap.size + 1, 2, none⟩ = some (.int .i64 tail) := (hk1.cell 2).trans rfl
      have bx1_3 : w5.cell? ⟨w1.heap.size + 1, 3, none⟩ = some (.int .i64 tail) := (hk1.cell 3).trans rfl
      have r_m := (rd_m.below kr).more kr.size
      have r_e := (rd_e.below kr).more kr.size
      clear b0 b1
      go_upto_block 2 with fail
      go_cut [14, 15, 16, 17, 18] from 64 to 87 (fun s14 s15 s16 s17 s18 wx => ∃ (p : List ByteArray) (t : Int) (A4 : Option Addr) (c4 : Nat), s14 = .int .i64 (kS : Int) ∧ Hid (paG ml 0 base size tail (es.take kS) pg tail = some (p, t)) ∧ Blk wx (w1.heap.size) 39 [.slice A4 5 c4] ∧ Blk wx (w1.heap.size + 1) 69 [.int .i64 base, .int .i64 size, .int .i64 tail, .int .i64 t] ∧ wx.ownsRow w.heap.size 9 1 (.slice A4 5 c4) 5 (p.flatMap fun x : ByteArray => [Value.string x]) ∧ Below w1.heap.size w1 wx)
      case first =>
        go_wp2_with fail
        go_loopw [14, 15] (fun s i wr => ∃ (k : Nat) (p : List ByteArray) (t : Int) (A4 : Option Addr) (c4 : Nat), s = .int .i64 (k : Int) ∧ i = .int .i64 (k : Int) ∧ k ≤ kS ∧ Hid (paG ml 0 base size tail (es.take k) pg tail = some (p, t)) ∧ Blk wr (w1.heap.size) 39 [.slice A4 5 c4] ∧ Blk wr (w1.heap.size + 1) 69 [.int .i64 base, .int .i64 size, .int .i64 tail, .int .i64 t] ∧ wr.ownsRow w.heap.size 9 1 (.slice A4 5 c4) 5 (p.flatMap fun x : ByteArray => [Value.string x]) ∧ Below w1.heap.size w1 wr) (fun _ i _ => je - (intOf i).toNat)
        case atStart => exact ⟨0, pg, tail, A_p, c_p, rfl, rfl, Nat.zero_le _, Lib.hid (by rw [List.take_zero, paG]), hk0, hk1, own_base (own_ext od_p kr) (by omega), kr⟩
        case round =>
          obtain ⟨k, p, t, A4, c4, rfl, rfl, hk, HK, b0, b1, o4, kr⟩ := hrel
          clear hk0 hk1 bx0_0 bx1_0 bx1_1 bx1_2 bx1_3 o_p r_p r_m r_e r_u u_p u_m u_e
          have hkj : k ≤ je := by omega
          generalize hW0 : wr = w6 at *
          clear hW0
          have k6 : Below w.heap.size w w6 := ext_step k1 (by omega) kr
          have p6 := kr.size
          have hk0 := b0
          have bl0 := hk0.lt
          have bx0_0 : w6.cell? ⟨w1.heap.size, 0, none⟩ = some (.slice A4 5 c4) := (hk0.cell 0).trans rfl
          have hk1 := b1
          have bl1 := hk1.lt
          have bx1_0 : w6.cell? ⟨w1.heap.size + 1, 0, none⟩ = some (.int .i64 base) := (hk1.cell 0).trans rfl
          have bx1_1 : w6.cell? ⟨w1.heap.size + 1, 1, none⟩ = some (.int .i64 size) := (hk1.cell 1).trans rfl
          have bx1_2 : w6.cell? ⟨w1.heap.size + 1, 2, none⟩ = some (.int .i64 tail) := (hk1.cell 2).trans rfl
          have bx1_3 : w6.cell? ⟨w1.heap.size + 1, 3, none⟩ = some (.int .i64 t) := (hk1.cell 3).trans rfl
          have r_m := (rd_m.below kr).more kr.size
          have r_e := (rd_e.below kr).more kr.size
          have o_q := o4
          have r_q := Reads.of_own o_q
          have u_q := fun k hk => (o_q.lt k hk).2
          clear o4 b0 b1
          obtain ⟨i1_, i2_, i3_, i4_, i5_, i6_, i7_⟩ := hring0 k p t (by rw [HE.out]; exact hkj) HK.out
          clear i7_
          have HP5 := Lib.hid i2_
          have ht2 : I64 t := by have := Int.emod_nonneg (tail + (k : Int)) (show 2 * size ≠ 0 by omega); have := Int.emod_lt_of_pos (tail + (k : Int)) (show 0 < 2 * size by omega); exact ⟨by omega, by omega⟩
          clear i1_ i2_ i3_ i4_ i5_ i6_
          by_cases hlt : k < je
          · obtain ⟨b, o, x, hAe, hbb, hx, hcc⟩ := r_e.el (fun _ => rfl) (by decide) HE.out hlt
            have e0 : w6.cell? ⟨b, o + k, none⟩ = some (.string x) := by simpa using hcc 0 _ rfl
            have hx16 := hes x (List.mem_of_getElem? hx)
            have HX := Lib.hid hx
            have i1 : (k : Int) < (je : Int) := by omega
            clear hcc hx
            subst hAe
            obtain ⟨bo, hbo⟩ : ∃ v, rputB ml p 0 base size tail t x = v := ⟨_, rfl⟩
            obtain ⟨tn, htn⟩ : ∃ v, rputT ml p 0 base size tail t x = v := ⟨_, rfl⟩
            obtain ⟨pn, hpn⟩ : ∃ v, rputM ml p 0 base size tail t x = v := ⟨_, rfl⟩
            have hRP : ∀ (w9 : World), Reads w9 w9.heap.size 4 A_m 5 (ml.flatMap Mapping.cells) → Reads w9 w9.heap.size 1 A4 5 (p.flatMap fun x : ByteArray => [Value.string x]) → Calls Try.prog 54 #[.slice A_m 5 c_m, .agg #[.slice A4 5 c4], .int .i64 0, .agg #[.int .i64 base, .int .i64 size, .int .i64 tail, .int .i64 t], .string x] w9 (fun e w' => ∃ A2 c2, e = .returned (.tuple #[.agg #[.slice A2 5 c2], .agg #[.int .i64 base, .int .i64 size, .int .i64 tail, .int .i64 tn], .bool bo]) ∧ w'.ownsRow w9.heap.size 9 1 (.slice A2 5 c2) 5 (pn.flatMap fun x : ByteArray => [Value.string x]) ∧ Below w9.heap.size w9 w') := fun w9 h1 h2 => by
              have h9 := implRingPut_c A_m A4 5 c_m 5 c4 ml p w9 HM.out HP5.out (by omega) (by omega) h1 h2 0 base size tail t x ht ht2 (by omega)
              rw [hbo, htn, hpn] at h9
              exact h9
            have HB := Lib.hid hbo
            have HT := Lib.hid htn
            have HPN := Lib.hid hpn
            clear hbo htn hpn
            go_wp2_with fail
            have hBB : w6.heap.size ≤ w6.heap.size := by omega
            refine wp_region_slotsS (w6.heap.size) [(71, fun _ v => v = .slice A_m 5 c_m), (72, fun _ v => v = .agg #[.slice A4 5 c4]), (73, fun _ v => v = .agg #[.int .i64 base, .int .i64 size, .int .i64 tail, .int .i64 t]), (74, fun _ v => v = .slice (some ⟨b, o, none⟩) je c_e), (75, fun _ v => v = .int .i64 (k : Int)), (76, fun _ v => v = .pointer (some ⟨b, o + k, none⟩)), (77, fun _ v => v = .string x), (78, RowP w6.heap.size 9 1 5 (pn.flatMap fun x : ByteArray => [Value.string x]) (fun A c => .tuple #[.agg #[.slice A 5 c], .agg #[.int .i64 base, .int .i64 size, .int .i64 tail, .int .i64 tn], .bool bo])), (70, RowP w6.heap.size 9 1 5 (pn.flatMap fun x : ByteArray => [Value.string x]) (fun A c => .tuple #[.agg #[.slice A 5 c], .agg #[.int .i64 base, .int .i64 size, .int .i64 tail, .int .i64 tn], .bool bo])), (79, RowP w6.heap.size 9 1 5 (pn.flatMap fun x : ByteArray => [Value.string x]) (fun A c => .agg #[.slice A 5 c])), (80, fun _ v => v = .agg #[.int .i64 base, .int .i64 size, .int .i64 tail, .int .i64 tn]), (81, fun _ v => v = .bool bo), (16, BoxP w6.heap.size 39 1), (17, BoxP w6.heap.size 69 4), (18, fun _ v => v = .bool bo)] [⟨14, 16, fun _ => True, StoR w6.heap.size 39 9 1 5 (pn.flatMap fun x : ByteArray => [Value.string x]) (fun A c => [.slice A 5 c])⟩, ⟨15, 17, fun _ => True, StoP w6.heap.size 69 [.int .i64 base, .int .i64 size, .int .i64 tail, .int .i64 tn]⟩] (fun _ => True) (by kernel_rfl) hBB (by kernel_rfl) (by kernel_rfl) (by kernel_rfl) (by kernel_rfl) ?_ ?_ ?_ ?_ ?_ ?_ ?_
            · intro p hp
              simp only [List.mem_cons, List.not_mem_nil, or_false] at hp
              rcases hp with rfl | rfl | rfl | rfl | rfl | rfl | rfl | rfl | rfl | rfl | rfl | rfl | rfl | rfl | rfl
              all_goals (intro u u' v hb hv; first | exact hv | exact BoxP.keep hv hb | exact RowP.keep hv hb)
            · intro s hs u u' hb
              simp only [List.mem_cons, List.not_mem_nil, or_false] at hs
              rcases hs with rfl | rfl
              all_goals (refine ⟨fun h => ?_, fun _ h => ?_⟩ <;> first | exact h | exact StoP.keep h hb | exact StoR.keep h hb | exact Blk.ext h hb | exact StaR.keep h hb)
            · intro s hs
              simp only [List.mem_cons, List.not_mem_nil, or_false] at hs
              rcases hs with rfl | rfl
              all_goals first | trivial
            · exact trivial
            · intro u u' hb hj
              exact trivial
            · intro hGk hSk hJk
              refine allStep_cons (stepS_plain hGk hSk hBB hJk (by kernel_rfl) rfl ?_) ?_
              · intro a u hb hz hj hl hp K Q hK
                have e3 : a.tmps[3]?.getD undef = .slice A_m 5 c_m := gd (hl 3 (by kernel_rfl))
                go_simp
                exact hK _ _ (Below.refl _ _) (by intro d hd; cases hd; exact rfl)
              refine allStep_cons (stepS_plain hGk hSk hBB hJk (by kernel_rfl) rfl ?_) ?_
              · intro a u hb hz hj hl hp K Q hK
                have e4 : a.tmps[4]?.getD undef = .pointer (some ⟨w1.heap.size, 0, none⟩) := gd (hl 4 (by kernel_rfl))
                have bx0_0 := ccell hb _ _ _ bx0_0
                go_simp
                exact hK _ _ (Below.refl _ _) (by intro d hd; cases hd; exact rfl)
              refine allStep_cons (stepS_plain hGk hSk hBB hJk (by kernel_rfl) rfl ?_) ?_
              · intro a u hb hz hj hl hp K Q hK
                have e5 : a.tmps[5]?.getD undef = .pointer (some ⟨w1.heap.size + 1, 0, none⟩) := gd (hl 5 (by kernel_rfl))
                have bx1_0 := ccell hb _ _ _ bx1_0
                have bx1_1 := ccell hb _ _ _ bx1_1
                have bx1_2 := ccell hb _ _ _ bx1_2
                have bx1_3 := ccell hb _ _ _ bx1_3
                go_simp
                exact hK _ _ (Below.refl _ _) (by intro d hd; cases hd; exact rfl)
              refine allStep_cons (stepS_plain hGk hSk hBB hJk (by kernel_rfl) rfl ?_) ?_
              · intro a u hb hz hj hl hp K Q hK
                have e6 : a.tmps[6]?.getD undef = .slice (some ⟨b, o, none⟩) je c_e := gd (hl 6 (by kernel_rfl))
                go_simp
                exact hK _ _ (Below.refl _ _) (by intro d hd; cases hd; exact rfl)
              refine allStep_cons (stepS_plain hGk hSk hBB hJk (by kernel_rfl) rfl ?_) ?_
              · intro a u hb hz hj hl hp K Q hK
                have e15 : a.tmps[15]?.getD undef = .int .i64 (k : Int) := gd (hl 15 (by kernel_rfl))
                go_simp
                exact hK _ _ (Below.refl _ _) (by intro d hd; cases hd; exact rfl)
              refine allStep_cons (stepS_plain hGk hSk hBB hJk (by kernel_rfl) rfl ?_) ?_
              · intro a u hb hz hj hl hp K Q hK
                have e74 : a.tmps[74]?.getD undef = .slice (some ⟨b, o, none⟩) je c_e := gd (hl 74 (by kernel_rfl))
                have e75 : a.tmps[75]?.getD undef = .int .i64 (k : Int) := gd (hl 75 (by kernel_rfl))
                go_simp
                exact hK _ _ (Below.refl _ _) (by intro d hd; cases hd; exact rfl)
              refine allStep_cons (stepS_plain hGk hSk hBB hJk (by kernel_rfl) rfl ?_) ?_
              · intro a u hb hz hj hl hp K Q hK
                have e76 : a.tmps[76]?.getD undef = .pointer (some ⟨b, o + k, none⟩) := gd (hl 76 (by kernel_rfl))
                have e1 := ccell hb _ _ _ e0
                go_simp
                exact hK _ _ (Below.refl _ _) (by intro d hd; cases hd; exact rfl)
              refine allStep_cons (stepS_plain hGk hSk hBB hJk (by kernel_rfl) rfl ?_) ?_
              · intro a u hb hz hj hl hp K Q hK
                have e71 : a.tmps[71]?.getD undef = .slice A_m 5 c_m := gd (hl 71 (by kernel_rfl))
                have e72 : a.tmps[72]?.getD undef = .agg #[.slice A4 5 c4] := gd (hl 72 (by kernel_rfl))
                have e73 : a.tmps[73]?.getD undef = .agg #[.int .i64 base, .int .i64 size, .int .i64 tail, .int .i64 t] := gd (hl 73 (by kernel_rfl))
                have e77 : a.tmps[77]?.getD undef = .string x := gd (hl 77 (by kernel_rfl))
                go_simp
                refine (hRP _ ((r_m.below (hb.mono (by omega))).more (by omega)) ((r_q.below (hb.mono (by omega))).more (by omega))).mono ?_
                rintro e u1 ⟨A_g, c_g, rfl, o_g, hb1⟩
                exact hK _ _ hb1 (by intro d hd; cases hd; exact ⟨A_g, c_g, rfl, own_base o_g (by omega)⟩)
              refine allStep_cons (stepS_plain hGk hSk hBB hJk (by kernel_rfl) rfl ?_) ?_
              · intro a u hb hz hj hl hp K Q hK
                obtain ⟨A1, c1, ex78, o1⟩ : RowP w6.heap.size 9 1 5 (pn.flatMap fun x : ByteArray => [Value.string x]) (fun A c => .tuple #[.agg #[.slice A 5 c], .agg #[.int .i64 base, .int .i64 size, .int .i64 tail, .int .i64 tn], .bool bo]) u (a.tmps.getD 78 undef) := hl 78 (by kernel_rfl)
                have e78 := gd ex78
                go_simp
                exact hK _ _ (Below.refl _ _) (by intro d hd; cases hd; exact ⟨A1, c1, rfl, o1⟩)
              refine allStep_cons (stepS_plain hGk hSk hBB hJk (by kernel_rfl) rfl ?_) ?_
              · intro a u hb hz hj hl hp K Q hK
                obtain ⟨A1, c1, ex70, o1⟩ : RowP w6.heap.size 9 1 5 (pn.flatMap fun x : ByteArray => [Value.string x]) (fun A c => .tuple #[.agg #[.slice A 5 c], .agg #[.int .i64 base, .int .i64 size, .int .i64 tail, .int .i64 tn], .bool bo]) u (a.tmps.getD 70 undef) := hl 70 (by kernel_rfl)
                have e70 := gd ex70
                go_simp
                exact hK _ _ (Below.refl _ _) (by intro d hd; cases hd; exact ⟨A1, c1, rfl, o1⟩)
              refine allStep_cons (stepS_plain hGk hSk hBB hJk (by kernel_rfl) rfl ?_) ?_
              · intro a u hb hz hj hl hp K Q hK
                obtain ⟨A1, c1, ex70, o1⟩ : RowP w6.heap.size 9 1 5 (pn.flatMap fun x : ByteArray => [Value.string x]) (fun A c => .tuple #[.agg #[.slice A 5 c], .agg #[.int .i64 base, .int .i64 size, .int .i64 tail, .int .i64 tn], .bool bo]) u (a.tmps.getD 70 undef) := hl 70 (by kernel_rfl)
                have e70 := gd ex70
                go_simp
                exact hK _ _ (Below.refl _ _) (by intro d hd; cases hd; exact rfl)
              refine allStep_cons (stepS_plain hGk hSk hBB hJk (by kernel_rfl) rfl ?_) ?_
              · intro a u hb hz hj hl hp K Q hK
                obtain ⟨A1, c1, ex70, o1⟩ : RowP w6.heap.size 9 1 5 (pn.flatMap fun x : ByteArray => [Value.string x]) (fun A c => .tuple #[.agg #[.slice A 5 c], .agg #[.int .i64 base, .int .i64 size, .int .i64 tail, .int .i64 tn], .bool bo]) u (a.tmps.getD 70 undef) := hl 70 (by kernel_rfl)
                have e70 := gd ex70
                go_simp
                exact hK _ _ (Below.refl _ _) (by intro d hd; cases hd; exact rfl)
              refine allStep_cons (stepS_plain hGk hSk hBB hJk (by kernel_rfl) rfl ?_) ?_
              · intro a u hb hz hj hl hp K Q hK
                go_simp
                exact hK _ _ (by go_grown) (by intro d hd; cases hd; exact BoxP.new _ _ [.slice none 0 0] (by omega) rfl)
              refine allStep_cons (stepS_plain hGk hSk hBB hJk (by kernel_rfl) rfl ?_) ?_
              · intro a u hb hz hj hl hp K Q hK
                go_simp
                exact hK _ _ (by go_grown) (by intro d hd; cases hd; exact BoxP.new _ _ [.int .i64 0, .int .i64 0, .int .i64 0, .int .i64 0] (by omega) rfl)
              refine allStep_cons (stepS_store (Chg w6.heap.size 39) (fun _ _ hc hb => hc.below' (by omega) hb) (fun _ _ hc => hc.size) (hold_rel ?_) ?_ ?_ rfl rfl ?_) ?_
              · intro p hp
                simp only [List.mem_cons, List.not_mem_nil, or_false] at hp
                rcases hp with rfl | rfl | rfl | rfl | rfl | rfl | rfl | rfl | rfl | rfl | rfl | rfl | rfl | rfl | rfl
                all_goals (intro u u' v hb hv; first | exact hv | exact BoxP.chg hv hb | exact RowP.chg hv hb (by decide))
              · intro s hs hne u u' hb
                simp only [List.mem_cons, List.not_mem_nil, or_false] at hs
                rcases hs with rfl | rfl
                all_goals first | exact absurd (by rfl) hne | (refine ⟨fun h => ?_, fun _ h => ?_⟩ <;> first | exact h | exact StoP.chg h hb (by decide) | exact StoR.chg h hb (by decide) (by decide) | exact Blk.chgL h hb (by omega) | exact StaR.chgL h hb (by omega) (by decide))
              · intro u u' hb hj
                exact trivial
              · intro a u hb hz hj hl hp K Q hK
                obtain ⟨b, exb, hB, zs, hzl, hbk⟩ : BoxP w6.heap.size 39 1 u (a.tmps.getD 16 undef) := hl 16 (by kernel_rfl)
                have e16 := gd exb
                obtain ⟨A2, c2, ex79, o2⟩ : RowP w6.heap.size 9 1 5 (pn.flatMap fun x : ByteArray => [Value.string x]) (fun A c => .agg #[.slice A 5 c]) u (a.tmps.getD 79 undef) := hl 79 (by kernel_rfl)
                have e79 := gd ex79
                obtain ⟨z0, rfl⟩ : ∃ z0, zs = [z0] := (by match zs, hzl with | [z0], _ => exact ⟨_, rfl⟩)
                have hlt := hbk.lt
                have g0 : u.cell? ⟨b, 0, none⟩ = some z0 := (hbk.cell 0).trans rfl
                have f0 := hbk.frozen 0
                go_simp
                refine hK undef _ ((Chg.refl _ _ _).set hbk hB 0 _) (fun s hs he => ?_)
                simp only [List.mem_cons, List.not_mem_nil, or_false] at hs
                rcases hs with rfl | rfl
                · exact ⟨b, A2, c2, exb, hB, (hbk.set_ 0 _), own_chg o2 ((Chg.refl _ _ _).set hbk hB 0 _) (by decide)⟩
                · exact absurd (show (15 : Nat) = 14 from he) (by decide)
              refine allStep_cons (stepS_store (Chg w6.heap.size 69) (fun _ _ hc hb => hc.below' (by omega) hb) (fun _ _ hc => hc.size) (hold_rel ?_) ?_ ?_ rfl rfl ?_) ?_
              · intro p hp
                simp only [List.mem_cons, List.not_mem_nil, or_false] at hp
                rcases hp with rfl | rfl | rfl | rfl | rfl | rfl | rfl | rfl | rfl | rfl | rfl | rfl | rfl | rfl | rfl
                all_goals (intro u u' v hb hv; first | exact hv | exact BoxP.chg hv hb | exact RowP.chg hv hb (by decide))
              · intro s hs hne u u' hb
                simp only [List.mem_cons, List.not_mem_nil, or_false] at hs
                rcases hs with rfl | rfl
                all_goals first | exact absurd (by rfl) hne | (refine ⟨fun h => ?_, fun _ h => ?_⟩ <;> first | exact h | exact StoP.chg h hb (by decide) | exact StoR.chg h hb (by decide) (by decide) | exact Blk.chgL h hb (by omega) | exact StaR.chgL h hb (by omega) (by decide))
              · intro u u' hb hj
                exact trivial
              · intro a u hb hz hj hl hp K Q hK
                obtain ⟨b, exb, hB, zs, hzl, hbk⟩ : BoxP w6.heap.size 69 4 u (a.tmps.getD 17 undef) := hl 17 (by kernel_rfl)
                have e17 := gd exb
                have e80 : a.tmps[80]?.getD undef = .agg #[.int .i64 base, .int .i64 size, .int .i64 tail, .int .i64 tn] := gd (hl 80 (by kernel_rfl))
                obtain ⟨z0, z1, z2, z3, rfl⟩ : ∃ z0 z1 z2 z3, zs = [z0, z1, z2, z3] := (by match zs, hzl with | [z0, z1, z2, z3], _ => exact ⟨_, _, _, _, rfl⟩)
                have hlt := hbk.lt
                have g0 : u.cell? ⟨b, 0, none⟩ = some z0 := (hbk.cell 0).trans rfl
                have f0 := hbk.frozen 0
                have g1 : u.cell? ⟨b, 1, none⟩ = some z1 := (hbk.cell 1).trans rfl
                have f1 := hbk.frozen 1
                have g2 : u.cell? ⟨b, 2, none⟩ = some z2 := (hbk.cell 2).trans rfl
                have f2 := hbk.frozen 2
                have g3 : u.cell? ⟨b, 3, none⟩ = some z3 := (hbk.cell 3).trans rfl
                have f3 := hbk.frozen 3
                go_simp
                refine hK undef _ (((((Chg.refl _ _ _).set hbk hB 0 _).set (hbk.set_ 0 _) hB 1 _).set ((hbk.set_ 0 _).set_ 1 _) hB 2 _).set (((hbk.set_ 0 _).set_ 1 _).set_ 2 _) hB 3 _) (fun s hs he => ?_)
                simp only [List.mem_cons, List.not_mem_nil, or_false] at hs
                rcases hs with rfl | rfl
                · exact absurd (show (14 : Nat) = 15 from he) (by decide)
                · exact ⟨b, exb, hB, ((((hbk.set_ 0 _).set_ 1 _).set_ 2 _).set_ 3 _)⟩
              refine allStep_cons (stepS_plain hGk hSk hBB hJk (by kernel_rfl) rfl ?_) ?_
              · intro a u hb hz hj hl hp K Q hK
                have e81 : a.tmps[81]?.getD undef = .bool bo := gd (hl 81 (by kernel_rfl))
                go_simp
                exact hK _ _ (Below.refl _ _) (by intro d hd; cases hd; exact rfl)
              exact allStep_nil
            intro xT w7 hb hz hj hL hSt
            have fx18 : xT 18 = .bool bo := hL _ (List.mem_of_getElem? (i := 14) rfl)
            obtain ⟨bk_2, A_g, c_g, fx16, lo2, hk2, o_g⟩ : StoR w6.heap.size 39 9 1 5 (pn.flatMap fun x : ByteArray => [Value.string x]) (fun A c => [.slice A 5 c]) w7 (xT 16) := hSt _ (List.mem_of_getElem? (i := 0) rfl)
            obtain ⟨bk_3, fx17, lo3, hk3⟩ : StoP w6.heap.size 69 [.int .i64 base, .int .i64 size, .int .i64 tail, .int .i64 tn] w7 (xT 17) := hSt _ (List.mem_of_getElem? (i := 1) rfl)
            simp only [List.map, putAll, fx18, fx16, fx17]
            have bl2 := hk2.lt
            have bx2_0 : w7.cell? ⟨bk_2, 0, none⟩ = some (.slice A_g 5 c_g) := (hk2.cell 0).trans rfl
            have bl3 := hk3.lt
            have bx3_0 : w7.cell? ⟨bk_3, 0, none⟩ = some (.int .i64 base) := (hk3.cell 0).trans rfl
            have bx3_1 : w7.cell? ⟨bk_3, 1, none⟩ = some (.int .i64 size) := (hk3.cell 1).trans rfl
            have bx3_2 : w7.cell? ⟨bk_3, 2, none⟩ = some (.int .i64 tail) := (hk3.cell 2).trans rfl
            have bx3_3 : w7.cell? ⟨bk_3, 3, none⟩ = some (.int .i64 tn) := (hk3.cell 3).trans rfl
            have k7 : Below w.heap.size w w7 := ext_step k6 (by omega) hb
            have p7 := hb.size
            replace kr := ext_step kr kr.size hb
            replace hk0 := hk0.ext hb
            replace hk1 := hk1.ext hb
            replace bx0_0 := ccell hb _ _ _ bx0_0
            replace bx1_0 := ccell hb _ _ _ bx1_0
            replace bx1_1 := ccell hb _ _ _ bx1_1
            replace bx1_2 := ccell hb _ _ _ bx1_2
            replace bx1_3 := ccell hb _ _ _ bx1_3
            replace e0 := ccell hb _ _ _ e0
            have bl0 := Nat.lt_of_lt_of_le bl0 hb.size
            have bl1 := Nat.lt_of_lt_of_le bl1 hb.size
            replace r_m := r_m.below (hb.mono (by omega))
            replace r_e := r_e.below (hb.mono (by omega))
            replace r_q := r_q.below (hb.mono (by omega))
            replace o_q := own_ext o_q hb
            have nb_g_2 := own_ty o_g hk2 (by decide)
            have nb_g_3 := own_ty o_g hk3 (by decide)
            have r_g := Reads.of_own o_g
            have u_g := fun k hk => (o_g.lt k hk).2
            clear hL hSt hb hz fx18 fx16 fx17 hk2 hk3
            cases bo
            · go_wp2_with fail
              go_meet
              have hkS : k = kS := by
                rcases Nat.lt_or_ge k kS with h | h
                · have h9 := paG_pre (List.take kS es) (by rw [List.getElem?_take_of_lt h]; exact HX.out) (by rw [List.take_take, Nat.min_eq_left (by omega)]; exact HK.out) HKS.out
                  rw [HB.out] at h9; cases h9
                · omega
              subst hkS
              exact ⟨p, t, A4, c4, rfl, HK, hk0, hk1, o_q, kr⟩
            · skip
              have P0 := (((((hk0.set_ 0 (.slice A_g 5 c_g)).far' (p := ⟨w1.heap.size + 1, 0, none⟩) (by show w1.heap.size + 1 ≠ w1.heap.size; omega) (.int .i64 base)).far' (p := ⟨w1.heap.size + 1, 1, none⟩) (by show w1.heap.size + 1 ≠ w1.heap.size; omega) (.int .i64 size)).far' (p := ⟨w1.heap.size + 1, 2, none⟩) (by show w1.heap.size + 1 ≠ w1.heap.size; omega) (.int .i64 tail)).far' (p := ⟨w1.heap.size + 1, 3, none⟩) (by show w1.heap.size + 1 ≠ w1.heap.size; omega) (.int .i64 tn))
              have P1 := (((((hk1.far' (p := ⟨w1.heap.size, 0, none⟩) (by show w1.heap.size ≠ w1.heap.size + 1; omega) (.slice A_g 5 c_g)).set_ 0 (.int .i64 base)).set_ 1 (.int .i64 size)).set_ 2 (.int .i64 tail)).set_ 3 (.int .i64 tn))
              have o_g := own_base o_g (base' := w.heap.size) (by omega)
              have P7 := (own_set_ne (p := ⟨w1.heap.size + 1, 3, none⟩) (own_set_ne (p := ⟨w1.heap.size + 1, 2, none⟩) (own_set_ne (p := ⟨w1.heap.size + 1, 1, none⟩) (own_set_ne (p := ⟨w1.heap.size + 1, 0, none⟩) (own_set_ne (p := ⟨w1.heap.size, 0, none⟩) o_g (fun e => own_ty o_g hk0 (by decide) _ e rfl) (.slice A_g 5 c_g)) (fun e => own_ty o_g hk1 (by decide) _ e rfl) (.int .i64 base)) (fun e => own_ty o_g hk1 (by decide) _ e rfl) (.int .i64 size)) (fun e => own_ty o_g hk1 (by decide) _ e rfl) (.int .i64 tail)) (fun e => own_ty o_g hk1 (by decide) _ e rfl) (.int .i64 tn))
              have P8 := (((((kr.setCell (p := ⟨w1.heap.size, 0, none⟩) (by show w1.heap.size ≤ w1.heap.size; omega) (.slice A_g 5 c_g)).setCell (p := ⟨w1.heap.size + 1, 0, none⟩) (by show w1.heap.size ≤ w1.heap.size + 1; omega) (.int .i64 base)).setCell (p := ⟨w1.heap.size + 1, 1, none⟩) (by show w1.heap.size ≤ w1.heap.size + 1; omega) (.int .i64 size)).setCell (p := ⟨w1.heap.size + 1, 2, none⟩) (by show w1.heap.size ≤ w1.heap.size + 1; omega) (.int .i64 tail)).setCell (p := ⟨w1.heap.size + 1, 3, none⟩) (by show w1.heap.size ≤ w1.heap.size + 1; omega) (.int .i64 tn))
              have fz0_0 := hk0.frozen 0
              have fz1_0 := hk1.frozen 0
              have fz1_1 := hk1.frozen 1
              have fz1_2 := hk1.frozen 2
              have fz1_3 := hk1.frozen 3
              have HN := Lib.hid (paG_next (l := ml) (d := 0) (base := base) (size := size) (head := tail) (t0 := tail) (pg := pg) HX.out)
              go_wp2
              go_roundw
              case rel => exact ⟨k + 1, pn, tn, A_g, c_g, by go_num, by go_num, (by
                  rcases Nat.lt_or_ge k kS with h | h
                  · omega
                  · exfalso
                    have hkS : k = kS := by omega
                    subst hkS
                    have h9 := HKS.out
                    rw [HK.out] at h9; injection h9 with h9; injection h9 with h91 h92
                    have h10 := HEND.out x HX.out
                    rw [← h91, ← h92, HB.out] at h10; cases h10), Lib.hid (by rw [HN.out, HK.out]; simp only [Option.bind_some]; rw [if_pos HB.out, HPN.out, HT.out]), P0, P1, P7, P8⟩
              case measure => simp [intOf]; omega
          · have i1 : ¬ (k : Int) < (je : Int) := by omega
            go_wp2_with fail
            go_meet
            have hkS : k = kS := by omega
            subst hkS
            exact ⟨p, t, A4, c4, rfl, HK, hk0, hk1, o_q, kr⟩
      case rest =>
        obtain ⟨p, t, A4, c4, rfl, HK, b0, b1, o4, kr⟩ := hcut
        clear r_m r_e
        try clear hk0 hk1 bl0 bl1
        try clear bx0_0 bx1_0 bx1_1 bx1_2 bx1_3
        generalize hW0 : wc = w6 at *
        clear hW0
        have k6 : Below w.heap.size w w6 := ext_step k1 (by omega) kr
        have p6 := kr.size
        have hk0 := b0
        have bl0 := hk0.lt
        have bx0_0 : w6.cell? ⟨w1.heap.size, 0, none⟩ = some (.slice A4 5 c4) := (hk0.cell 0).trans rfl
        have hk1 := b1
        have bl1 := hk1.lt
        have bx1_0 : w6.cell? ⟨w1.heap.size + 1, 0, none⟩ = some (.int .i64 base) := (hk1.cell 0).trans rfl
        have bx1_1 : w6.cell? ⟨w1.heap.size + 1, 1, none⟩ = some (.int .i64 size) := (hk1.cell 1).trans rfl
        have bx1_2 : w6.cell? ⟨w1.heap.size + 1, 2, none⟩ = some (.int .i64 tail) := (hk1.cell 2).trans rfl
        have bx1_3 : w6.cell? ⟨w1.heap.size + 1, 3, none⟩ = some (.int .i64 t) := (hk1.cell 3).trans rfl
        have r_m := (rd_m.below kr).more kr.size
        have r_e := (rd_e.below kr).more kr.size
        have o_q := o4
        have r_q := Reads.of_own o_q
        have u_q := fun k hk => (o_q.lt k hk).2
        clear b0 b1 o4
        obtain ⟨i1, i2, i3, i4, i5, i6, i7⟩ := hring0 kS p t hkS2 HK.out
        have I7 := Lib.hid i7
        clear i7
        have HP5 := Lib.hid i2
        clear i2
        have tb : 0 ≤ t ∧ t ≤ 31 := by have := Int.emod_nonneg (tail + (kS : Int)) (show 2 * size ≠ 0 by omega); have := Int.emod_lt_of_pos (tail + (kS : Int)) (show 0 < 2 * size by omega); exact ⟨by omega, by omega⟩
        have ht2 : I64 t := ⟨by omega, by omega⟩
        have HT := Lib.hid i3
        clear i3
        have hru : ∀ w9, Calls Try.prog 55 #[.agg #[.int .i64 base, .int .i64 size, .int .i64 tail, .int .i64 t]] w9 (fun e w' => e = .returned (.int .i64 (kS : Int)) ∧ Below w9.heap.size w9 w') := fun w9 => by have h9 := implRingUsed_c base size tail t w9 ht ht2; rw [i5] at h9; exact h9
        have hrf : ∀ w9, Calls Try.prog 56 #[.agg #[.int .i64 base, .int .i64 size, .int .i64 tail, .int .i64 t]] w9 (fun e w' => e = .returned (.int .i64 (size - (kS : Int))) ∧ Below w9.heap.size w9 w') := fun w9 => by have h9 := implRingFree_c base size tail t w9 ht ht2; rw [freeI, if_pos i4, i5] at h9; exact h9
        have hro : ∀ w9, Calls Try.prog 57 #[.agg #[.int .i64 base, .int .i64 size, .int .i64 tail, .int .i64 t]] w9 (fun e w' => e = .returned (.bool true) ∧ Below w9.heap.size w9 w') := fun w9 => by have h9 := implRingOk_c base size tail t w9 ht ht2; rw [i4] at h9; exact h9
        have ew : IntKind.i64.wrap (size - (kS : Int)) = size - (kS : Int) := IntWalk.i64_in _ ⟨by omega, by omega⟩
        clear i5
        go_wp2_with fail
        have hxt := fun t : Ext w6 => (And.intro (t.cell bx1_0) (And.intro (t.cell bx1_1) (And.intro (t.cell bx1_2) (t.cell bx1_3))))
        refine wp_region_ext_lit (by kernel_rfl) (by kernel_rfl) ?_
        repeat (go_big_quiet_step (first | (go_at_call 55; exact ext_call (hru _)) | (go_at_call 56; exact ext_call (hrf _)) | (go_at_call 57; exact ext_call (hro _))))
        refine wpQuiet_nil ?_
        intro _ hw'
        obtain ⟨tq, hw''⟩ := hw'
        subst hw''
        have hb := tq.below
        generalize hW0 : tq.wd = w7 at *
        clear hW0 hxt
        have k7 : Below w.heap.size w w7 := ext_step k6 (by omega) hb
        have p7 := hb.size
        replace kr := ext_step kr kr.size hb
        replace hk0 := hk0.ext hb
        replace hk1 := hk1.ext hb
        replace bx0_0 := ccell hb _ _ _ bx0_0
        replace bx1_0 := ccell hb _ _ _ bx1_0
        replace bx1_1 := ccell hb _ _ _ bx1_1
        replace bx1_2 := ccell hb _ _ _ bx1_2
        replace bx1_3 := ccell hb _ _ _ bx1_3
        have bl0 := Nat.lt_of_lt_of_le bl0 hb.size
        have bl1 := Nat.lt_of_lt_of_le bl1 hb.size
        replace r_m := r_m.below (hb.mono (by omega))
        replace r_e := r_e.below (hb.mono (by omega))
        replace r_q := r_q.below (hb.mono (by omega))
        replace o_q := own_ext o_q hb
        clear hb
        clear hru hrf hro ew
        have e0_ : (tail + ((0 : Nat) : Int)) % (2 * size) = tail := by rcases rs with rfl | rfl | rfl <;> omega
        go_wp2_with fail
        go_loopw [19] (fun i wr => ∃ (k : Nat), i = .int .i64 (k : Int) ∧ k ≤ kS ∧ Blk wr (w1.heap.size) 39 [.slice A4 5 c4] ∧ Blk wr (w1.heap.size + 1) 69 [.int .i64 base, .int .i64 size, .int .i64 ((tail + (k : Int)) % (2 * size)), .int .i64 t] ∧ wr.ownsRow w.heap.size 9 1 (.slice A4 5 c4) 5 (p.flatMap fun x : ByteArray => [Value.string x]) ∧ Below w1.heap.size w1 wr) (fun i _ => kS - (intOf i).toNat)
        case atStart => exact ⟨0, rfl, Nat.zero_le _, hk0, by rw [e0_]; exact hk1, own_base o_q (by omega), kr⟩
        case round =>
          obtain ⟨k, rfl, hk, b0, b1, o4, kr⟩ := hrel
          clear hk0 hk1 bx0_0 bx1_0 bx1_1 bx1_2 bx1_3 bl0 bl1 o_q r_q u_q r_m r_e
          generalize hW0 : wr = w8 at *
          clear hW0
          have k8 : Below w.heap.size w w8 := ext_step k1 (by omega) kr
          have p8 := kr.size
          have hk0 := b0
          have bl0 := hk0.lt
          have bx0_0 : w8.cell? ⟨w1.heap.size, 0, none⟩ = some (.slice A4 5 c4) := (hk0.cell 0).trans rfl
          have hk1 := b1
          have bl1 := hk1.lt
          have bx1_0 : w8.cell? ⟨w1.heap.size + 1, 0, none⟩ = some (.int .i64 base) := (hk1.cell 0).trans rfl
          have bx1_1 : w8.cell? ⟨w1.heap.size + 1, 1, none⟩ = some (.int .i64 size) := (hk1.cell 1).trans rfl
          have bx1_2 : w8.cell? ⟨w1.heap.size + 1, 2, none⟩ = some (.int .i64 ((tail + (k : Int)) % (2 * size))) := (hk1.cell 2).trans rfl
          have bx1_3 : w8.cell? ⟨w1.heap.size + 1, 3, none⟩ = some (.int .i64 t) := (hk1.cell 3).trans rfl
          have r_m := (rd_m.below kr).more kr.size
          have r_e := (rd_e.below kr).more kr.size
          have o_q := o4
          have r_q := Reads.of_own o_q
          have u_q := fun k hk => (o_q.lt k hk).2
          clear b0 b1 o4
          have hb0 := Int.emod_nonneg (tail + (k : Int)) (show 2 * size ≠ 0 by omega)
          have hb1 := Int.emod_lt_of_pos (tail + (k : Int)) (show 0 < 2 * size by omega)
          have hh2 : I64 ((tail + (k : Int)) % (2 * size)) := ⟨by omega, by omega⟩
          by_cases hlt : k < kS
          · obtain ⟨b, o, x, hAe, hbb, hx, hcc⟩ := r_e.el (fun _ => rfl) (by decide) HE.out (show k < je by omega)
            have e0 : w8.cell? ⟨b, o + k, none⟩ = some (.string x) := by simpa using hcc 0 _ rfl
            have i1_ : (k : Int) < (kS : Int) := by omega
            have i1j : (k : Int) < (je : Int) := by omega
            obtain ⟨t1, t2, t3⟩ := ring_take (k := k) HW.out HM.out i1 HP5.out rb0 rb1 rs rt0 HT.out i6 hlt (I7.out k hlt x hx)
            clear hcc hx
            subst hAe
            have hRT : ∀ w9, Reads w9 w9.heap.size 4 A_m 5 (ml.flatMap Mapping.cells) → Reads w9 w9.heap.size 1 A4 5 (p.flatMap fun x : ByteArray => [Value.string x]) → Calls Try.prog 58 #[.slice A_m 5 c_m, .agg #[.slice A4 5 c4], .int .i64 0, .agg #[.int .i64 base, .int .i64 size, .int .i64 ((tail + (k : Int)) % (2 * size)), .int .i64 t]] w9 (fun e w' => e = .returned (.tuple #[.string x, .agg #[.int .i64 base, .int .i64 size, .int .i64 ((tail + ((k + 1 : Nat) : Int)) % (2 * size)), .int .i64 t], .bool true]) ∧ Below w9.heap.size w9 w') := fun w9 h1 h2 => by
              have h9 := implRingTake_c A_m A4 5 c_m 5 c4 ml p w9 HM.out HP5.out (by omega) (by omega) h1 h2 0 base size ((tail + (k : Int)) % (2 * size)) t hh2 ht2
              rw [t1, t2, t3] at h9
              exact h9
            generalize hNX : ((tail + ((k + 1 : Nat) : Int)) % (2 * size)) = hn at *
            clear t1 t2 t3
            go_wp2_with fail
            refine (hRT _ (r_m.more (by omega)) (r_q.more (by omega))).mono ?_
            rintro e w9 ⟨rfl, hb⟩
            have k9 : Below w.heap.size w w9 := ext_step k8 (by omega) hb
            have p9 := hb.size
            replace kr := ext_step kr kr.size hb
            replace hk0 := hk0.ext hb
            replace hk1 := hk1.ext hb
            replace bx0_0 := ccell hb _ _ _ bx0_0
            replace bx1_0 := ccell hb _ _ _ bx1_0
            replace bx1_1 := ccell hb _ _ _ bx1_1
            replace bx1_2 := ccell hb _ _ _ bx1_2
            replace bx1_3 := ccell hb _ _ _ bx1_3
            replace e0 := ccell hb _ _ _ e0
            have bl0 := Nat.lt_of_lt_of_le bl0 hb.size
            have bl1 := Nat.lt_of_lt_of_le bl1 hb.size
            replace r_m := r_m.below (hb.mono (by omega))
            replace r_e := r_e.below (hb.mono (by omega))
            replace r_q := r_q.below (hb.mono (by omega))
            replace o_q := own_ext o_q hb
            clear hb
            have fz1_0 := hk1.frozen 0
            have fz1_1 := hk1.frozen 1
            have fz1_2 := hk1.frozen 2
            have fz1_3 := hk1.frozen 3
            have hbw : b < w9.heap.size := by omega
            have O1 := (own_base o_q (base' := w.heap.size) (by omega))
            have P0 := ((((hk0.far' (p := ⟨w1.heap.size + 1, 0, none⟩) (by show w1.heap.size + 1 ≠ w1.heap.size; omega) (.int .i64 base)).far' (p := ⟨w1.heap.size + 1, 1, none⟩) (by show w1.heap.size + 1 ≠ w1.heap.size; omega) (.int .i64 size)).far' (p := ⟨w1.heap.size + 1, 2, none⟩) (by show w1.heap.size + 1 ≠ w1.heap.size; omega) (.int .i64 hn)).far' (p := ⟨w1.heap.size + 1, 3, none⟩) (by show w1.heap.size + 1 ≠ w1.heap.size; omega) (.int .i64 t)).alloc (.cells #[.int .i64 base, .int .i64 size, .int .i64 hn, .int .i64 t] 69)
            have P1 := ((((hk1.set_ 0 (.int .i64 base)).set_ 1 (.int .i64 size)).set_ 2 (.int .i64 hn)).set_ 3 (.int .i64 t)).alloc (.cells #[.int .i64 base, .int .i64 size, .int .i64 hn, .int .i64 t] 69)
            have P7 := (own_set_ne (p := ⟨w1.heap.size + 1, 3, none⟩) (own_set_ne (p := ⟨w1.heap.size + 1, 2, none⟩) (own_set_ne (p := ⟨w1.heap.size + 1, 1, none⟩) (own_set_ne (p := ⟨w1.heap.size + 1, 0, none⟩) O1 (fun e => own_ty o_q hk1 (by decide) _ e rfl) (.int .i64 base)) (fun e => own_ty o_q hk1 (by decide) _ e rfl) (.int .i64 size)) (fun e => own_ty o_q hk1 (by decide) _ e rfl) (.int .i64 hn)) (fun e => own_ty o_q hk1 (by decide) _ e rfl) (.int .i64 t)).alloc (.cells #[.int .i64 base, .int .i64 size, .int .i64 hn, .int .i64 t] 69)
            have P8_ := ((((kr.setCell (p := ⟨w1.heap.size + 1, 0, none⟩) (by show w1.heap.size ≤ w1.heap.size + 1; omega) (.int .i64 base)).setCell (p := ⟨w1.heap.size + 1, 1, none⟩) (by show w1.heap.size ≤ w1.heap.size + 1; omega) (.int .i64 size)).setCell (p := ⟨w1.heap.size + 1, 2, none⟩) (by show w1.heap.size ≤ w1.heap.size + 1; omega) (.int .i64 hn)).setCell (p := ⟨w1.heap.size + 1, 3, none⟩) (by show w1.heap.size ≤ w1.heap.size + 1; omega) (.int .i64 t))
            have P8 := ext_step P8_ P8_.size (show Below ((((w9.setCell ⟨w1.heap.size + 1, 0, none⟩ (.int .i64 base)).setCell ⟨w1.heap.size + 1, 1, none⟩ (.int .i64 size)).setCell ⟨w1.heap.size + 1, 2, none⟩ (.int .i64 hn)).setCell ⟨w1.heap.size + 1, 3, none⟩ (.int .i64 t)).heap.size ((((w9.setCell ⟨w1.heap.size + 1, 0, none⟩ (.int .i64 base)).setCell ⟨w1.heap.size + 1, 1, none⟩ (.int .i64 size)).setCell ⟨w1.heap.size + 1, 2, none⟩ (.int .i64 hn)).setCell ⟨w1.heap.size + 1, 3, none⟩ (.int .i64 t)) (((((w9.setCell ⟨w1.heap.size + 1, 0, none⟩ (.int .i64 base)).setCell ⟨w1.heap.size + 1, 1, none⟩ (.int .i64 size)).setCell ⟨w1.heap.size + 1, 2, none⟩ (.int .i64 hn)).setCell ⟨w1.heap.size + 1, 3, none⟩ (.int .i64 t)).alloc (.cells #[.int .i64 base, .int .i64 size, .int .i64 hn, .int .i64 t] 69)) by go_grown)
            go_wp2
            go_roundw
            case rel => exact ⟨k + 1, by go_num, by omega, P0, by rw [hNX]; exact P1, P7, P8⟩
            case measure => simp [intOf]; omega
          · obtain rfl : k = kS := by omega
            have i1_ : ¬ (k : Int) < (k : Int) := by omega
            have hu0 : usedI size t t = 0 := by have hsz : szB size = true := (szB_iff size).2 (by omega); simp [usedI, hsz]
            have hg := ring_empty (ml := ml) (p := p) (base := base) hu0
            have hte : ((tail + (k : Int)) % (2 * size)) = t := HT.out.symm
            have hRT : ∀ w9, Reads w9 w9.heap.size 4 A_m 5 (ml.flatMap Mapping.cells) → Reads w9 w9.heap.size 1 A4 5 (p.flatMap fun x : ByteArray => [Value.string x]) → Calls Try.prog 58 #[.slice A_m 5 c_m, .agg #[.slice A4 5 c4], .int .i64 0, .agg #[.int .i64 base, .int .i64 size, .int .i64 t, .int .i64 t]] w9 (fun e w' => e = .returned (.tuple #[.string ByteArray.empty, .agg #[.int .i64 base, .int .i64 size, .int .i64 t, .int .i64 t], .bool false]) ∧ Below w9.heap.size w9 w') := fun w9 h1 h2 => by
              have h9 := implRingTake_c A_m A4 5 c_m 5 c4 ml p w9 HM.out HP5.out (by omega) (by omega) h1 h2 0 base size t t ht2 ht2
              rw [hg, (take_no hg).1, (take_no hg).2] at h9
              exact h9
            have hru : ∀ w9, Calls Try.prog 55 #[.agg #[.int .i64 base, .int .i64 size, .int .i64 t, .int .i64 t]] w9 (fun e w' => e = .returned (.int .i64 0) ∧ Below w9.heap.size w9 w') := fun w9 => by have h9 := implRingUsed_c base size t t w9 ht2 ht2; rw [hu0] at h9; exact h9
            rw [hte] at bx1_2
            replace hk1 : Blk w8 (w1.heap.size + 1) 69 [.int .i64 base, .int .i64 size, .int .i64 t, .int .i64 t] := by rw [hte] at hk1; exact hk1
            clear hg hu0 hte hb0 hb1 hh2
            go_wp2_with fail
            refine (hRT _ (r_m.more (by omega)) (r_q.more (by omega))).mono ?_
            rintro e w9 ⟨rfl, hb⟩
            have k9 : Below w.heap.size w w9 := ext_step k8 (by omega) hb
            have p9 := hb.size
            replace kr := ext_step kr kr.size hb
            replace hk0 := hk0.ext hb
            replace hk1 := hk1.ext hb
            replace bx0_0 := ccell hb _ _ _ bx0_0
            replace bx1_0 := ccell hb _ _ _ bx1_0
            replace bx1_1 := ccell hb _ _ _ bx1_1
            replace bx1_2 := ccell hb _ _ _ bx1_2
            replace bx1_3 := ccell hb _ _ _ bx1_3
            have bl0 := Nat.lt_of_lt_of_le bl0 hb.size
            have bl1 := Nat.lt_of_lt_of_le bl1 hb.size
            replace r_m := r_m.below (hb.mono (by omega))
            replace r_e := r_e.below (hb.mono (by omega))
            replace r_q := r_q.below (hb.mono (by omega))
            replace o_q := own_ext o_q hb
            clear hb
            go_wp2_with fail
            have hb : Below w9.heap.size w9 (w9.alloc (.cells #[.int .i64 base, .int .i64 size, .int .i64 t, .int .i64 t] 69)) := by go_grown
            have bx2_0 : (w9.alloc (.cells #[.int .i64 base, .int .i64 size, .int .i64 t, .int .i64 t] 69)).cell? ⟨w9.heap.size, 0, none⟩ = some (.int .i64 base) := by simp [go_sem]
            have bx2_1 : (w9.alloc (.cells #[.int .i64 base, .int .i64 size, .int .i64 t, .int .i64 t] 69)).cell? ⟨w9.heap.size, 1, none⟩ = some (.int .i64 size) := by simp [go_sem]
            have bx2_2 : (w9.alloc (.cells #[.int .i64 base, .int .i64 size, .int .i64 t, .int .i64 t] 69)).cell? ⟨w9.heap.size, 2, none⟩ = some (.int .i64 t) := by simp [go_sem]
            have bx2_3 : (w9.alloc (.cells #[.int .i64 base, .int .i64 size, .int .i64 t, .int .i64 t] 69)).cell? ⟨w9.heap.size, 3, none⟩ = some (.int .i64 t) := by simp [go_sem]
            have bl2 : w9.heap.size < (w9.alloc (.cells #[.int .i64 base, .int .i64 size, .int .i64 t, .int .i64 t] 69)).heap.size := by go_size
            generalize hW0 : (w9.alloc (.cells #[.int .i64 base, .int .i64 size, .int .i64 t, .int .i64 t] 69)) = w10 at *
            clear hW0
            have k10 : Below w.heap.size w w10 := ext_step k9 (by omega) hb
            have p10 := hb.size
            replace kr := ext_step kr kr.size hb
            replace hk0 := hk0.ext hb
            replace hk1 := hk1.ext hb
            replace bx0_0 := ccell hb _ _ _ bx0_0
            replace bx1_0 := ccell hb _ _ _ bx1_0
            replace bx1_1 := ccell hb _ _ _ bx1_1
            replace bx1_2 := ccell hb _ _ _ bx1_2
            replace bx1_3 := ccell hb _ _ _ bx1_3
            have bl0 := Nat.lt_of_lt_of_le bl0 hb.size
            have bl1 := Nat.lt_of_lt_of_le bl1 hb.size
            replace r_m := r_m.below (hb.mono (by omega))
            replace r_e := r_e.below (hb.mono (by omega))
            replace r_q := r_q.below (hb.mono (by omega))
            replace o_q := own_ext o_q hb
            skip
            clear hb
            refine (hru _).mono ?_
            rintro e w11 ⟨rfl, hb⟩
            have k11 : Below w.heap.size w w11 := ext_step k10 (by omega) hb
            have p11 := hb.size
            replace kr := ext_step kr kr.size hb
            replace hk0 := hk0.ext hb
            replace hk1 := hk1.ext hb
            replace bx0_0 := ccell hb _ _ _ bx0_0
            replace bx1_0 := ccell hb _ _ _ bx1_0
            replace bx1_1 := ccell hb _ _ _ bx1_1
            replace bx1_2 := ccell hb _ _ _ bx1_2
            replace bx1_3 := ccell hb _ _ _ bx1_3
            replace bx2_0 := ccell hb _ _ _ bx2_0
            replace bx2_1 := ccell hb _ _ _ bx2_1
            replace bx2_2 := ccell hb _ _ _ bx2_2
            replace bx2_3 := ccell hb _ _ _ bx2_3
            have bl0 := Nat.lt_of_lt_of_le bl0 hb.size
            have bl1 := Nat.lt_of_lt_of_le bl1 hb.size
            have bl2 := Nat.lt_of_lt_of_le bl2 hb.size
            replace r_m := r_m.below (hb.mono (by omega))
            replace r_e := r_e.below (hb.mono (by omega))
            replace r_q := r_q.below (hb.mono (by omega))
            replace o_q := own_ext o_q hb
            clear hb
            go_wp2
            go_ret
            exact ⟨rfl, k11⟩
end Go.Proofs.Ytnnlagmgdfhaiaa
