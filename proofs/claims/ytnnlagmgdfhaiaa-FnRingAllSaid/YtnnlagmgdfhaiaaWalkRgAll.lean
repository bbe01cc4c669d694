/- The walk of laws.FnRingAll. -/
import Derived.Test.YtnnlagmgdfhaiaaDrawRng3
import Derived.Test.YtnnlagmgdfhaiaaRingP
import Derived.Test.YtnnlagmgdfhaiaaRingPt
import Derived.Test.YtnnlagmgdfhaiaaPutAllI
import Derived.Test.YtnnlagmgdfhaiaaPutAllS
import Derived.Test.YtnnlagmgdfhaiaaSlotAddr
import Derived.Test.YtnnlagmgdfhaiaaLawAt
namespace Go.Proofs.Ytnnlagmgdfhaiaa
set_option linter.unusedSimpArgs false
set_option linter.unusedVariables false
open Go.RowKit Go.ChangeShapes Go.WideShapes
theorem ring_eql (a b c d : Int) (w : World) : (binOp .eql 69 (.agg #[.int .i64 a, .int .i64 b, .int .i64 c, .int .i64 d]) (.agg #[.int .i64 a, .int .i64 b, .int .i64 c, .int .i64 d])).run Try.prog w = .ok (.bool true) w := by
  have hu := Try.underlying69
  simp [go_sem]
/-- Where all entries go in, each goes in. -/
theorem paG_full {l : List Mapping} {d base size head t0 : Int} {es pg p q : List ByteArray} {t u : Int} {k : Nat} {x : ByteArray} (hx : es[k]? = some x) (h : paG l d base size head es pg t0 = some (q, u)) (hk : paG l d base size head (es.take k) pg t0 = some (p, t)) :
    rputB l p d base size head t x = true ∧ paG l d base size head (es.take (k + 1)) pg t0 = some (rputM l p d base size head t x, rputT l p d base size head t x) := by
  have hs : ∀ (a b r : List ByteArray) (s : Int), paG l d base size head (a ++ b) r s = (paG l d base size head a r s).bind fun z => paG l d base size head b z.1 z.2 := by
    intro a
    induction a with
    | nil => intro b r s; rfl
    | cons e a ih =>
      intro b r s
      rw [List.cons_append, paG, paG]
      split
      · exact ih _ _ _
      · rfl
  have he : es = es.take (k + 1) ++ es.drop (k + 1) := (List.take_append_drop _ _).symm
  have hn := paG_next (l := l) (d := d) (base := base) (size := size) (head := head) (t0 := t0) (pg := pg) hx
  rw [hk] at hn
  simp only [Option.bind_some] at hn
  rw [he, hs, hn] at h
  split at hn
  · rename_i hr; exact ⟨hr, hn⟩
  · rename_i hr
    rw [if_neg hr] at h
    cases h
set_option maxRecDepth 100000 in
set_option maxHeartbeats 4000000 in
theorem fnRingAll_walk (A : Option Addr) (n c : Nat) (l : List Int) (w : World) (hs : SlBytes w A n c l) :
    Calls Try.prog 9 #[.slice A n c] w fun e w' => e = .returned (.bool true) ∧ Below w.heap.size w w' := by
  obtain ⟨⟨hn, hnc, hc, hr⟩, hok⟩ := hs
  have hm : n ≤ 9223372036854775807 := by omega
  by_cases hbig : (1048576 : Int) < n
  · go_enter Try.func9, Try.ntmps9
    go_wp2_with fail
    refine (big_c _ _ _ _).mono ?_
    rintro e wq ⟨rfl, rfl⟩
    go_wp2
    go_ret
    exact ⟨rfl, Below.refl _ _⟩
  · have hm2 : n ≤ 1048576 := by omega
    go_enter Try.func9, Try.ntmps9
    go_wp2_with fail
    refine (big_c _ _ _ _).mono ?_
    rintro e wq ⟨rfl, rfl⟩
    have k0 : Below w.heap.size w w := Below.refl _ _
    have p0 : w.heap.size ≤ w.heap.size := Nat.le_refl _
    have r_u := hr
    have hn_u := hn
    go_wp2_with fail
    refine (drawRing_c A n c l _ hn_u hm2 (r_u.more (by omega)) hok).mono ?_
    rintro e w1 ⟨ml, pg, A_m, c_m, A_p, c_p, base, size, head, tail, es, A_e, c_e, ⟨hn_m, hwl, hpg, hn_p, hrg, hel, hes⟩, rfl, o_m, o_p, o_e, hb⟩
    have k1 : Below w.heap.size w w1 := ext_step k0 (by omega) hb
    have p1 := hb.size
    replace r_u := r_u.below (hb.mono (by omega))
    obtain ⟨je, hn_e⟩ : ∃ j, es.length = j := ⟨_, rfl⟩
    rw [hn_e] at hel o_e ⊢
    have r_m := Reads.of_own o_m
    have u_m := fun k hk => (o_m.lt k hk).2
    have r_p := Reads.of_own o_p
    have u_p := fun k hk => (o_p.lt k hk).2
    have r_e := Reads.of_own o_e
    have u_e := fun k hk => (o_e.lt k hk).2
    clear hb
    have HM := Lib.hid hn_m
    have HP := Lib.hid hn_p
    have HE := Lib.hid hn_e
    have HW := Lib.hid hwl
    clear hn_m hn_p hn_e hwl
    obtain ⟨hrb, rb0, rb1, rs, rh0, rh1, rt0, rt1⟩ := hrg
    have hh : I64 head := ⟨by omega, by omega⟩
    have ht : I64 tail := ⟨by omega, by omega⟩
    have hi3 : ∀ x ∈ es, x.size ≤ 1048576 := fun x hx => by have := hes x hx; omega
    have rd_m := r_m.more (show _ ≤ w1.heap.size by omega)
    have rd_e := r_e.more (show _ ≤ w1.heap.size by omega)
    have rd_u := r_u.more (show _ ≤ w1.heap.size by omega)
    have kd := Below.refl w1.heap.size w1
    go_wp2_with fail
    have hb : Below w1.heap.size w1 ((w1.alloc (.cells #[.slice A_p 5 c_p] 39)).alloc (.cells #[.int .i64 base, .int .i64 size, .int .i64 head, .int .i64 tail] 69)) := by go_grown
    have bx0_0 : ((w1.alloc (.cells #[.slice A_p 5 c_p] 39)).alloc (.cells #[.int .i64 base, .int .i64 size, .int .i64 head, .int .i64 tail] 69)).cell? ⟨w1.heap.size, 0, none⟩ = some (.slice A_p 5 c_p) := by simp [go_sem]
    have bl0 : w1.heap.size < ((w1.alloc (.cells #[.slice A_p 5 c_p] 39)).alloc (.cells #[.int .i64 base, .int .i64 size, .int .i64 head, .int .i64 tail] 69)).heap.size := by go_size
    have bx1_0 : ((w1.alloc (.cells #[.slice A_p 5 c_p] 39)).alloc (.cells #[.int .i64 base, .int .i64 size, .int .i64 head, .int .i64 tail] 69)).cell? ⟨w1.heap.size + 1, 0, none⟩ = some (.int .i64 base) := by simp [go_sem]
    have bx1_1 : ((w1.alloc (.cells #[.slice A_p 5 c_p] 39)).alloc (.cells #[.int .i64 base, .int .i64 size, .int .i64 head, .int .i64 tail] 69)).cell? ⟨w1.heap.size + 1, 1, none⟩ = some (.int .i64 size) := by simp [go_sem]
    have bx1_2 : ((w1.alloc (.cells #[.slice A_p 5 c_p] 39)).alloc (.cells #[.int .i64 base, .int .i64 size, .int .i64 head, .int .i64 tail] 69)).cell? ⟨w1.heap.size + 1, 2, none⟩ = some (.int .i64 head) := by simp [go_sem]
    have bx1_3 : ((w1.alloc (.cells #[.slice A_p 5 c_p] 39)).alloc (.cells #[.int .i64 base, .int .i64 size, .int .i64 head, .int .i64 tail] 69)).cell? ⟨w1.heap.size + 1, 3, none⟩ = some (.int .i64 tail) := by simp [go_sem]
    have bl1 : w1.heap.size + 1 < ((w1.alloc (.cells #[.slice A_p 5 c_p] 39)).alloc (.cells #[.int .i64 base, .int .i64 size, .int .i64 head, .int .i64 tail] 69)).heap.size := by go_size
    have hk0 : Blk ((w1.alloc (.cells #[.slice A_p 5 c_p] 39)).alloc (.cells #[.int .i64 base, .int .i64 size, .int .i64 head, .int .i64 tail] 69)) (w1.heap.size) 39 [.slice A_p 5 c_p] := (Blk.new w1 39 [.slice A_p 5 c_p]).alloc _
    have hk1 : Blk ((w1.alloc (.cells #[.slice A_p 5 c_p] 39)).alloc (.cells #[.int .i64 base, .int .i64 size, .int .i64 head, .int .i64 tail] 69)) (w1.heap.size + 1) 69 [.int .i64 base, .int .i64 size, .int .i64 head, .int .i64 tail] := by simpa using Blk.new (w1.alloc (.cells #[.slice A_p 5 c_p] 39)) 69 [.int .i64 base, .int .i64 size, .int .i64 head, .int .i64 tail]
    generalize hW0 : ((w1.alloc (.cells #[.slice A_p 5 c_p] 39)).alloc (.cells #[.int .i64 base, .int .i64 size, .int .i64 head, .int .i64 tail] 69)) = w2 at *
    clear hW0
    have k2 : Below w.heap.size w w2 := ext_step k1 (by omega) hb
    have p2 := hb.size
    replace kd := ext_step kd kd.size hb
    replace r_u := r_u.below (hb.mono (by omega))
    replace r_m := r_m.below (hb.mono (by omega))
    replace o_m := own_ext o_m hb
    replace r_p := r_p.below (hb.mono (by omega))
    replace o_p := own_ext o_p hb
    replace r_e := r_e.below (hb.mono (by omega))
    replace o_e := own_ext o_e hb
    clear hb
    refine (specRingPutAll_c A_m A_p A_e 5 c_m 5 c_p je c_e ml pg es _ HM.out HP.out HE.out (by omega) (by omega) (by omega) (r_m.more (by omega)) (r_p.more (by omega)) (r_e.more (by omega)) 0 base size head tail hh ht hi3).mono ?_
    rintro e w3 ⟨A_z, c_z, rfl, o_z, hb⟩
    have k3 : Below w.heap.size w w3 := ext_step k2 (by omega) hb
    have p3 := hb.size
    replace kd := ext_step kd kd.size hb
    replace hk0 := hk0.ext hb
    replace hk1 := hk1.ext hb
    replace bx0_0 := ccell hb _ _ _ bx0_0
    replace bx1_0 := ccell hb _ _ _ bx1_0
    replace bx1_1 := ccell hb _ _ _ bx1_1
    replace bx1_2 := ccell hb _ _ _ bx1_2
    replace bx1_3 := ccell hb _ _ _ bx1_3
    have bl0 := Nat.lt_of_lt_of_le bl0 hb.size
    have bl1 := Nat.lt_of_lt_of_le bl1 hb.size
    replace r_u := r_u.below (hb.mono (by omega))
    replace r_m := r_m.below (hb.mono (by omega))
    replace o_m := own_ext o_m hb
    replace r_p := r_p.below (hb.mono (by omega))
    replace o_p := own_ext o_p hb
    replace r_e := r_e.below (hb.mono (by omega))
    replace o_e := own_ext o_e hb
    have r_z := Reads.of_own o_z
    have u_z := fun k hk => (o_z.lt k hk).2
    clear hb
    go_wp2_with fail
    have hb : Below w3.heap.size w3 ((w3.alloc (.cells #[.slice A_z 5 c_z] 39)).alloc (.cells #[.int .i64 base, .int .i64 size, .int .i64 head, .int .i64 (paT ml pg 0 base size head tail es)] 69)) := by go_grown
    have bx2_0 : ((w3.alloc (.cells #[.slice A_z 5 c_z] 39)).alloc (.cells #[.int .i64 base, .int .i64 size, .int .i64 head, .int .i64 (paT ml pg 0 base size head tail es)] 69)).cell? ⟨w3.heap.size, 0, none⟩ = some (.slice A_z 5 c_z) := by simp [go_sem]
    have bl2 : w3.heap.size < ((w3.alloc (.cells #[.slice A_z 5 c_z] 39)).alloc (.cells #[.int .i64 base, .int .i64 size, .int .i64 head, .int .i64 (paT ml pg 0 base size head tail es)] 69)).heap.size := by go_size
    have bx3_0 : ((w3.alloc (.cells #[.slice A_z 5 c_z] 39)).alloc (.cells #[.int .i64 base, .int .i64 size, .int .i64 head, .int .i64 (paT ml pg 0 base size head tail es)] 69)).cell? ⟨w3.heap.size + 1, 0, none⟩ = some (.int .i64 base) := by simp [go_sem]
    have bx3_1 : ((w3.alloc (.cells #[.slice A_z 5 c_z] 39)).alloc (.cells #[.int .i64 base, .int .i64 size, .int .i64 head, .int .i64 (paT ml pg 0 base size head tail es)] 69)).cell? ⟨w3.heap.size + 1, 1, none⟩ = some (.int .i64 size) := by simp [go_sem]
    have bx3_2 : ((w3.alloc (.cells #[.slice A_z 5 c_z] 39)).alloc (.cells #[.int .i64 base, .int .i64 size, .int .i64 head, .int .i64 (paT ml pg 0 base size head tail es)] 69)).cell? ⟨w3.heap.size + 1, 2, none⟩ = some (.int .i64 head) := by simp [go_sem]
    have bx3_3 : ((w3.alloc (.cells #[.slice A_z 5 c_z] 39)).alloc (.cells #[.int .i64 base, .int .i64 size, .int .i64 head, .int .i64 (paT ml pg 0 base size head tail es)] 69)).cell? ⟨w3.heap.size + 1, 3, none⟩ = some (.int .i64 (paT ml pg 0 base size head tail es)) := by simp [go_sem]
    have bl3 : w3.heap.size + 1 < ((w3.alloc (.cells #[.slice A_z 5 c_z] 39)).alloc (.cells #[.int .i64 base, .int .i64 size, .int .i64 head, .int .i64 (paT ml pg 0 base size head tail es)] 69)).heap.size := by go_size
    have hk2 : Blk ((w3.alloc (.cells #[.slice A_z 5 c_z] 39)).alloc (.cells #[.int .i64 base, .int .i64 size, .int .i64 head, .int .i64 (paT ml pg 0 base size head tail es)] 69)) (w3.heap.size) 39 [.slice A_z 5 c_z] := (Blk.new w3 39 [.slice A_z 5 c_z]).alloc _
    have hk3 : Blk ((w3.alloc (.cells #[.slice A_z 5 c_z] 39)).alloc (.cells #[.int .i64 base, .int .i64 size, .int .i64 head, .int .i64 (paT ml pg 0 base size head tail es)] 69)) (w3.heap.size + 1) 69 [.int .i64 base, .int .i64 size, .int .i64 head, .int .i64 (paT ml pg 0 base size head tail es)] := by simpa using Blk.new (w3.alloc (.cells #[.slice A_z 5 c_z] 39)) 69 [.int .i64 base, .int .i64 size, .int .i64 head, .int .i64 (paT ml pg 0 base size head tail es)]
    generalize hW0 : ((w3.alloc (.cells #[.slice A_z 5 c_z] 39)).alloc (.cells #[.int .i64 base, .int .i64 size, .int .i64 head, .int .i64 (paT ml pg 0 base size head tail es)] 69)) = w4 at *
    clear hW0
    have k4 : Below w.heap.size w w4 := ext_step k3 (by omega) hb
    have p4 := hb.size
    replace kd := ext_step kd kd.size hb
    replace hk0 := hk0.ext hb
    replace hk1 := hk1.ext hb
    replace bx0_0 := ccell hb _ _ _ bx0_0
    replace bx1_0 := ccell hb _ _ _ bx1_0
    replace bx1_1 := ccell hb _ _ _ bx1_1
    replace bx1_2 := ccell hb _ _ _ bx1_2
    replace bx1_3 := ccell hb _ _ _ bx1_3
    have bl0 := Nat.lt_of_lt_of_le bl0 hb.size
    have bl1 := Nat.lt_of_lt_of_le bl1 hb.size
    replace r_u := r_u.below (hb.mono (by omega))
    replace r_m := r_m.below (hb.mono (by omega))
    replace o_m := own_ext o_m hb
    replace r_p := r_p.below (hb.mono (by omega))
    replace o_p := own_ext o_p hb
    replace r_e := r_e.below (hb.mono (by omega))
    replace o_e := own_ext o_e hb
    replace r_z := r_z.below (hb.mono (by omega))
    replace o_z := own_ext o_z hb
    clear hb
    refine (implRingPutAll_c A_m A_p A_e 5 c_m 5 c_p je c_e ml pg es _ HM.out HP.out HE.out (by omega) (by omega) (by omega) (r_m.more (by omega)) (r_p.more (by omega)) (r_e.more (by omega)) 0 base size head tail hh ht hi3).mono ?_
    rintro e w5 ⟨A_x, c_x, rfl, o_x, hb⟩
    have k5 : Below w.heap.size w w5 := ext_step k4 (by omega) hb
    have p5 := hb.size
    replace kd := ext_step kd kd.size hb
    replace hk0 := hk0.ext hb
    replace hk1 := hk1.ext hb
    replace hk2 := hk2.ext hb
    replace hk3 := hk3.ext hb
    replace bx0_0 := ccell hb _ _ _ bx0_0
    replace bx1_0 := ccell hb _ _ _ bx1_0
    replace bx1_1 := ccell hb _ _ _ bx1_1
    replace bx1_2 := ccell hb _ _ _ bx1_2
    replace bx1_3 := ccell hb _ _ _ bx1_3
    replace bx2_0 := ccell hb _ _ _ bx2_0
    replace bx3_0 := ccell hb _ _ _ bx3_0
    replace bx3_1 := ccell hb _ _ _ bx3_1
    replace bx3_2 := ccell hb _ _ _ bx3_2
    replace bx3_3 := ccell hb _ _ _ bx3_3
    have bl0 := Nat.lt_of_lt_of_le bl0 hb.size
    have bl1 := Nat.lt_of_lt_of_le bl1 hb.size
    have bl2 := Nat.lt_of_lt_of_le bl2 hb.size
    have bl3 := Nat.lt_of_lt_of_le bl3 hb.size
    replace r_u := r_u.below (hb.mono (by omega))
    replace r_m := r_m.below (hb.mono (by omega))
    replace o_m := own_ext o_m hb
    replace r_p := r_p.below (hb.mono (by omega))
    replace o_p := own_ext o_p hb
    replace r_e := r_e.below (hb.mono (by omega))
    replace o_e := own_ext o_e hb
    replace r_z := r_z.below (hb.mono (by omega))
    replace o_z := own_ext o_z hb
    have r_x := Reads.of_own o_x
    have u_x := fun k hk => (o_x.lt k hk).2
    clear hb
    have hpa : (paB ml pg 0 base size head tail es = false ∧ paM ml pg 0 base size head tail es = pg ∧ paT ml pg 0 base size head tail es = tail) ∨ (paB ml pg 0 base size head tail es = true ∧ paG ml 0 base size head es pg tail = some (paM ml pg 0 base size head tail es, paT ml pg 0 base size head tail es)) := by
      cases h : paG ml 0 base size head es pg tail with
      | none => exact .inl (pa_none h)
      | some q => obtain ⟨q, u⟩ := q; obtain ⟨h1, h2, h3⟩ := pa_some h; exact .inr ⟨h1, by rw [h2, h3]⟩
    have hql := (paM_len (l := ml) (pg := pg) (d := 0) (base := base) (size := size) (head := head) (tail := tail) (es := es)).trans HP.out
    have HPA := Lib.hid hpa
    clear hpa
    generalize paM ml pg 0 base size head tail es = q at *
    generalize paT ml pg 0 base size head tail es = u at *
    generalize paB ml pg 0 base size head tail es = bo at *
    have HQ := Lib.hid hql
    clear hql
    have hreq := ring_eql
    rcases HPA.out with ⟨h1, h2, h3⟩ | ⟨h1, hpg2⟩
    · subst h1
      subst h2
      subst h3
      go_wp2_with fail
      have hb : Below w5.heap.size w5 ((w5.alloc (.cells #[.slice A_x 5 c_x] 39)).alloc (.cells #[.int .i64 base, .int .i64 size, .int .i64 head, .int .i64 u] 69)) := by go_grown
      have bx4_0 : ((w5.alloc (.cells #[.slice A_x 5 c_x] 39)).alloc (.cells #[.int .i64 base, .int .i64 size, .int .i64 head, .int .i64 u] 69)).cell? ⟨w5.heap.size, 0, none⟩ = some (.slice A_x 5 c_x) := by simp [go_sem]
      have bl4 : w5.heap.size < ((w5.alloc (.cells #[.slice A_x 5 c_x] 39)).alloc (.cells #[.int .i64 base, .int .i64 size, .int .i64 head, .int .i64 u] 69)).heap.size := by go_size
      have bx5_0 : ((w5.alloc (.cells #[.slice A_x 5 c_x] 39)).alloc (.cells #[.int .i64 base, .int .i64 size, .int .i64 head, .int .i64 u] 69)).cell? ⟨w5.heap.size + 1, 0, none⟩ = some (.int .i64 base) := by simp [go_sem]
      have bx5_1 : ((w5.alloc (.cells #[.slice A_x 5 c_x] 39)).alloc (.cells #[.int .i64 base, .int .i64 size, .int .i64 head, .int .i64 u] 69)).cell? ⟨w5.heap.size + 1, 1, none⟩ = some (.int .i64 size) := by simp [go_sem]
      have bx5_2 : ((w5.alloc (.cells #[.slice A_x 5 c_x] 39)).alloc (.cells #[.int .i64 base, .int .i64 size, .int .i64 head, .int .i64 u] 69)).cell? ⟨w5.heap.size + 1, 2, none⟩ = some (.int .i64 head) := by simp [go_sem]
      have bx5_3 : ((w5.alloc (.cells #[.slice A_x 5 c_x] 39)).alloc (.cells #[.int .i64 base, .int .i64 size, .int .i64 head, .int .i64 u] 69)).cell? ⟨w5.heap.size + 1, 3, none⟩ = some (.int .i64 u) := by simp [go_sem]
      have bl5 : w5.heap.size + 1 < ((w5.alloc (.cells #[.slice A_x 5 c_x] 39)).alloc (.cells #[.int .i64 base, .int .i64 size, .int .i64 head, .int .i64 u] 69)).heap.size := by go_size
      have hk4 : Blk ((w5.alloc (.cells #[.slice A_x 5 c_x] 39)).alloc (.cells #[.int .i64 base, .int .i64 size, .int .i64 head, .int .i64 u] 69)) (w5.heap.size) 39 [.slice A_x 5 c_x] := (Blk.new w5 39 [.slice A_x 5 c_x]).alloc _
      have hk5 : Blk ((w5.alloc (.cells #[.slice A_x 5 c_x] 39)).alloc (.cells #[.int .i64 base, .int .i64 size, .int .i64 head, .int .i64 u] 69)) (w5.heap.size + 1) 69 [.int .i64 base, .int .i64 size, .int .i64 head, .int .i64 u] := by simpa using Blk.new (w5.alloc (.cells #[.slice A_x 5 c_x] 39)) 69 [.int .i64 base, .int .i64 size, .int .i64 head, .int .i64 u]
      generalize hW0 : ((w5.alloc (.cells #[.slice A_x 5 c_x] 39)).alloc (.cells #[.int .i64 base, .int .i64 size, .int .i64 head, .int .i64 u] 69)) = w6 at *
      clear hW0
      have k6 : Below w.heap.size w w6 := ext_step k5 (by omega) hb
      have p6 := hb.size
      replace kd := ext_step kd kd.size hb
      replace hk0 := hk0.ext hb
      replace hk1 := hk1.ext hb
      replace hk2 := hk2.ext hb
      replace hk3 := hk3.ext hb
      replace bx0_0 := ccell hb _ _ _ bx0_0
      replace bx1_0 := ccell hb _ _ _ bx1_0
      replace bx1_1 := ccell hb _ _ _ bx1_1
      replace bx1_2 := ccell hb _ _ _ bx1_2
      replace bx1_3 := ccell hb _ _ _ bx1_3
      replace bx2_0 := ccell hb _ _ _ bx2_0
      replace bx3_0 := ccell hb _ _ _ bx3_0
      replace bx3_1 := ccell hb _ _ _ bx3_1
      replace bx3_2 := ccell hb _ _ _ bx3_2
      replace bx3_3 := ccell hb _ _ _ bx3_3
      have bl0 := Nat.lt_of_lt_of_le bl0 hb.size
      have bl1 := Nat.lt_of_lt_of_le bl1 hb.size
      have bl2 := Nat.lt_of_lt_of_le bl2 hb.size
      have bl3 := Nat.lt_of_lt_of_le bl3 hb.size
      replace r_u := r_u.below (hb.mono (by omega))
      replace r_m := r_m.below (hb.mono (by omega))
      replace o_m := own_ext o_m hb
      replace r_p := r_p.below (hb.mono (by omega))
      replace o_p := own_ext o_p hb
      replace r_e := r_e.below (hb.mono (by omega))
      replace o_e := own_ext o_e hb
      replace r_z := r_z.below (hb.mono (by omega))
      replace o_z := own_ext o_z hb
      replace r_x := r_x.below (hb.mono (by omega))
      replace o_x := own_ext o_x hb
      clear hb
      have hcl := chg_self q 5
      have hreq1 := hreq base size head u
      refine (implChangedPages_c A_p A_x 5 5 c_p c_x q q _ HP.out HP.out (by omega) (by omega) (r_p.more (by omega)) (r_x.more (by omega))).mono ?_
      rintro e w7 ⟨A_k, c_k, rfl, o_k, hb⟩
      have k7 : Below w.heap.size w w7 := ext_step k6 (by omega) hb
      have p7 := hb.size
      replace kd := ext_step kd kd.size hb
      replace hk0 := hk0.ext hb
      replace hk1 := hk1.ext hb
      replace hk2 := hk2.ext hb
      replace hk3 := hk3.ext hb
      replace hk4 := hk4.ext hb
      replace hk5 := hk5.ext hb
      replace bx0_0 := ccell hb _ _ _ bx0_0
      replace bx1_0 := ccell hb _ _ _ bx1_0
      replace bx1_1 := ccell hb _ _ _ bx1_1
      replace bx1_2 := ccell hb _ _ _ bx1_2
      replace bx1_3 := ccell hb _ _ _ bx1_3
      replace bx2_0 := ccell hb _ _ _ bx2_0
      replace bx3_0 := ccell hb _ _ _ bx3_0
      replace bx3_1 := ccell hb _ _ _ bx3_1
      replace bx3_2 := ccell hb _ _ _ bx3_2
      replace bx3_3 := ccell hb _ _ _ bx3_3
      replace bx4_0 := ccell hb _ _ _ bx4_0
      replace bx5_0 := ccell hb _ _ _ bx5_0
      replace bx5_1 := ccell hb _ _ _ bx5_1
      replace bx5_2 := ccell hb _ _ _ bx5_2
      replace bx5_3 := ccell hb _ _ _ bx5_3
      have bl0 := Nat.lt_of_lt_of_le bl0 hb.size
      have bl1 := Nat.lt_of_lt_of_le bl1 hb.size
      have bl2 := Nat.lt_of_lt_of_le bl2 hb.size
      have bl3 := Nat.lt_of_lt_of_le bl3 hb.size
      have bl4 := Nat.lt_of_lt_of_le bl4 hb.size
      have bl5 := Nat.lt_of_lt_of_le bl5 hb.size
      replace r_u := r_u.below (hb.mono (by omega))
      replace r_m := r_m.below (hb.mono (by omega))
      replace o_m := own_ext o_m hb
      replace r_p := r_p.below (hb.mono (by omega))
      replace o_p := own_ext o_p hb
      replace r_e := r_e.below (hb.mono (by omega))
      replace o_e := own_ext o_e hb
      replace r_z := r_z.below (hb.mono (by omega))
      replace o_z := own_ext o_z hb
      replace r_x := r_x.below (hb.mono (by omega))
      replace o_x := own_ext o_x hb
      rw [hcl]
      clear hb
      clear o_k
      go_wp2
      go_ret
      exact ⟨rfl, k7⟩
    · subst h1
      go_wp2_with fail
      have hb : Below w5.heap.size w5 ((w5.alloc (.cells #[.slice A_x 5 c_x] 39)).alloc (.cells #[.int .i64 base, .int .i64 size, .int .i64 head, .int .i64 u] 69)) := by go_grown
      have bx4_0 : ((w5.alloc (.cells #[.slice A_x 5 c_x] 39)).alloc (.cells #[.int .i64 base, .int .i64 size, .int .i64 head, .int .i64 u] 69)).cell? ⟨w5.heap.size, 0, none⟩ = some (.slice A_x 5 c_x) := by simp [go_sem]
      have bl4 : w5.heap.size < ((w5.alloc (.cells #[.slice A_x 5 c_x] 39)).alloc (.cells #[.int .i64 base, .int .i64 size, .int .i64 head, .int .i64 u] 69)).heap.size := by go_size
      have bx5_0 : ((w5.alloc (.cells #[.slice A_x 5 c_x] 39)).alloc (.cells #[.int .i64 base, .int .i64 size, .int .i64 head, .int .i64 u] 69)).cell? ⟨w5.heap.size + 1, 0, none⟩ = some (.int .i64 base) := by simp [go_sem]
      have bx5_1 : ((w5.alloc (.cells #[.slice A_x 5 c_x] 39)).alloc (.cells #[.int .i64 base, .int .i64 size, .int .i64 head, .int .i64 u] 69)).cell? ⟨w5.heap.size + 1, 1, none⟩ = some (.int .i64 size) := by simp [go_sem]
      have bx5_2 : ((w5.alloc (.cells #[.slice A_x 5 c_x] 39)).alloc (.cells #[.int .i64 base, .int .i64 size, .int .i64 head, .int .i64 u] 69)).cell? ⟨w5.heap.size + 1, 2, none⟩ = some (.int .i64 head) := by simp [go_sem]
      have bx5_3 : ((w5.alloc (.cells #[.slice A_x 5 c_x] 39)).alloc (.cells #[.int .i64 base, .int .i64 size, .int .i64 head, .int .i64 u] 69)).cell? ⟨w5.heap.size + 1, 3, none⟩ = some (.int .i64 u) := by simp [go_sem]
      have bl5 : w5.heap.size + 1 < ((w5.alloc (.cells #[.slice A_x 5 c_x] 39)).alloc (.cells #[.int .i64 base, .int .i64 size, .int .i64 head, .int .i64 u] 69)).heap.size := by go_size
      have hk4 : Blk ((w5.alloc (.cells #[.slice A_x 5 c_x] 39)).alloc (.cells #[.int .i64 base, .int .i64 size, .int .i64 head, .int .i64 u] 69)) (w5.heap.size) 39 [.slice A_x 5 c_x] := (Blk.new w5 39 [.slice A_x 5 c_x]).alloc _
      have hk5 : Blk ((w5.alloc (.cells #[.slice A_x 5 c_x] 39)).alloc (.cells #[.int .i64 base, .int .i64 size, .int .i64 head, .int .i64 u] 69)) (w5.heap.size + 1) 69 [.int .i64 base, .int .i64 size, .int .i64 head, .int .i64 u] := by simpa using Blk.new (w5.alloc (.cells #[.slice A_x 5 c_x] 39)) 69 [.int .i64 base, .int .i64 size, .int .i64 head, .int .i64 u]
      generalize hW0 : ((w5.alloc (.cells #[.slice A_x 5 c_x] 39)).alloc (.cells #[.int .i64 base, .int .i64 size, .int .i64 head, .int .i64 u] 69)) = w6 at *
      clear hW0
      have k6 : Below w.heap.size w w6 := ext_step k5 (by omega) hb
      have p6 := hb.size
      replace kd := ext_step kd kd.size hb
      replace hk0 := hk0.ext hb
      replace hk1 := hk1.ext hb
      replace hk2 := hk2.ext hb
      replace hk3 := hk3.ext hb
      replace bx0_0 := ccell hb _ _ _ bx0_0
      replace bx1_0 := ccell hb _ _ _ bx1_0
      replace bx1_1 := ccell hb _ _ _ bx1_1
      replace bx1_2 := ccell hb _ _ _ bx1_2
      replace bx1_3 := ccell hb _ _ _ bx1_3
      replace bx2_0 := ccell hb _ _ _ bx2_0
      replace bx3_0 := ccell hb _ _ _ bx3_0
      replace bx3_1 := ccell hb _ _ _ bx3_1
      replace bx3_2 := ccell hb _ _ _ bx3_2
      replace bx3_3 := ccell hb _ _ _ bx3_3
      have bl0 := Nat.lt_of_lt_of_le bl0 hb.size
      have bl1 := Nat.lt_of_lt_of_le bl1 hb.size
      have bl2 := Nat.lt_of_lt_of_le bl2 hb.size
      have bl3 := Nat.lt_of_lt_of_le bl3 hb.size
      replace r_u := r_u.below (hb.mono (by omega))
      replace r_m := r_m.below (hb.mono (by omega))
      replace o_m := own_ext o_m hb
      replace r_p := r_p.below (hb.mono (by omega))
      replace o_p := own_ext o_p hb
      replace r_e := r_e.below (hb.mono (by omega))
      replace o_e := own_ext o_e hb
      replace r_z := r_z.below (hb.mono (by omega))
      replace o_z := own_ext o_z hb
      replace r_x := r_x.below (hb.mono (by omega))
      replace o_x := own_ext o_x hb
      clear hb
      have HG := Lib.hid hpg2
      clear hpg2
      have k9 := k6
      go_wp2_with fail
      go_loopw [13] (fun i wr => ∃ (k : Nat) (p : List ByteArray) (t : Int) (A4 : Option Addr) (c4 : Nat), i = .int .i64 (k : Int) ∧ k ≤ je ∧ Hid (paG ml 0 base size head (es.take k) pg tail = some (p, t)) ∧ Blk wr (w1.heap.size) 39 [.slice A4 5 c4] ∧ Blk wr (w1.heap.size + 1) 69 [.int .i64 base, .int .i64 size, .int .i64 head, .int .i64 t] ∧ Blk wr (w5.heap.size) 39 [.slice A_x 5 c_x] ∧ Blk wr (w5.heap.size + 1) 69 [.int .i64 base, .int .i64 size, .int .i64 head, .int .i64 u] ∧ wr.ownsRow w.heap.size 9 1 (.slice A4 5 c4) 5 (p.flatMap fun x : ByteArray => [Value.string x]) ∧ wr.ownsRow w.heap.size 9 1 (.slice A_x 5 c_x) 5 (q.flatMap fun x : ByteArray => [Value.string x]) ∧ Below w1.heap.size w1 wr) (fun i _ => je - (intOf i).toNat)
      case atStart => exact ⟨0, pg, tail, A_p, c_p, rfl, Nat.zero_le _, Lib.hid (by rw [List.take_zero, paG]), hk0, hk1, hk4, hk5, own_base o_p (by omega), own_base o_x (by omega), kd⟩
      case round =>
        obtain ⟨k, p, t, A4, c4, rfl, hk, HK, b0, b1, b2, b3, o4, o5, kr⟩ := hrel
        clear hk0 hk1 hk2 hk3 hk4 hk5 bx0_0 bx1_0 bx1_1 bx1_2 bx1_3 bx2_0 bx3_0 bx3_1 bx3_2 bx3_3 bx4_0 bx5_0 bx5_1 bx5_2 bx5_3 r_p r_z r_x o_p o_z o_x kd
        have hzr := kr.size
        skip
        have r_mr : Reads wr wr.heap.size 4 A_m 5 (ml.flatMap Mapping.cells) := (rd_m.below kr).more hzr
        have r_er : Reads wr wr.heap.size 1 A_e je (es.flatMap fun x : ByteArray => [Value.string x]) := (rd_e.below kr).more hzr
        have r_ur : Reads wr wr.heap.size 1 A n (l.flatMap fun x : Int => [Value.int .u8 x]) := (rd_u.below kr).more hzr
        have l0 := b0.lt
        have l1 := b1.lt
        have l2 := b2.lt
        have l3 := b3.lt
        have hp5 : p.length = 5 := (paG_len _ _ _ _ _ HK.out).trans HP.out
        have HP5 := Lib.hid hp5
        clear hp5
        have htr := paG_ring _ _ _ _ _ hrb HK.out
        obtain ⟨_, _, _, _, _, _, t0_, t1_, _⟩ := ringB_size htr
        have ht2 : I64 t := ⟨by omega, by omega⟩
        by_cases hlt : k < je
        · obtain ⟨b, o, x, hAe, hbb, hx, hcc⟩ := r_er.el (fun _ => rfl) (by decide) HE.out hlt
          have e0 : wr.drew.cell? ⟨b, o + k, none⟩ = some (.string x) := by simpa using hcc 0 _ rfl
          have hx16 := hes x (List.mem_of_getElem? hx)
          have HN := Lib.hid (paG_next (l := ml) (d := 0) (base := base) (size := size) (head := head) (t0 := tail) (pg := pg) hx)
          have HF := Lib.hid (paG_full hx HG.out HK.out)
          have i1 : (k : Int) < (je : Int) := by omega
          clear hcc hx
          obtain ⟨hput, hnx⟩ := HF.out
          subst hAe
          go_wp2_with fail
          have x0_0 : wr.drew.cell? ⟨w1.heap.size, 0, none⟩ = some (.slice A4 5 c4) := (b0.cell 0).trans rfl
          have x1_0 : wr.drew.cell? ⟨w1.heap.size + 1, 0, none⟩ = some (.int .i64 base) := (b1.cell 0).trans rfl
          have x1_1 : wr.drew.cell? ⟨w1.heap.size + 1, 1, none⟩ = some (.int .i64 size) := (b1.cell 1).trans rfl
          have x1_2 : wr.drew.cell? ⟨w1.heap.size + 1, 2, none⟩ = some (.int .i64 head) := (b1.cell 2).trans rfl
          have x1_3 : wr.drew.cell? ⟨w1.heap.size + 1, 3, none⟩ = some (.int .i64 t) := (b1.cell 3).trans rfl
          have b0 : Blk wr.drew (w1.heap.size) _ _ := b0
          have b1 : Blk wr.drew (w1.heap.size + 1) _ _ := b1
          have b2 : Blk wr.drew (w5.heap.size) _ _ := b2
          have b3 : Blk wr.drew (w5.heap.size + 1) _ _ := b3
          have o4 := own_ext o4 ((Below.refl _ _).drew)
          have o5 := own_ext o5 ((Below.refl _ _).drew)
          have kr : Below w1.heap.size w1 wr.drew := kr.drew
          have hzr : w1.heap.size ≤ wr.drew.heap.size := hzr
          have r_mr : Reads wr.drew wr.drew.heap.size 4 A_m 5 (ml.flatMap Mapping.cells) := r_mr.to ((Below.refl _ _).drew)
          go_region_law (go_simp; first
            | (go_at_call 52; refine (specRingPut_c A_m A4 5 c_m 5 c4 ml p _ HM.out HP5.out (by omega) (by omega) r_mr (Reads.of_own o4) 0 base size head t x hh ht2 (by omega)).mono ?_; rintro e w9 ⟨A5, c5, rfl, o6, hb9⟩; have b0 := b0.ext hb9; have b1 := b1.ext hb9; have b2 := b2.ext hb9; have b3 := b3.ext hb9; have o5 := own_ext o5 hb9; have kr := ext_step kr hzr hb9; have y0_0 := (b0.cell 0).trans rfl; have f0_0 := b0.frozen 0; have y1_0 := (b1.cell 0).trans rfl; have f1_0 := b1.frozen 0; have y1_1 := (b1.cell 1).trans rfl; have f1_1 := b1.frozen 1; have y1_2 := (b1.cell 2).trans rfl; have f1_2 := b1.frozen 2; have y1_3 := (b1.cell 3).trans rfl; have f1_3 := b1.frozen 3))
          all_goals
            have o6 := own_base o6 (base' := w.heap.size) (by omega)
            have P0 := (((((b0.set_ 0 (.slice A5 5 c5)).far' (p := ⟨w1.heap.size + 1, 0, none⟩) (by show w1.heap.size + 1 ≠ w1.heap.size; omega) (.int .i64 base)).far' (p := ⟨w1.heap.size + 1, 1, none⟩) (by show w1.heap.size + 1 ≠ w1.heap.size; omega) (.int .i64 size)).far' (p := ⟨w1.heap.size + 1, 2, none⟩) (by show w1.heap.size + 1 ≠ w1.heap.size; omega) (.int .i64 head)).far' (p := ⟨w1.heap.size + 1, 3, none⟩) (by show w1.heap.size + 1 ≠ w1.heap.size; omega) (.int .i64 (rputT ml p 0 base size head t x)))
            have P1 := (((((b1.far' (p := ⟨w1.heap.size, 0, none⟩) (by show w1.heap.size ≠ w1.heap.size + 1; omega) (.slice A5 5 c5)).set_ 0 (.int .i64 base)).set_ 1 (.int .i64 size)).set_ 2 (.int .i64 head)).set_ 3 (.int .i64 (rputT ml p 0 base size head t x)))
            have P2 := (((((b2.far' (p := ⟨w1.heap.size, 0, none⟩) (by show w1.heap.size ≠ w5.heap.size; omega) (.slice A5 5 c5)).far' (p := ⟨w1.heap.size + 1, 0, none⟩) (by show w1.heap.size + 1 ≠ w5.heap.size; omega) (.int .i64 base)).far' (p := ⟨w1.heap.size + 1, 1, none⟩) (by show w1.heap.size + 1 ≠ w5.heap.size; omega) (.int .i64 size)).far' (p := ⟨w1.heap.size + 1, 2, none⟩) (by show w1.heap.size + 1 ≠ w5.heap.size; omega) (.int .i64 head)).far' (p := ⟨w1.heap.size + 1, 3, none⟩) (by show w1.heap.size + 1 ≠ w5.heap.size; omega) (.int .i64 (rputT ml p 0 base size head t x)))
            have P3 := (((((b3.far' (p := ⟨w1.heap.size, 0, none⟩) (by show w1.heap.size ≠ w5.heap.size + 1; omega) (.slice A5 5 c5)).far' (p := ⟨w1.heap.size + 1, 0, none⟩) (by show w1.heap.size + 1 ≠ w5.heap.size + 1; omega) (.int .i64 base)).far' (p := ⟨w1.heap.size + 1, 1, none⟩) (by show w1.heap.size + 1 ≠ w5.heap.size + 1; omega) (.int .i64 size)).far' (p := ⟨w1.heap.size + 1, 2, none⟩) (by show w1.heap.size + 1 ≠ w5.heap.size + 1; omega) (.int .i64 head)).far' (p := ⟨w1.heap.size + 1, 3, none⟩) (by show w1.heap.size + 1 ≠ w5.heap.size + 1; omega) (.int .i64 (rputT ml p 0 base size head t x)))
            have P4 := (own_set_ne (p := ⟨w1.heap.size + 1, 3, none⟩) (own_set_ne (p := ⟨w1.heap.size + 1, 2, none⟩) (own_set_ne (p := ⟨w1.heap.size + 1, 1, none⟩) (own_set_ne (p := ⟨w1.heap.size + 1, 0, none⟩) (own_set_ne (p := ⟨w1.heap.size, 0, none⟩) o6 (fun e => own_ty o6 b0 (by decide) _ e rfl) (.slice A5 5 c5)) (fun e => own_ty o6 b1 (by decide) _ e rfl) (.int .i64 base)) (fun e => own_ty o6 b1 (by decide) _ e rfl) (.int .i64 size)) (fun e => own_ty o6 b1 (by decide) _ e rfl) (.int .i64 head)) (fun e => own_ty o6 b1 (by decide) _ e rfl) (.int .i64 (rputT ml p 0 base size head t x)))
            have P5 := (own_set_ne (p := ⟨w1.heap.size + 1, 3, none⟩) (own_set_ne (p := ⟨w1.heap.size + 1, 2, none⟩) (own_set_ne (p := ⟨w1.heap.size + 1, 1, none⟩) (own_set_ne (p := ⟨w1.heap.size + 1, 0, none⟩) (own_set_ne (p := ⟨w1.heap.size, 0, none⟩) o5 (fun e => own_ty o5 b0 (by decide) _ e rfl) (.slice A5 5 c5)) (fun e => own_ty o5 b1 (by decide) _ e rfl) (.int .i64 base)) (fun e => own_ty o5 b1 (by decide) _ e rfl) (.int .i64 size)) (fun e => own_ty o5 b1 (by decide) _ e rfl) (.int .i64 head)) (fun e => own_ty o5 b1 (by decide) _ e rfl) (.int .i64 (rputT ml p 0 base size head t x)))
            have P6 := (((((kr.setCell (p := ⟨w1.heap.size, 0, none⟩) (by show w1.heap.size ≤ w1.heap.size; omega) (.slice A5 5 c5)).setCell (p := ⟨w1.heap.size + 1, 0, none⟩) (by show w1.heap.size ≤ w1.heap.size + 1; omega) (.int .i64 base)).setCell (p := ⟨w1.heap.size + 1, 1, none⟩) (by show w1.heap.size ≤ w1.heap.size + 1; omega) (.int .i64 size)).setCell (p := ⟨w1.heap.size + 1, 2, none⟩) (by show w1.heap.size ≤ w1.heap.size + 1; omega) (.int .i64 head)).setCell (p := ⟨w1.heap.size + 1, 3, none⟩) (by show w1.heap.size ≤ w1.heap.size + 1; omega) (.int .i64 (rputT ml p 0 base size head t x)))
            go_wp2
            go_roundw
            case rel => exact ⟨k + 1, rputM ml p 0 base size head t x, rputT ml p 0 base size head t x, A5, c5, by go_num, by omega, Lib.hid hnx, P0, P1, P2, P3, P4, P5, P6⟩
            case measure => simp [intOf]; omega
        · have hkj : k = je := by omega
          subst hkj
          have hall := HK.out
          rw [List.take_of_length_le (by rw [HE.out]; exact Nat.le_refl _)] at hall
          have hG := HG.out
          rw [hall] at hG
          injection hG with hG
          injection hG with hG1 hG2
          subst hG1
          subst hG2
          have i1 : ¬ (k : Int) < (k : Int) := by omega
          clear hall
          have hcl := chg_self p 5
          have hsl := slot0 htr
          have hreq1 := hreq base size head t
          go_wp2_with fail
          have b0 : Blk wr.drew (w1.heap.size) _ _ := b0
          have b1 : Blk wr.drew (w1.heap.size + 1) _ _ := b1
          have b2 : Blk wr.drew (w5.heap.size) _ _ := b2
          have b3 : Blk wr.drew (w5.heap.size + 1) _ _ := b3
          have x0_0 : wr.drew.cell? ⟨w1.heap.size, 0, none⟩ = some (.slice A4 5 c4) := (b0.cell 0).trans rfl
          have x1_0 : wr.drew.cell? ⟨w1.heap.size + 1, 0, none⟩ = some (.int .i64 base) := (b1.cell 0).trans rfl
          have x1_1 : wr.drew.cell? ⟨w1.heap.size + 1, 1, none⟩ = some (.int .i64 size) := (b1.cell 1).trans rfl
          have x1_2 : wr.drew.cell? ⟨w1.heap.size + 1, 2, none⟩ = some (.int .i64 head) := (b1.cell 2).trans rfl
          have x1_3 : wr.drew.cell? ⟨w1.heap.size + 1, 3, none⟩ = some (.int .i64 t) := (b1.cell 3).trans rfl
          have x2_0 : wr.drew.cell? ⟨w5.heap.size, 0, none⟩ = some (.slice A_x 5 c_x) := (b2.cell 0).trans rfl
          have x3_0 : wr.drew.cell? ⟨w5.heap.size + 1, 0, none⟩ = some (.int .i64 base) := (b3.cell 0).trans rfl
          have x3_1 : wr.drew.cell? ⟨w5.heap.size + 1, 1, none⟩ = some (.int .i64 size) := (b3.cell 1).trans rfl
          have x3_2 : wr.drew.cell? ⟨w5.heap.size + 1, 2, none⟩ = some (.int .i64 head) := (b3.cell 2).trans rfl
          have x3_3 : wr.drew.cell? ⟨w5.heap.size + 1, 3, none⟩ = some (.int .i64 t) := (b3.cell 3).trans rfl
          have o4 := own_ext o4 ((Below.refl _ _).drew)
          have o5 := own_ext o5 ((Below.refl _ _).drew)
          have kr : Below w1.heap.size w1 wr.drew := kr.drew
          have hzr : w1.heap.size ≤ wr.drew.heap.size := hzr
          go_region_law (go_simp; first
            | (go_at_call 26; refine (implChangedPages_c A4 A_x 5 5 c4 c_x p p _ HP5.out HP5.out (by omega) (by omega) (Reads.of_own o4) (Reads.of_own o5)).mono ?_; rintro e w9 ⟨A_k, c_k, rfl, o_k, hb9⟩; rw [hcl]; have b0 := b0.ext hb9; have b1 := b1.ext hb9; have b2 := b2.ext hb9; have b3 := b3.ext hb9; have hs9 := hb9.size; have kr := ext_step kr hzr hb9; have hzr := Nat.le_trans hzr hs9; have y0_0 := (b0.cell 0).trans rfl; have y1_0 := (b1.cell 0).trans rfl; have y1_1 := (b1.cell 1).trans rfl; have y1_2 := (b1.cell 2).trans rfl; have y1_3 := (b1.cell 3).trans rfl; have y2_0 := (b2.cell 0).trans rfl; have y3_0 := (b3.cell 0).trans rfl; have y3_1 := (b3.cell 1).trans rfl; have y3_2 := (b3.cell 2).trans rfl; have y3_3 := (b3.cell 3).trans rfl)
            | (go_at_call 53; refine (implSlotAddress_c base size head t 0 _ hh ht2 ⟨by decide, by decide⟩).mono ?_; rintro e w9 ⟨rfl, hb9⟩; rw [hsl]; have b0 := b0.ext hb9; have b1 := b1.ext hb9; have b2 := b2.ext hb9; have b3 := b3.ext hb9; have hs9 := hb9.size; have kr := ext_step kr hzr hb9; have hzr := Nat.le_trans hzr hs9; have y0_0 := (b0.cell 0).trans rfl; have y1_0 := (b1.cell 0).trans rfl; have y1_1 := (b1.cell 1).trans rfl; have y1_2 := (b1.cell 2).trans rfl; have y1_3 := (b1.cell 3).trans rfl; have y2_0 := (b2.cell 0).trans rfl; have y3_0 := (b3.cell 0).trans rfl; have y3_1 := (b3.cell 1).trans rfl; have y3_2 := (b3.cell 2).trans rfl; have y3_3 := (b3.cell 3).trans rfl))
          all_goals
            go_wp2
            go_ret
            exact ⟨rfl, ext_step k1 (by omega) kr⟩
end Go.Proofs.Ytnnlagmgdfhaiaa
