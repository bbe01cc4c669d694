/- The walk of laws.FnExactPinFlows. -/
import Derived.Test.YtifbfmafogmemaaStPin
import Derived.Test.YtifbfmafogmemaaConvFl
import Derived.Test.YtifbfmafogmemaaOpenF
namespace Go.Proofs.Ytifbfmafogmemaa
set_option linter.unusedSimpArgs false
set_option linter.unusedVariables false
open Go.RowKit Go.ChangeShapes Go.WideShapes
set_option maxRecDepth 100000 in
set_option maxHeartbeats 4000000 in
theorem pinL_n (Ar : Option Addr) (cr : Nat) (rs : List Rule) (As : Option Addr) (cs : Nat) (l : List Slot) (key : ByteArray) (At : Option Addr) (ct : Nat) (tb : List Int) (q : Int) (Af : Option Addr) (nf cf : Nat) (fs : List Flow) (hn_f : fs.length = nf) (qq : Int) (w : World) (hz1 : ∀ u, Calls Try.prog 21 #[.agg #[.slice Ar rs.length cr, .slice As l.length cs, .string key, .slice At tb.length ct], .int .i64 1048576] u fun e w' => e = .returned (.int .i64 (-1)) ∧ Below u.heap.size u w') :
    Calls Try.prog 7 #[.agg #[.slice Ar rs.length cr, .slice As l.length cs, .string key, .slice At tb.length ct], .int .i64 q, .slice Af nf cf, .int .i64 qq] w fun e w' => e = .returned (.bool true) ∧ Below w.heap.size w w' := by
  go_enter Try.func7, Try.ntmps7
  go_wp2_with fail
  have k0 : Below w.heap.size w (w.alloc (.cells #[.slice Ar rs.length cr, .slice As l.length cs, .string key, .slice At tb.length ct] 49)) := by go_grown
  have bx0_0 : (w.alloc (.cells #[.slice Ar rs.length cr, .slice As l.length cs, .string key, .slice At tb.length ct] 49)).cell? ⟨w.heap.size, 0, none⟩ = some (.slice Ar rs.length cr) := by simp [go_sem]
  have bx0_1 : (w.alloc (.cells #[.slice Ar rs.length cr, .slice As l.length cs, .string key, .slice At tb.length ct] 49)).cell? ⟨w.heap.size, 1, none⟩ = some (.slice As l.length cs) := by simp [go_sem]
  have bx0_2 : (w.alloc (.cells #[.slice Ar rs.length cr, .slice As l.length cs, .string key, .slice At tb.length ct] 49)).cell? ⟨w.heap.size, 2, none⟩ = some (.string key) := by simp [go_sem]
  have bx0_3 : (w.alloc (.cells #[.slice Ar rs.length cr, .slice As l.length cs, .string key, .slice At tb.length ct] 49)).cell? ⟨w.heap.size, 3, none⟩ = some (.slice At tb.length ct) := by simp [go_sem]
  have bl0 : w.heap.size < (w.alloc (.cells #[.slice Ar rs.length cr, .slice As l.length cs, .string key, .slice At tb.length ct] 49)).heap.size := by go_size
  have p0 := k0.size
  generalize hW0 : (w.alloc (.cells #[.slice Ar rs.length cr, .slice As l.length cs, .string key, .slice At tb.length ct] 49)) = w0 at *
  clear hW0
  refine (hz1 _).mono ?_
  rintro e w1 ⟨rfl, hb⟩
  have k1 : Below w.heap.size w w1 := ext_step k0 (by omega) hb
  have p1 := hb.size
  replace bx0_0 := ccell hb _ _ _ bx0_0
  replace bx0_1 := ccell hb _ _ _ bx0_1
  replace bx0_2 := ccell hb _ _ _ bx0_2
  replace bx0_3 := ccell hb _ _ _ bx0_3
  have bl0 := Nat.lt_of_lt_of_le bl0 hb.size
  clear hb
  go_wp2
  go_ret
  exact ⟨rfl, k1⟩
set_option maxRecDepth 100000 in
set_option maxHeartbeats 4000000 in
theorem pinL_m (Ar : Option Addr) (cr : Nat) (rs : List Rule) (As : Option Addr) (cs : Nat) (l : List Slot) (key : ByteArray) (At : Option Addr) (ct : Nat) (tb : List Int) (q : Int) (Af : Option Addr) (nf cf : Nat) (fs : List Flow) (hn_f : fs.length = nf) (qq : Int) (w : World) (lf : Int) (hl0 : ¬ lf < 0) (hz1 : ∀ u, Calls Try.prog 21 #[.agg #[.slice Ar rs.length cr, .slice As l.length cs, .string key, .slice At tb.length ct], .int .i64 1048576] u fun e w' => e = .returned (.int .i64 lf) ∧ Below u.heap.size u w') (hz2 : ∀ u, Calls Try.prog 26 #[.slice Af nf cf, .int .i64 lf] u fun e w' => e = .returned (.int .i64 (-1)) ∧ u = w') :
    Calls Try.prog 7 #[.agg #[.slice Ar rs.length cr, .slice As l.length cs, .string key, .slice At tb.length ct], .int .i64 q, .slice Af nf cf, .int .i64 qq] w fun e w' => e = .returned (.bool true) ∧ Below w.heap.size w w' := by
  go_enter Try.func7, Try.ntmps7
  go_wp2_with fail
  have k0 : Below w.heap.size w (w.alloc (.cells #[.slice Ar rs.length cr, .slice As l.length cs, .string key, .slice At tb.length ct] 49)) := by go_grown
  have bx0_0 : (w.alloc (.cells #[.slice Ar rs.length cr, .slice As l.length cs, .string key, .slice At tb.length ct] 49)).cell? ⟨w.heap.size, 0, none⟩ = some (.slice Ar rs.length cr) := by simp [go_sem]
  have bx0_1 : (w.alloc (.cells #[.slice Ar rs.length cr, .slice As l.length cs, .string key, .slice At tb.length ct] 49)).cell? ⟨w.heap.size, 1, none⟩ = some (.slice As l.length cs) := by simp [go_sem]
  have bx0_2 : (w.alloc (.cells #[.slice Ar rs.length cr, .slice As l.length cs, .string key, .slice At tb.length ct] 49)).cell? ⟨w.heap.size, 2, none⟩ = some (.string key) := by simp [go_sem]
  have bx0_3 : (w.alloc (.cells #[.slice Ar rs.length cr, .slice As l.length cs, .string key, .slice At tb.length ct] 49)).cell? ⟨w.heap.size, 3, none⟩ = some (.slice At tb.length ct) := by simp [go_sem]
  have bl0 : w.heap.size < (w.alloc (.cells #[.slice Ar rs.length cr, .slice As l.length cs, .string key, .slice At tb.length ct] 49)).heap.size := by go_size
  have p0 := k0.size
  generalize hW0 : (w.alloc (.cells #[.slice Ar rs.length cr, .slice As l.length cs, .string key, .slice At tb.length ct] 49)) = w0 at *
  clear hW0
  refine (hz1 _).mono ?_
  rintro e w1 ⟨rfl, hb⟩
  have k1 : Below w.heap.size w w1 := ext_step k0 (by omega) hb
  have p1 := hb.size
  replace bx0_0 := ccell hb _ _ _ bx0_0
  replace bx0_1 := ccell hb _ _ _ bx0_1
  replace bx0_2 := ccell hb _ _ _ bx0_2
  replace bx0_3 := ccell hb _ _ _ bx0_3
  have bl0 := Nat.lt_of_lt_of_le bl0 hb.size
  clear hb
  go_wp2_with fail
  refine (hz2 _).mono ?_
  rintro e w_ ⟨rfl, rfl⟩
  go_wp2
  go_ret
  exact ⟨rfl, k1⟩
set_option maxRecDepth 100000 in
set_option maxHeartbeats 8000000 in
theorem pinL_ok (Ar : Option Addr) (cr : Nat) (rs : List Rule) (As : Option Addr) (cs : Nat) (l : List Slot) (key : ByteArray) (At : Option Addr) (ct : Nat) (tb : List Int) (q : Int) (Af : Option Addr) (nf cf : Nat) (fs : List Flow) (hn_f : fs.length = nf) (qq : Int) (w : World) (lf lg : Int) (hl0 : ¬ lf < 0) (hg0 : ¬ lg < 0) (hz1 : ∀ u, Calls Try.prog 21 #[.agg #[.slice Ar rs.length cr, .slice As l.length cs, .string key, .slice At tb.length ct], .int .i64 1048576] u fun e w' => e = .returned (.int .i64 lf) ∧ Below u.heap.size u w') (hz2 : ∀ u, Calls Try.prog 26 #[.slice Af nf cf, .int .i64 lf] u fun e w' => e = .returned (.int .i64 lg) ∧ u = w')
    (hmr : rs.length ≤ 1048576) (hms : l.length ≤ 1048576) (hmt : tb.length ≤ 1048576) (hmf : nf ≤ 1048576) (r_r : Reads w w.heap.size 9 Ar rs.length (rs.flatMap Rule.cells)) (r_s : Reads w w.heap.size 7 As l.length (l.flatMap Slot.cells)) (r_t : Reads w w.heap.size 1 At tb.length (tb.flatMap fun x : Int => [Value.int .i64 x])) (r_f : Reads w w.heap.size 5 Af nf (fs.flatMap Flow.cells)) :
    Calls Try.prog 7 #[.agg #[.slice Ar rs.length cr, .slice As l.length cs, .string key, .slice At tb.length ct], .int .i64 q, .slice Af nf cf, .int .i64 qq] w fun e w' => e = .returned (.bool true) ∧ Below w.heap.size w w' := by
  have hto := fun (u : World) h1 h2 h3 => toSteering_c Ar rs.length cr rs As l.length cs l key At tb.length ct tb u rfl hmr h1 rfl hms h2 rfl hmt h3
  have hspec := fun (A1 : Option Addr) (c1 : Nat) (A2 : Option Addr) (c2 : Nat) (A3 : Option Addr) (c3 : Nat) (A4 : Option Addr) (c4 : Nat) (u : World) h1 h2 h3 h4 => specPinFlows_c A1 c1 rs A2 c2 l key A3 c3 tb q A4 nf c4 fs qq u hmr hms hmt h1 h2 h3 hn_f hmf h4
  have himpl := fun (A1 : Option Addr) (c1 : Nat) (A2 : Option Addr) (c2 : Nat) (A3 : Option Addr) (c3 : Nat) (A4 : Option Addr) (c4 : Nat) (u : World) h1 h2 h3 h4 => implPinFlows_c A1 c1 rs A2 c2 l key A3 c3 tb q A4 nf c4 fs qq u hmr hms hmt h1 h2 h3 hn_f hmf h4
  have heq := fun (A1 : Option Addr) (c1 : Nat) (A2 : Option Addr) (c2 : Nat) (A3 : Option Addr) (c3 : Nat) (B1 : Option Addr) (d1 : Nat) (B2 : Option Addr) (d2 : Nat) (B3 : Option Addr) (d3 : Nat) (u : World) h1 h2 h3 => eqSteering_c A1 rs.length c1 rs A2 l.length c2 l key A3 tb.length c3 tb B1 d1 B2 d2 B3 d3 u rfl hmr h1 rfl hms h2 rfl hmt h3
  have hmz : (pinL rs l key tb q qq fs).length ≤ 1048576 := by rw [pinL_len]; exact hms
  obtain ⟨N, hN⟩ : ∃ x, pinN rs l key tb q qq fs = x := ⟨_, rfl⟩
  obtain ⟨lz, hlz⟩ : ∃ x, pinL rs l key tb q qq fs = x := ⟨_, rfl⟩
  simp only [hlz, hN] at hspec himpl hmz
  clear hlz hN
  have heqz := fun (A1 : Option Addr) (c1 : Nat) (A2 : Option Addr) (c2 : Nat) (A3 : Option Addr) (c3 : Nat) (B1 : Option Addr) (d1 : Nat) (B2 : Option Addr) (d2 : Nat) (B3 : Option Addr) (d3 : Nat) (u : World) h1 h2 h3 => eqSteering_c A1 rs.length c1 rs A2 lz.length c2 lz key A3 tb.length c3 tb B1 d1 B2 d2 B3 d3 u rfl hmr h1 rfl hmz h2 rfl hmt h3
  have hs_f := hmf
  go_enter Try.func7, Try.ntmps7
  go_wp2_with fail
  have k0 : Below w.heap.size w (w.alloc (.cells #[.slice Ar rs.length cr, .slice As l.length cs, .string key, .slice At tb.length ct] 49)) := by go_grown
  have bx0_0 : (w.alloc (.cells #[.slice Ar rs.length cr, .slice As l.length cs, .string key, .slice At tb.length ct] 49)).cell? ⟨w.heap.size, 0, none⟩ = some (.slice Ar rs.length cr) := by simp [go_sem]
  have bx0_1 : (w.alloc (.cells #[.slice Ar rs.length cr, .slice As l.length cs, .string key, .slice At tb.length ct] 49)).cell? ⟨w.heap.size, 1, none⟩ = some (.slice As l.length cs) := by simp [go_sem]
  have bx0_2 : (w.alloc (.cells #[.slice Ar rs.length cr, .slice As l.length cs, .string key, .slice At tb.length ct] 49)).cell? ⟨w.heap.size, 2, none⟩ = some (.string key) := by simp [go_sem]
  have bx0_3 : (w.alloc (.cells #[.slice Ar rs.length cr, .slice As l.length cs, .string key, .slice At tb.length ct] 49)).cell? ⟨w.heap.size, 3, none⟩ = some (.slice At tb.length ct) := by simp [go_sem]
  have bl0 : w.heap.size < (w.alloc (.cells #[.slice Ar rs.length cr, .slice As l.length cs, .string key, .slice At tb.length ct] 49)).heap.size := by go_size
  have r_f := r_f.below k0
  have r_r := r_r.below k0
  have r_s := r_s.below k0
  have r_t := r_t.below k0
  have p0 := k0.size
  generalize hW0 : (w.alloc (.cells #[.slice Ar rs.length cr, .slice As l.length cs, .string key, .slice At tb.length ct] 49)) = w0 at *
  clear hW0
  refine (hz1 _).mono ?_
  rintro e w1 ⟨rfl, hb⟩
  have k1 : Below w.heap.size w w1 := ext_step k0 (by omega) hb
  have p1 := hb.size
  replace bx0_0 := ccell hb _ _ _ bx0_0
  replace bx0_1 := ccell hb _ _ _ bx0_1
  replace bx0_2 := ccell hb _ _ _ bx0_2
  replace bx0_3 := ccell hb _ _ _ bx0_3
  have bl0 := Nat.lt_of_lt_of_le bl0 hb.size
  replace r_f := r_f.below (hb.mono (by omega))
  replace r_r := r_r.below (hb.mono (by omega))
  replace r_s := r_s.below (hb.mono (by omega))
  replace r_t := r_t.below (hb.mono (by omega))
  clear hb
  go_wp2_with fail
  refine (hz2 _).mono ?_
  rintro e w_ ⟨rfl, rfl⟩
  go_wp2_with fail
  refine (hto _ (r_r.more (by omega)) (r_s.more (by omega)) (r_t.more (by omega))).mono ?_
  rintro e w2 ⟨v, rfl, ⟨A_i, c_i, A_j, c_j, A_k, c_k, rfl, o_i, o_j, o_k⟩, hb⟩
  have k2 : Below w.heap.size w w2 := ext_step k1 (by omega) hb
  have p2 := hb.size
  replace bx0_0 := ccell hb _ _ _ bx0_0
  replace bx0_1 := ccell hb _ _ _ bx0_1
  replace bx0_2 := ccell hb _ _ _ bx0_2
  replace bx0_3 := ccell hb _ _ _ bx0_3
  have bl0 := Nat.lt_of_lt_of_le bl0 hb.size
  replace r_f := r_f.below (hb.mono (by omega))
  replace r_r := r_r.below (hb.mono (by omega))
  replace r_s := r_s.below (hb.mono (by omega))
  replace r_t := r_t.below (hb.mono (by omega))
  have r_i := Reads.of_own o_i
  have u_i := fun k hk => (o_i.lt k hk).2
  have r_j := Reads.of_own o_j
  have u_j := fun k hk => (o_j.lt k hk).2
  have r_k := Reads.of_own o_k
  have u_k := fun k hk => (o_k.lt k hk).2
  clear hb
  go_wp2_with fail
  refine (toFlowS_c _ _ _ fs _ hn_f hs_f (r_f.more (by omega))).mono ?_
  rintro e w3 ⟨g_q, rfl, hg_q, b_q, hb⟩
  have k3 : Below w.heap.size w w3 := ext_step k2 (by omega) hb
  have p3 := hb.size
  replace bx0_0 := ccell hb _ _ _ bx0_0
  replace bx0_1 := ccell hb _ _ _ bx0_1
  replace bx0_2 := ccell hb _ _ _ bx0_2
  replace bx0_3 := ccell hb _ _ _ bx0_3
  have bl0 := Nat.lt_of_lt_of_le bl0 hb.size
  replace r_f := r_f.below (hb.mono (by omega))
  replace r_r := r_r.below (hb.mono (by omega))
  replace r_s := r_s.below (hb.mono (by omega))
  replace r_t := r_t.below (hb.mono (by omega))
  replace r_i := r_i.below (hb.mono (by omega))
  replace o_i := own_ext o_i hb
  replace r_j := r_j.below (hb.mono (by omega))
  replace o_j := own_ext o_j hb
  replace r_k := r_k.below (hb.mono (by omega))
  replace o_k := own_ext o_k hb
  have r_q := b_q.reads (size := 5) (n := nf) (by rw [flatMap_len _ 5 (fun _ => rfl), hn_f])
  have o_q := b_q.own (base := w2.heap.size) (size := 5) (n := nf) hg_q (by rw [flatMap_len _ 5 (fun _ => rfl), hn_f]) (by unfold maxLen; omega) rfl
  have u_q := fun k hk => (o_q.lt k hk).2
  clear hb
  go_wp2_with fail
  refine (hspec _ _ _ _ _ _ _ _ _ (r_i.more (by omega)) (r_j.more (by omega)) (r_k.more (by omega)) (r_q.more (by omega))).mono ?_
  rintro e w4 ⟨v, rfl, ⟨A_va, c_va, A_vb, c_vb, A_vc, c_vc, rfl, o_va, o_vb, o_vc⟩, hb⟩
  have k4 : Below w.heap.size w w4 := ext_step k3 (by omega) hb
  have p4 := hb.size
  replace bx0_0 := ccell hb _ _ _ bx0_0
  replace bx0_1 := ccell hb _ _ _ bx0_1
  replace bx0_2 := ccell hb _ _ _ bx0_2
  replace bx0_3 := ccell hb _ _ _ bx0_3
  have bl0 := Nat.lt_of_lt_of_le bl0 hb.size
  replace r_f := r_f.below (hb.mono (by omega))
  replace r_r := r_r.below (hb.mono (by omega))
  replace r_s := r_s.below (hb.mono (by omega))
  replace r_t := r_t.below (hb.mono (by omega))
  replace r_i := r_i.below (hb.mono (by omega))
  replace o_i := own_ext o_i hb
  replace r_j := r_j.below (hb.mono (by omega))
  replace o_j := own_ext o_j hb
  replace r_k := r_k.below (hb.mono (by omega))
  replace o_k := own_ext o_k hb
  replace r_q := r_q.below (hb.mono (by omega))
  replace o_q := own_ext o_q hb
  have r_va := Reads.of_own o_va
  have u_va := fun k hk => (o_va.lt k hk).2
  have r_vb := Reads.of_own o_vb
  have u_vb := fun k hk => (o_vb.lt k hk).2
  have r_vc := Reads.of_own o_vc
  have u_vc := fun k hk => (o_vc.lt k hk).2
  clear hb
  go_wp2_with fail
  obtain ⟨w5, hW0⟩ : ∃ W, W = (w4.alloc (.cells #[.slice A_va rs.length c_va, .slice A_vb lz.length c_vb, .string key, .slice A_vc tb.length c_vc] 58)) := ⟨_, rfl⟩
  have hb : Below w4.heap.size w4 w5 := by rw [hW0]; go_grown
  have hkz : Blk w5 w4.heap.size 58 [.slice A_va rs.length c_va, .slice A_vb lz.length c_vb, .string key, .slice A_vc tb.length c_vc] := by rw [hW0]; exact Blk.new _ _ _
  rw [← hW0]
  clear hW0
  have bl1 := hkz.lt
  have k5 : Below w.heap.size w w5 := ext_step k4 (by omega) hb
  have p5 := hb.size
  replace bx0_0 := ccell hb _ _ _ bx0_0
  replace bx0_1 := ccell hb _ _ _ bx0_1
  replace bx0_2 := ccell hb _ _ _ bx0_2
  replace bx0_3 := ccell hb _ _ _ bx0_3
  have bl0 := Nat.lt_of_lt_of_le bl0 hb.size
  replace r_f := r_f.below (hb.mono (by omega))
  replace r_r := r_r.below (hb.mono (by omega))
  replace r_s := r_s.below (hb.mono (by omega))
  replace r_t := r_t.below (hb.mono (by omega))
  replace r_i := r_i.below (hb.mono (by omega))
  replace o_i := own_ext o_i hb
  replace r_j := r_j.below (hb.mono (by omega))
  replace o_j := own_ext o_j hb
  replace r_k := r_k.below (hb.mono (by omega))
  replace o_k := own_ext o_k hb
  replace r_q := r_q.below (hb.mono (by omega))
  replace o_q := own_ext o_q hb
  replace r_va := r_va.below (hb.mono (by omega))
  replace o_va := own_ext o_va hb
  replace r_vb := r_vb.below (hb.mono (by omega))
  replace o_vb := own_ext o_vb hb
  replace r_vc := r_vc.below (hb.mono (by omega))
  replace o_vc := own_ext o_vc hb
  have bx1_0 := hkz.at_ 0 _ rfl
  have bx1_1 := hkz.at_ 1 _ rfl
  have bx1_2 := hkz.at_ 2 _ rfl
  have bx1_3 := hkz.at_ 3 _ rfl
  clear hb hkz
  (try clear o_i)
  (try clear r_i)
  (try clear o_j)
  (try clear r_j)
  (try clear o_k)
  (try clear r_k)
  (try clear o_q)
  (try clear r_q)
  refine (hto _ (r_r.more (by omega)) (r_s.more (by omega)) (r_t.more (by omega))).mono ?_
  rintro e w6 ⟨v, rfl, ⟨A_x, c_x, A_y, c_y, A_z, c_z, rfl, o_x, o_y, o_z⟩, hb⟩
  have k6 : Below w.heap.size w w6 := ext_step k5 (by omega) hb
  have p6 := hb.size
  replace bx0_0 := ccell hb _ _ _ bx0_0
  replace bx0_1 := ccell hb _ _ _ bx0_1
  replace bx0_2 := ccell hb _ _ _ bx0_2
  replace bx0_3 := ccell hb _ _ _ bx0_3
  replace bx1_0 := ccell hb _ _ _ bx1_0
  replace bx1_1 := ccell hb _ _ _ bx1_1
  replace bx1_2 := ccell hb _ _ _ bx1_2
  replace bx1_3 := ccell hb _ _ _ bx1_3
  have bl0 := Nat.lt_of_lt_of_le bl0 hb.size
  have bl1 := Nat.lt_of_lt_of_le bl1 hb.size
  replace r_f := r_f.below (hb.mono (by omega))
  replace r_r := r_r.below (hb.mono (by omega))
  replace r_s := r_s.below (hb.mono (by omega))
  replace r_t := r_t.below (hb.mono (by omega))
  replace r_va := r_va.below (hb.mono (by omega))
  replace o_va := own_ext o_va hb
  replace r_vb := r_vb.below (hb.mono (by omega))
  replace o_vb := own_ext o_vb hb
  replace r_vc := r_vc.below (hb.mono (by omega))
  replace o_vc := own_ext o_vc hb
  have r_x := Reads.of_own o_x
  have u_x := fun k hk => (o_x.lt k hk).2
  have r_y := Reads.of_own o_y
  have u_y := fun k hk => (o_y.lt k hk).2
  have r_z := Reads.of_own o_z
  have u_z := fun k hk => (o_z.lt k hk).2
  clear hb
  go_wp2_with fail
  obtain ⟨w7, hW0⟩ : ∃ W, W = (w6.alloc (.cells #[.slice A_x rs.length c_x, .slice A_y l.length c_y, .string key, .slice A_z tb.length c_z] 58)) := ⟨_, rfl⟩
  have hb : Below w6.heap.size w6 w7 := by rw [hW0]; go_grown
  have hkz : Blk w7 w6.heap.size 58 [.slice A_x rs.length c_x, .slice A_y l.length c_y, .string key, .slice A_z tb.length c_z] := by rw [hW0]; exact Blk.new _ _ _
  rw [← hW0]
  clear hW0
  have bl2 := hkz.lt
  have k7 : Below w.heap.size w w7 := ext_step k6 (by omega) hb
  have p7 := hb.size
  replace bx0_0 := ccell hb _ _ _ bx0_0
  replace bx0_1 := ccell hb _ _ _ bx0_1
  replace bx0_2 := ccell hb _ _ _ bx0_2
  replace bx0_3 := ccell hb _ _ _ bx0_3
  replace bx1_0 := ccell hb _ _ _ bx1_0
  replace bx1_1 := ccell hb _ _ _ bx1_1
  replace bx1_2 := ccell hb _ _ _ bx1_2
  replace bx1_3 := ccell hb _ _ _ bx1_3
  have bl0 := Nat.lt_of_lt_of_le bl0 hb.size
  have bl1 := Nat.lt_of_lt_of_le bl1 hb.size
  replace r_f := r_f.below (hb.mono (by omega))
  replace r_r := r_r.below (hb.mono (by omega))
  replace r_s := r_s.below (hb.mono (by omega))
  replace r_t := r_t.below (hb.mono (by omega))
  replace r_va := r_va.below (hb.mono (by omega))
  replace o_va := own_ext o_va hb
  replace r_vb := r_vb.below (hb.mono (by omega))
  replace o_vb := own_ext o_vb hb
  replace r_vc := r_vc.below (hb.mono (by omega))
  replace o_vc := own_ext o_vc hb
  replace r_x := r_x.below (hb.mono (by omega))
  replace o_x := own_ext o_x hb
  replace r_y := r_y.below (hb.mono (by omega))
  replace o_y := own_ext o_y hb
  replace r_z := r_z.below (hb.mono (by omega))
  replace o_z := own_ext o_z hb
  have bx2_0 := hkz.at_ 0 _ rfl
  have bx2_1 := hkz.at_ 1 _ rfl
  have bx2_2 := hkz.at_ 2 _ rfl
  have bx2_3 := hkz.at_ 3 _ rfl
  clear hb hkz
  refine (toFlowS_c _ _ _ fs _ hn_f hs_f (r_f.more (by omega))).mono ?_
  rintro e w8 ⟨g_q, rfl, hg_q, b_q, hb⟩
  have k8 : Below w.heap.size w w8 := ext_step k7 (by omega) hb
  have p8 := hb.size
  replace bx0_0 := ccell hb _ _ _ bx0_0
  replace bx0_1 := ccell hb _ _ _ bx0_1
  replace bx0_2 := ccell hb _ _ _ bx0_2
  replace bx0_3 := ccell hb _ _ _ bx0_3
  replace bx1_0 := ccell hb _ _ _ bx1_0
  replace bx1_1 := ccell hb _ _ _ bx1_1
  replace bx1_2 := ccell hb _ _ _ bx1_2
  replace bx1_3 := ccell hb _ _ _ bx1_3
  replace bx2_0 := ccell hb _ _ _ bx2_0
  replace bx2_1 := ccell hb _ _ _ bx2_1
  replace bx2_2 := ccell hb _ _ _ bx2_2
  replace bx2_3 := ccell hb _ _ _ bx2_3
  have bl0 := Nat.lt_of_lt_of_le bl0 hb.size
  have bl1 := Nat.lt_of_lt_of_le bl1 hb.size
  have bl2 := Nat.lt_of_lt_of_le bl2 hb.size
  replace r_f := r_f.below (hb.mono (by omega))
  replace r_r := r_r.below (hb.mono (by omega))
  replace r_s := r_s.below (hb.mono (by omega))
  replace r_t := r_t.below (hb.mono (by omega))
  replace r_va := r_va.below (hb.mono (by omega))
  replace o_va := own_ext o_va hb
  replace r_vb := r_vb.below (hb.mono (by omega))
  replace o_vb := own_ext o_vb hb
  replace r_vc := r_vc.below (hb.mono (by omega))
  replace o_vc := own_ext o_vc hb
  replace r_x := r_x.below (hb.mono (by omega))
  replace o_x := own_ext o_x hb
  replace r_y := r_y.below (hb.mono (by omega))
  replace o_y := own_ext o_y hb
  replace r_z := r_z.below (hb.mono (by omega))
  replace o_z := own_ext o_z hb
  have r_q := b_q.reads (size := 5) (n := nf) (by rw [flatMap_len _ 5 (fun _ => rfl), hn_f])
  have o_q := b_q.own (base := w7.heap.size) (size := 5) (n := nf) hg_q (by rw [flatMap_len _ 5 (fun _ => rfl), hn_f]) (by unfold maxLen; omega) rfl
  have u_q := fun k hk => (o_q.lt k hk).2
  clear hb
  go_wp2_with fail
  refine (himpl _ _ _ _ _ _ _ _ _ (r_x.more (by omega)) (r_y.more (by omega)) (r_z.more (by omega)) (r_q.more (by omega))).mono ?_
  rintro e w9 ⟨v, rfl, ⟨A_ga, c_ga, A_gb, c_gb, A_gc, c_gc, rfl, o_ga, o_gb, o_gc⟩, hb⟩
  have k9 : Below w.heap.size w w9 := ext_step k8 (by omega) hb
  have p9 := hb.size
  replace bx0_0 := ccell hb _ _ _ bx0_0
  replace bx0_1 := ccell hb _ _ _ bx0_1
  replace bx0_2 := ccell hb _ _ _ bx0_2
  replace bx0_3 := ccell hb _ _ _ bx0_3
  replace bx1_0 := ccell hb _ _ _ bx1_0
  replace bx1_1 := ccell hb _ _ _ bx1_1
  replace bx1_2 := ccell hb _ _ _ bx1_2
  replace bx1_3 := ccell hb _ _ _ bx1_3
  replace bx2_0 := ccell hb _ _ _ bx2_0
  replace bx2_1 := ccell hb _ _ _ bx2_1
  replace bx2_2 := ccell hb _ _ _ bx2_2
  replace bx2_3 := ccell hb _ _ _ bx2_3
  have bl0 := Nat.lt_of_lt_of_le bl0 hb.size
  have bl1 := Nat.lt_of_lt_of_le bl1 hb.size
  have bl2 := Nat.lt_of_lt_of_le bl2 hb.size
  replace r_f := r_f.below (hb.mono (by omega))
  replace r_r := r_r.below (hb.mono (by omega))
  replace r_s := r_s.below (hb.mono (by omega))
  replace r_t := r_t.below (hb.mono (by omega))
  replace r_va := r_va.below (hb.mono (by omega))
  replace o_va := own_ext o_va hb
  replace r_vb := r_vb.below (hb.mono (by omega))
  replace o_vb := own_ext o_vb hb
  replace r_vc := r_vc.below (hb.mono (by omega))
  replace o_vc := own_ext o_vc hb
  replace r_x := r_x.below (hb.mono (by omega))
  replace o_x := own_ext o_x hb
  replace r_y := r_y.below (hb.mono (by omega))
  replace o_y := own_ext o_y hb
  replace r_z := r_z.below (hb.mono (by omega))
  replace o_z := own_ext o_z hb
  replace r_q := r_q.below (hb.mono (by omega))
  replace o_q := own_ext o_q hb
  have r_ga := Reads.of_own o_ga
  have u_ga := fun k hk => (o_ga.lt k hk).2
  have r_gb := Reads.of_own o_gb
  have u_gb := fun k hk => (o_gb.lt k hk).2
  have r_gc := Reads.of_own o_gc
  have u_gc := fun k hk => (o_gc.lt k hk).2
  clear hb
  go_wp2_with fail
  obtain ⟨w10, hW0⟩ : ∃ W, W = (w9.alloc (.cells #[.slice A_ga rs.length c_ga, .slice A_gb lz.length c_gb, .string key, .slice A_gc tb.length c_gc] 58)) := ⟨_, rfl⟩
  have hb : Below w9.heap.size w9 w10 := by rw [hW0]; go_grown
  have hkz : Blk w10 w9.heap.size 58 [.slice A_ga rs.length c_ga, .slice A_gb lz.length c_gb, .string key, .slice A_gc tb.length c_gc] := by rw [hW0]; exact Blk.new _ _ _
  rw [← hW0]
  clear hW0
  have bl3 := hkz.lt
  have k10 : Below w.heap.size w w10 := ext_step k9 (by omega) hb
  have p10 := hb.size
  replace bx0_0 := ccell hb _ _ _ bx0_0
  replace bx0_1 := ccell hb _ _ _ bx0_1
  replace bx0_2 := ccell hb _ _ _ bx0_2
  replace bx0_3 := ccell hb _ _ _ bx0_3
  replace bx1_0 := ccell hb _ _ _ bx1_0
  replace bx1_1 := ccell hb _ _ _ bx1_1
  replace bx1_2 := ccell hb _ _ _ bx1_2
  replace bx1_3 := ccell hb _ _ _ bx1_3
  replace bx2_0 := ccell hb _ _ _ bx2_0
  replace bx2_1 := ccell hb _ _ _ bx2_1
  replace bx2_2 := ccell hb _ _ _ bx2_2
  replace bx2_3 := ccell hb _ _ _ bx2_3
  have bl0 := Nat.lt_of_lt_of_le bl0 hb.size
  have bl1 := Nat.lt_of_lt_of_le bl1 hb.size
  have bl2 := Nat.lt_of_lt_of_le bl2 hb.size
  replace r_f := r_f.below (hb.mono (by omega))
  replace r_r := r_r.below (hb.mono (by omega))
  replace r_s := r_s.below (hb.mono (by omega))
  replace r_t := r_t.below (hb.mono (by omega))
  replace r_va := r_va.below (hb.mono (by omega))
  replace o_va := own_ext o_va hb
  replace r_vb := r_vb.below (hb.mono (by omega))
  replace o_vb := own_ext o_vb hb
  replace r_vc := r_vc.below (hb.mono (by omega))
  replace o_vc := own_ext o_vc hb
  replace r_x := r_x.below (hb.mono (by omega))
  replace o_x := own_ext o_x hb
  replace r_y := r_y.below (hb.mono (by omega))
  replace o_y := own_ext o_y hb
  replace r_z := r_z.below (hb.mono (by omega))
  replace o_z := own_ext o_z hb
  replace r_q := r_q.below (hb.mono (by omega))
  replace o_q := own_ext o_q hb
  replace r_ga := r_ga.below (hb.mono (by omega))
  replace o_ga := own_ext o_ga hb
  replace r_gb := r_gb.below (hb.mono (by omega))
  replace o_gb := own_ext o_gb hb
  replace r_gc := r_gc.below (hb.mono (by omega))
  replace o_gc := own_ext o_gc hb
  have bx3_0 := hkz.at_ 0 _ rfl
  have bx3_1 := hkz.at_ 1 _ rfl
  have bx3_2 := hkz.at_ 2 _ rfl
  have bx3_3 := hkz.at_ 3 _ rfl
  clear hb hkz
  refine (heqz _ _ _ _ _ _ _ _ _ _ _ _ _ (r_ga.more (by omega)) (r_gb.more (by omega)) (r_gc.more (by omega)) (r_va.more (by omega)) (r_vb.more (by omega)) (r_vc.more (by omega))).mono ?_
  rintro e w11 ⟨rfl, hb⟩
  have k11 : Below w.heap.size w w11 := ext_step k10 (by omega) hb
  have p11 := hb.size
  replace bx0_0 := ccell hb _ _ _ bx0_0
  replace bx0_1 := ccell hb _ _ _ bx0_1
  replace bx0_2 := ccell hb _ _ _ bx0_2
  replace bx0_3 := ccell hb _ _ _ bx0_3
  replace bx1_0 := ccell hb _ _ _ bx1_0
  replace bx1_1 := ccell hb _ _ _ bx1_1
  replace bx1_2 := ccell hb _ _ _ bx1_2
  replace bx1_3 := ccell hb _ _ _ bx1_3
  replace bx2_0 := ccell hb _ _ _ bx2_0
  replace bx2_1 := ccell hb _ _ _ bx2_1
  replace bx2_2 := ccell hb _ _ _ bx2_2
  replace bx2_3 := ccell hb _ _ _ bx2_3
  replace bx3_0 := ccell hb _ _ _ bx3_0
  replace bx3_1 := ccell hb _ _ _ bx3_1
  replace bx3_2 := ccell hb _ _ _ bx3_2
  replace bx3_3 := ccell hb _ _ _ bx3_3
  have bl0 := Nat.lt_of_lt_of_le bl0 hb.size
  have bl1 := Nat.lt_of_lt_of_le bl1 hb.size
  have bl2 := Nat.lt_of_lt_of_le bl2 hb.size
  have bl3 := Nat.lt_of_lt_of_le bl3 hb.size
  replace r_f := r_f.below (hb.mono (by omega))
  replace r_r := r_r.below (hb.mono (by omega))
  replace r_s := r_s.below (hb.mono (by omega))
  replace r_t := r_t.below (hb.mono (by omega))
  replace r_va := r_va.below (hb.mono (by omega))
  replace o_va := own_ext o_va hb
  replace r_vb := r_vb.below (hb.mono (by omega))
  replace o_vb := own_ext o_vb hb
  replace r_vc := r_vc.below (hb.mono (by omega))
  replace o_vc := own_ext o_vc hb
  replace r_x := r_x.below (hb.mono (by omega))
  replace o_x := own_ext o_x hb
  replace r_y := r_y.below (hb.mono (by omega))
  replace o_y := own_ext o_y hb
  replace r_z := r_z.below (hb.mono (by omega))
  replace o_z := own_ext o_z hb
  replace r_q := r_q.below (hb.mono (by omega))
  replace o_q := own_ext o_q hb
  replace r_ga := r_ga.below (hb.mono (by omega))
  replace o_ga := own_ext o_ga hb
  replace r_gb := r_gb.below (hb.mono (by omega))
  replace o_gb := own_ext o_gb hb
  replace r_gc := r_gc.below (hb.mono (by omega))
  replace o_gc := own_ext o_gc hb
  clear hb
  go_wp2_with fail
  have hBB : w11.heap.size ≤ w11.heap.size := by omega
  refine wp_region_slotsS (w11.heap.size) [(62, fun _ v => v = .agg #[.slice A_x rs.length c_x, .slice A_y l.length c_y, .string key, .slice A_z tb.length c_z]), (63, fun _ v => v = .agg #[.slice Ar rs.length cr, .slice As l.length cs, .string key, .slice At tb.length ct]), (64, SteO w11.heap.size rs l key tb), (65, fun _ v => v = .bool true), (66, fun _ v => v = .bool false)] [] (fun _ => True) (by kernel_rfl) hBB (by kernel_rfl) (by kernel_rfl) (by kernel_rfl) (by kernel_rfl) ?_ ?_ ?_ ?_ ?_ ?_ ?_
  · intro p hp
    simp only [List.mem_cons, List.not_mem_nil, or_false] at hp
    rcases hp with rfl | rfl | rfl | rfl | rfl
    all_goals (intro u u' v hb hv; first | exact hv | exact BoxP.keep hv hb | exact RowP.keep hv hb | exact SteO.keep hv hb)
  · intro s hs; cases hs
  · intro s hs; cases hs
  · exact trivial
  · intro u u' hb hj
    exact trivial
  · intro hGk hSk hJk
    refine allStep_cons (stepS_plain hGk hSk hBB hJk (by kernel_rfl) rfl ?_) ?_
    · intro a u hb hz hj hl hp K Q hK
      have e12 : a.tmps[12]?.getD undef = .pointer (some ⟨w6.heap.size, 0, none⟩) := gd (hl 12 (by kernel_rfl))
      have bx2_0 := ccell hb _ _ _ bx2_0
      have bx2_1 := ccell hb _ _ _ bx2_1
      have bx2_2 := ccell hb _ _ _ bx2_2
      have bx2_3 := ccell hb _ _ _ bx2_3
      go_simp
      exact hK _ _ (Below.refl _ _) (by intro d hd; cases hd; exact rfl)
    refine allStep_cons (stepS_plain hGk hSk hBB hJk (by kernel_rfl) rfl ?_) ?_
    · intro a u hb hz hj hl hp K Q hK
      have e4 : a.tmps[4]?.getD undef = .pointer (some ⟨w.heap.size, 0, none⟩) := gd (hl 4 (by kernel_rfl))
      have bx0_0 := ccell hb _ _ _ bx0_0
      have bx0_1 := ccell hb _ _ _ bx0_1
      have bx0_2 := ccell hb _ _ _ bx0_2
      have bx0_3 := ccell hb _ _ _ bx0_3
      go_simp
      exact hK _ _ (Below.refl _ _) (by intro d hd; cases hd; exact rfl)
    refine allStep_cons (stepS_plain hGk hSk hBB hJk (by kernel_rfl) rfl ?_) ?_
    · intro a u hb hz hj hl hp K Q hK
      have e63 : a.tmps[63]?.getD undef = .agg #[.slice Ar rs.length cr, .slice As l.length cs, .string key, .slice At tb.length ct] := gd (hl 63 (by kernel_rfl))
      go_simp
      refine (hto _ ((r_r.below (hb.mono (by omega))).more (by omega)) ((r_s.below (hb.mono (by omega))).more (by omega)) ((r_t.below (hb.mono (by omega))).more (by omega))).mono ?_
      rintro e u1 ⟨v, rfl, hS, hb1⟩
      exact hK _ _ hb1 (by intro d hd; cases hd; exact (hS.base (by omega)))
    refine allStep_cons (stepS_plain hGk hSk hBB hJk (by kernel_rfl) rfl ?_) ?_
    · intro a u hb hz hj hl hp K Q hK
      have e62 : a.tmps[62]?.getD undef = .agg #[.slice A_x rs.length c_x, .slice A_y l.length c_y, .string key, .slice A_z tb.length c_z] := gd (hl 62 (by kernel_rfl))
      obtain ⟨Aa2, ca2, Ab2, cb2, Ac2, cc2, ex64, o1_2, o2_2, o3_2⟩ : (SteO w11.heap.size rs l key tb) u (a.tmps.getD 64 undef) := hl 64 (by kernel_rfl)
      have e64 := gd ex64
      go_simp
      refine (heq _ _ _ _ _ _ _ _ _ _ _ _ _ ((r_x.below (hb.mono (by omega))).more (by omega)) ((r_y.below (hb.mono (by omega))).more (by omega)) ((r_z.below (hb.mono (by omega))).more (by omega)) (Reads.of_own o1_2) (Reads.of_own o2_2) (Reads.of_own o3_2)).mono ?_
      rintro e u1 ⟨rfl, hb1⟩
      exact hK _ _ hb1 (by intro d hd; cases hd; exact rfl)
    refine allStep_cons (stepS_plain hGk hSk hBB hJk (by kernel_rfl) rfl ?_) ?_
    · intro a u hb hz hj hl hp K Q hK
      have e65 : a.tmps[65]?.getD undef = .bool true := gd (hl 65 (by kernel_rfl))
      go_simp
      exact hK _ _ (Below.refl _ _) (by intro d hd; cases hd; exact rfl)
    exact allStep_nil
  intro xT w12 hb hz hj hL hSt
  have fx66 : xT 66 = .bool false := hL _ (List.mem_of_getElem? (i := 4) rfl)
  simp only [List.map, putAll, fx66]
  have k12 : Below w.heap.size w w12 := ext_step k11 (by omega) hb
  have p12 := hb.size
  replace bx0_0 := ccell hb _ _ _ bx0_0
  replace bx0_1 := ccell hb _ _ _ bx0_1
  replace bx0_2 := ccell hb _ _ _ bx0_2
  replace bx0_3 := ccell hb _ _ _ bx0_3
  replace bx1_0 := ccell hb _ _ _ bx1_0
  replace bx1_1 := ccell hb _ _ _ bx1_1
  replace bx1_2 := ccell hb _ _ _ bx1_2
  replace bx1_3 := ccell hb _ _ _ bx1_3
  replace bx2_0 := ccell hb _ _ _ bx2_0
  replace bx2_1 := ccell hb _ _ _ bx2_1
  replace bx2_2 := ccell hb _ _ _ bx2_2
  replace bx2_3 := ccell hb _ _ _ bx2_3
  replace bx3_0 := ccell hb _ _ _ bx3_0
  replace bx3_1 := ccell hb _ _ _ bx3_1
  replace bx3_2 := ccell hb _ _ _ bx3_2
  replace bx3_3 := ccell hb _ _ _ bx3_3
  have bl0 := Nat.lt_of_lt_of_le bl0 hb.size
  have bl1 := Nat.lt_of_lt_of_le bl1 hb.size
  have bl2 := Nat.lt_of_lt_of_le bl2 hb.size
  have bl3 := Nat.lt_of_lt_of_le bl3 hb.size
  replace r_f := r_f.below (hb.mono (by omega))
  replace r_r := r_r.below (hb.mono (by omega))
  replace r_s := r_s.below (hb.mono (by omega))
  replace r_t := r_t.below (hb.mono (by omega))
  replace r_va := r_va.below (hb.mono (by omega))
  replace o_va := own_ext o_va hb
  replace r_vb := r_vb.below (hb.mono (by omega))
  replace o_vb := own_ext o_vb hb
  replace r_vc := r_vc.below (hb.mono (by omega))
  replace o_vc := own_ext o_vc hb
  replace r_x := r_x.below (hb.mono (by omega))
  replace o_x := own_ext o_x hb
  replace r_y := r_y.below (hb.mono (by omega))
  replace o_y := own_ext o_y hb
  replace r_z := r_z.below (hb.mono (by omega))
  replace o_z := own_ext o_z hb
  replace r_q := r_q.below (hb.mono (by omega))
  replace o_q := own_ext o_q hb
  replace r_ga := r_ga.below (hb.mono (by omega))
  replace o_ga := own_ext o_ga hb
  replace r_gb := r_gb.below (hb.mono (by omega))
  replace o_gb := own_ext o_gb hb
  replace r_gc := r_gc.below (hb.mono (by omega))
  replace o_gc := own_ext o_gc hb
  clear hL hSt hb hz fx66
  go_wp2_with fail
  refine (toFlowS_c _ _ _ fs _ hn_f hs_f (r_f.more (by omega))).mono ?_
  rintro e w13 ⟨g_e, rfl, hg_e, b_e, hb⟩
  have k13 : Below w.heap.size w w13 := ext_step k12 (by omega) hb
  have p13 := hb.size
  replace bx0_0 := ccell hb _ _ _ bx0_0
  replace bx0_1 := ccell hb _ _ _ bx0_1
  replace bx0_2 := ccell hb _ _ _ bx0_2
  replace bx0_3 := ccell hb _ _ _ bx0_3
  replace bx1_0 := ccell hb _ _ _ bx1_0
  replace bx1_1 := ccell hb _ _ _ bx1_1
  replace bx1_2 := ccell hb _ _ _ bx1_2
  replace bx1_3 := ccell hb _ _ _ bx1_3
  replace bx2_0 := ccell hb _ _ _ bx2_0
  replace bx2_1 := ccell hb _ _ _ bx2_1
  replace bx2_2 := ccell hb _ _ _ bx2_2
  replace bx2_3 := ccell hb _ _ _ bx2_3
  replace bx3_0 := ccell hb _ _ _ bx3_0
  replace bx3_1 := ccell hb _ _ _ bx3_1
  replace bx3_2 := ccell hb _ _ _ bx3_2
  replace bx3_3 := ccell hb _ _ _ bx3_3
  have bl0 := Nat.lt_of_lt_of_le bl0 hb.size
  have bl1 := Nat.lt_of_lt_of_le bl1 hb.size
  have bl2 := Nat.lt_of_lt_of_le bl2 hb.size
  have bl3 := Nat.lt_of_lt_of_le bl3 hb.size
  replace r_f := r_f.below (hb.mono (by omega))
  replace r_r := r_r.below (hb.mono (by omega))
  replace r_s := r_s.below (hb.mono (by omega))
  replace r_t := r_t.below (hb.mono (by omega))
  replace r_va := r_va.below (hb.mono (by omega))
  replace o_va := own_ext o_va hb
  replace r_vb := r_vb.below (hb.mono (by omega))
  replace o_vb := own_ext o_vb hb
  replace r_vc := r_vc.below (hb.mono (by omega))
  replace o_vc := own_ext o_vc hb
  replace r_x := r_x.below (hb.mono (by omega))
  replace o_x := own_ext o_x hb
  replace r_y := r_y.below (hb.mono (by omega))
  replace o_y := own_ext o_y hb
  replace r_z := r_z.below (hb.mono (by omega))
  replace o_z := own_ext o_z hb
  replace r_q := r_q.below (hb.mono (by omega))
  replace o_q := own_ext o_q hb
  replace r_ga := r_ga.below (hb.mono (by omega))
  replace o_ga := own_ext o_ga hb
  replace r_gb := r_gb.below (hb.mono (by omega))
  replace o_gb := own_ext o_gb hb
  replace r_gc := r_gc.below (hb.mono (by omega))
  replace o_gc := own_ext o_gc hb
  have r_e := b_e.reads (size := 5) (n := nf) (by rw [flatMap_len _ 5 (fun _ => rfl), hn_f])
  have o_e := b_e.own (base := w12.heap.size) (size := 5) (n := nf) hg_e (by rw [flatMap_len _ 5 (fun _ => rfl), hn_f]) (by unfold maxLen; omega) rfl
  have u_e := fun k hk => (o_e.lt k hk).2
  clear hb
  go_wp2_with fail
  refine (eqFlowS_c _ _ _ _ _ fs _ hn_f (by omega) (r_q.more (by omega)) (r_e.more (by omega))).mono ?_
  rintro e w14 ⟨rfl, hb⟩
  have k14 : Below w.heap.size w w14 := ext_step k13 (by omega) hb
  have p14 := hb.size
  replace bx0_0 := ccell hb _ _ _ bx0_0
  replace bx0_1 := ccell hb _ _ _ bx0_1
  replace bx0_2 := ccell hb _ _ _ bx0_2
  replace bx0_3 := ccell hb _ _ _ bx0_3
  replace bx1_0 := ccell hb _ _ _ bx1_0
  replace bx1_1 := ccell hb _ _ _ bx1_1
  replace bx1_2 := ccell hb _ _ _ bx1_2
  replace bx1_3 := ccell hb _ _ _ bx1_3
  replace bx2_0 := ccell hb _ _ _ bx2_0
  replace bx2_1 := ccell hb _ _ _ bx2_1
  replace bx2_2 := ccell hb _ _ _ bx2_2
  replace bx2_3 := ccell hb _ _ _ bx2_3
  replace bx3_0 := ccell hb _ _ _ bx3_0
  replace bx3_1 := ccell hb _ _ _ bx3_1
  replace bx3_2 := ccell hb _ _ _ bx3_2
  replace bx3_3 := ccell hb _ _ _ bx3_3
  have bl0 := Nat.lt_of_lt_of_le bl0 hb.size
  have bl1 := Nat.lt_of_lt_of_le bl1 hb.size
  have bl2 := Nat.lt_of_lt_of_le bl2 hb.size
  have bl3 := Nat.lt_of_lt_of_le bl3 hb.size
  replace r_f := r_f.below (hb.mono (by omega))
  replace r_r := r_r.below (hb.mono (by omega))
  replace r_s := r_s.below (hb.mono (by omega))
  replace r_t := r_t.below (hb.mono (by omega))
  replace r_va := r_va.below (hb.mono (by omega))
  replace o_va := own_ext o_va hb
  replace r_vb := r_vb.below (hb.mono (by omega))
  replace o_vb := own_ext o_vb hb
  replace r_vc := r_vc.below (hb.mono (by omega))
  replace o_vc := own_ext o_vc hb
  replace r_x := r_x.below (hb.mono (by omega))
  replace o_x := own_ext o_x hb
  replace r_y := r_y.below (hb.mono (by omega))
  replace o_y := own_ext o_y hb
  replace r_z := r_z.below (hb.mono (by omega))
  replace o_z := own_ext o_z hb
  replace r_q := r_q.below (hb.mono (by omega))
  replace o_q := own_ext o_q hb
  replace r_ga := r_ga.below (hb.mono (by omega))
  replace o_ga := own_ext o_ga hb
  replace r_gb := r_gb.below (hb.mono (by omega))
  replace o_gb := own_ext o_gb hb
  replace r_gc := r_gc.below (hb.mono (by omega))
  replace o_gc := own_ext o_gc hb
  replace r_e := r_e.below (hb.mono (by omega))
  replace o_e := own_ext o_e hb
  clear hb
  (try clear o_e)
  (try clear r_e)
  go_wp2_with fail
  refine (markSteering_c _ _ _ _ _ _ _ _ _ _ _ _ _ _ _ _ o_x o_y o_z (by omega) (by omega) (by omega) (by omega) (by omega)).mono ?_
  rintro e w15 ⟨rfl, om_x, om_y, om_z, hg⟩
  have k15 : Below w.heap.size w w15 := Grown3.below k14 (by omega) hg (fun k h1 => by have := (o_x.lt k h1).1; omega) (fun k h1 => by have := (o_y.lt k h1).1; omega) (fun k h1 => by have := (o_z.lt k h1).1; omega)
  have p15 := hg.size
  replace bx0_0 := hg.cell bx0_0 (fun g h1 => by have := (o_x.lt g h1).1; have := u_x g h1; omega) (fun g h1 => by have := (o_y.lt g h1).1; have := u_y g h1; omega) (fun g h1 => by have := (o_z.lt g h1).1; have := u_z g h1; omega)
  replace bx0_1 := hg.cell bx0_1 (fun g h1 => by have := (o_x.lt g h1).1; have := u_x g h1; omega) (fun g h1 => by have := (o_y.lt g h1).1; have := u_y g h1; omega) (fun g h1 => by have := (o_z.lt g h1).1; have := u_z g h1; omega)
  replace bx0_2 := hg.cell bx0_2 (fun g h1 => by have := (o_x.lt g h1).1; have := u_x g h1; omega) (fun g h1 => by have := (o_y.lt g h1).1; have := u_y g h1; omega) (fun g h1 => by have := (o_z.lt g h1).1; have := u_z g h1; omega)
  replace bx0_3 := hg.cell bx0_3 (fun g h1 => by have := (o_x.lt g h1).1; have := u_x g h1; omega) (fun g h1 => by have := (o_y.lt g h1).1; have := u_y g h1; omega) (fun g h1 => by have := (o_z.lt g h1).1; have := u_z g h1; omega)
  replace bx1_0 := hg.cell bx1_0 (fun g h1 => by have := (o_x.lt g h1).1; have := u_x g h1; omega) (fun g h1 => by have := (o_y.lt g h1).1; have := u_y g h1; omega) (fun g h1 => by have := (o_z.lt g h1).1; have := u_z g h1; omega)
  replace bx1_1 := hg.cell bx1_1 (fun g h1 => by have := (o_x.lt g h1).1; have := u_x g h1; omega) (fun g h1 => by have := (o_y.lt g h1).1; have := u_y g h1; omega) (fun g h1 => by have := (o_z.lt g h1).1; have := u_z g h1; omega)
  replace bx1_2 := hg.cell bx1_2 (fun g h1 => by have := (o_x.lt g h1).1; have := u_x g h1; omega) (fun g h1 => by have := (o_y.lt g h1).1; have := u_y g h1; omega) (fun g h1 => by have := (o_z.lt g h1).1; have := u_z g h1; omega)
  replace bx1_3 := hg.cell bx1_3 (fun g h1 => by have := (o_x.lt g h1).1; have := u_x g h1; omega) (fun g h1 => by have := (o_y.lt g h1).1; have := u_y g h1; omega) (fun g h1 => by have := (o_z.lt g h1).1; have := u_z g h1; omega)
  replace bx2_0 := hg.cell bx2_0 (fun g h1 => by have := (o_x.lt g h1).1; have := u_x g h1; omega) (fun g h1 => by have := (o_y.lt g h1).1; have := u_y g h1; omega) (fun g h1 => by have := (o_z.lt g h1).1; have := u_z g h1; omega)
  replace bx2_1 := hg.cell bx2_1 (fun g h1 => by have := (o_x.lt g h1).1; have := u_x g h1; omega) (fun g h1 => by have := (o_y.lt g h1).1; have := u_y g h1; omega) (fun g h1 => by have := (o_z.lt g h1).1; have := u_z g h1; omega)
  replace bx2_2 := hg.cell bx2_2 (fun g h1 => by have := (o_x.lt g h1).1; have := u_x g h1; omega) (fun g h1 => by have := (o_y.lt g h1).1; have := u_y g h1; omega) (fun g h1 => by have := (o_z.lt g h1).1; have := u_z g h1; omega)
  replace bx2_3 := hg.cell bx2_3 (fun g h1 => by have := (o_x.lt g h1).1; have := u_x g h1; omega) (fun g h1 => by have := (o_y.lt g h1).1; have := u_y g h1; omega) (fun g h1 => by have := (o_z.lt g h1).1; have := u_z g h1; omega)
  replace bx3_0 := hg.cell bx3_0 (fun g h1 => by have := (o_x.lt g h1).1; have := u_x g h1; omega) (fun g h1 => by have := (o_y.lt g h1).1; have := u_y g h1; omega) (fun g h1 => by have := (o_z.lt g h1).1; have := u_z g h1; omega)
  replace bx3_1 := hg.cell bx3_1 (fun g h1 => by have := (o_x.lt g h1).1; have := u_x g h1; omega) (fun g h1 => by have := (o_y.lt g h1).1; have := u_y g h1; omega) (fun g h1 => by have := (o_z.lt g h1).1; have := u_z g h1; omega)
  replace bx3_2 := hg.cell bx3_2 (fun g h1 => by have := (o_x.lt g h1).1; have := u_x g h1; omega) (fun g h1 => by have := (o_y.lt g h1).1; have := u_y g h1; omega) (fun g h1 => by have := (o_z.lt g h1).1; have := u_z g h1; omega)
  replace bx3_3 := hg.cell bx3_3 (fun g h1 => by have := (o_x.lt g h1).1; have := u_x g h1; omega) (fun g h1 => by have := (o_y.lt g h1).1; have := u_y g h1; omega) (fun g h1 => by have := (o_z.lt g h1).1; have := u_z g h1; omega)
  have bl0 := Nat.lt_of_lt_of_le bl0 hg.size
  have bl1 := Nat.lt_of_lt_of_le bl1 hg.size
  have bl2 := Nat.lt_of_lt_of_le bl2 hg.size
  have bl3 := Nat.lt_of_lt_of_le bl3 hg.size
  replace r_f := hg.reads r_f (by omega) (fun g h1 => Nat.le_trans (by omega) (o_x.lt g h1).1) (fun g h1 => Nat.le_trans (by omega) (o_y.lt g h1).1) (fun g h1 => Nat.le_trans (by omega) (o_z.lt g h1).1)
  replace r_r := hg.reads r_r (by omega) (fun g h1 => Nat.le_trans (by omega) (o_x.lt g h1).1) (fun g h1 => Nat.le_trans (by omega) (o_y.lt g h1).1) (fun g h1 => Nat.le_trans (by omega) (o_z.lt g h1).1)
  replace r_s := hg.reads r_s (by omega) (fun g h1 => Nat.le_trans (by omega) (o_x.lt g h1).1) (fun g h1 => Nat.le_trans (by omega) (o_y.lt g h1).1) (fun g h1 => Nat.le_trans (by omega) (o_z.lt g h1).1)
  replace r_t := hg.reads r_t (by omega) (fun g h1 => Nat.le_trans (by omega) (o_x.lt g h1).1) (fun g h1 => Nat.le_trans (by omega) (o_y.lt g h1).1) (fun g h1 => Nat.le_trans (by omega) (o_z.lt g h1).1)
  have on_va := hg.own o_va (fun g h1 h2 => by first | exact own_ne_ty o_va o_x (by decide) g h1 h2 | (have := u_va g h1; have := (o_x.lt g h2).1; omega) | (have := (o_va.lt g h1).1; have := u_x g h2; omega)) (fun g h1 h2 => by first | exact own_ne_ty o_va o_y (by decide) g h1 h2 | (have := u_va g h1; have := (o_y.lt g h2).1; omega) | (have := (o_va.lt g h1).1; have := u_y g h2; omega)) (fun g h1 h2 => by first | exact own_ne_ty o_va o_z (by decide) g h1 h2 | (have := u_va g h1; have := (o_z.lt g h2).1; omega) | (have := (o_va.lt g h1).1; have := u_z g h2; omega))
  have on_vb := hg.own o_vb (fun g h1 h2 => by first | exact own_ne_ty o_vb o_x (by decide) g h1 h2 | (have := u_vb g h1; have := (o_x.lt g h2).1; omega) | (have := (o_vb.lt g h1).1; have := u_x g h2; omega)) (fun g h1 h2 => by first | exact own_ne_ty o_vb o_y (by decide) g h1 h2 | (have := u_vb g h1; have := (o_y.lt g h2).1; omega) | (have := (o_vb.lt g h1).1; have := u_y g h2; omega)) (fun g h1 h2 => by first | exact own_ne_ty o_vb o_z (by decide) g h1 h2 | (have := u_vb g h1; have := (o_z.lt g h2).1; omega) | (have := (o_vb.lt g h1).1; have := u_z g h2; omega))
  have on_vc := hg.own o_vc (fun g h1 h2 => by first | exact own_ne_ty o_vc o_x (by decide) g h1 h2 | (have := u_vc g h1; have := (o_x.lt g h2).1; omega) | (have := (o_vc.lt g h1).1; have := u_x g h2; omega)) (fun g h1 h2 => by first | exact own_ne_ty o_vc o_y (by decide) g h1 h2 | (have := u_vc g h1; have := (o_y.lt g h2).1; omega) | (have := (o_vc.lt g h1).1; have := u_y g h2; omega)) (fun g h1 h2 => by first | exact own_ne_ty o_vc o_z (by decide) g h1 h2 | (have := u_vc g h1; have := (o_z.lt g h2).1; omega) | (have := (o_vc.lt g h1).1; have := u_z g h2; omega))
  have on_q := hg.own o_q (fun g h1 h2 => by first | exact own_ne_ty o_q o_x (by decide) g h1 h2 | (have := u_q g h1; have := (o_x.lt g h2).1; omega) | (have := (o_q.lt g h1).1; have := u_x g h2; omega)) (fun g h1 h2 => by first | exact own_ne_ty o_q o_y (by decide) g h1 h2 | (have := u_q g h1; have := (o_y.lt g h2).1; omega) | (have := (o_q.lt g h1).1; have := u_y g h2; omega)) (fun g h1 h2 => by first | exact own_ne_ty o_q o_z (by decide) g h1 h2 | (have := u_q g h1; have := (o_z.lt g h2).1; omega) | (have := (o_q.lt g h1).1; have := u_z g h2; omega))
  have on_ga := hg.own o_ga (fun g h1 h2 => by first | exact own_ne_ty o_ga o_x (by decide) g h1 h2 | (have := u_ga g h1; have := (o_x.lt g h2).1; omega) | (have := (o_ga.lt g h1).1; have := u_x g h2; omega)) (fun g h1 h2 => by first | exact own_ne_ty o_ga o_y (by decide) g h1 h2 | (have := u_ga g h1; have := (o_y.lt g h2).1; omega) | (have := (o_ga.lt g h1).1; have := u_y g h2; omega)) (fun g h1 h2 => by first | exact own_ne_ty o_ga o_z (by decide) g h1 h2 | (have := u_ga g h1; have := (o_z.lt g h2).1; omega) | (have := (o_ga.lt g h1).1; have := u_z g h2; omega))
  have on_gb := hg.own o_gb (fun g h1 h2 => by first | exact own_ne_ty o_gb o_x (by decide) g h1 h2 | (have := u_gb g h1; have := (o_x.lt g h2).1; omega) | (have := (o_gb.lt g h1).1; have := u_x g h2; omega)) (fun g h1 h2 => by first | exact own_ne_ty o_gb o_y (by decide) g h1 h2 | (have := u_gb g h1; have := (o_y.lt g h2).1; omega) | (have := (o_gb.lt g h1).1; have := u_y g h2; omega)) (fun g h1 h2 => by first | exact own_ne_ty o_gb o_z (by decide) g h1 h2 | (have := u_gb g h1; have := (o_z.lt g h2).1; omega) | (have := (o_gb.lt g h1).1; have := u_z g h2; omega))
  have on_gc := hg.own o_gc (fun g h1 h2 => by first | exact own_ne_ty o_gc o_x (by decide) g h1 h2 | (have := u_gc g h1; have := (o_x.lt g h2).1; omega) | (have := (o_gc.lt g h1).1; have := u_x g h2; omega)) (fun g h1 h2 => by first | exact own_ne_ty o_gc o_y (by decide) g h1 h2 | (have := u_gc g h1; have := (o_y.lt g h2).1; omega) | (have := (o_gc.lt g h1).1; have := u_y g h2; omega)) (fun g h1 h2 => by first | exact own_ne_ty o_gc o_z (by decide) g h1 h2 | (have := u_gc g h1; have := (o_z.lt g h2).1; omega) | (have := (o_gc.lt g h1).1; have := u_z g h2; omega))
  replace o_va := on_va
  replace r_va := (Reads.of_own o_va)
  clear on_va
  replace o_vb := on_vb
  replace r_vb := (Reads.of_own o_vb)
  clear on_vb
  replace o_vc := on_vc
  replace r_vc := (Reads.of_own o_vc)
  clear on_vc
  replace o_q := on_q
  replace r_q := (Reads.of_own o_q)
  clear on_q
  replace o_ga := on_ga
  replace r_ga := (Reads.of_own o_ga)
  clear on_ga
  replace o_gb := on_gb
  replace r_gb := (Reads.of_own o_gb)
  clear on_gb
  replace o_gc := on_gc
  replace r_gc := (Reads.of_own o_gc)
  clear on_gc
  replace o_x := om_x
  replace r_x := Reads.of_own o_x
  replace o_y := om_y
  replace r_y := Reads.of_own o_y
  replace o_z := om_z
  replace r_z := Reads.of_own o_z
  clear hg om_x om_y om_z
  (try clear o_x)
  (try clear r_x)
  (try clear o_y)
  (try clear r_y)
  (try clear o_z)
  (try clear r_z)
  go_wp2_with fail
  refine (markFlowS_c _ _ _ _ _ _ _ o_q (by omega) (by omega) (by omega)).mono ?_
  rintro e w16 ⟨rfl, om, hg⟩
  have k16 : Below w.heap.size w w16 := below_app k15 (own_base o_q (by omega)) hg (by omega)
  have p16 := hg.size
  replace bx0_0 := cell_off hg bx0_0 (fun g h1 => by have := (o_q.lt g h1).1; have := u_q g h1; omega)
  replace bx0_1 := cell_off hg bx0_1 (fun g h1 => by have := (o_q.lt g h1).1; have := u_q g h1; omega)
  replace bx0_2 := cell_off hg bx0_2 (fun g h1 => by have := (o_q.lt g h1).1; have := u_q g h1; omega)
  replace bx0_3 := cell_off hg bx0_3 (fun g h1 => by have := (o_q.lt g h1).1; have := u_q g h1; omega)
  replace bx1_0 := cell_off hg bx1_0 (fun g h1 => by have := (o_q.lt g h1).1; have := u_q g h1; omega)
  replace bx1_1 := cell_off hg bx1_1 (fun g h1 => by have := (o_q.lt g h1).1; have := u_q g h1; omega)
  replace bx1_2 := cell_off hg bx1_2 (fun g h1 => by have := (o_q.lt g h1).1; have := u_q g h1; omega)
  replace bx1_3 := cell_off hg bx1_3 (fun g h1 => by have := (o_q.lt g h1).1; have := u_q g h1; omega)
  replace bx2_0 := cell_off hg bx2_0 (fun g h1 => by have := (o_q.lt g h1).1; have := u_q g h1; omega)
  replace bx2_1 := cell_off hg bx2_1 (fun g h1 => by have := (o_q.lt g h1).1; have := u_q g h1; omega)
  replace bx2_2 := cell_off hg bx2_2 (fun g h1 => by have := (o_q.lt g h1).1; have := u_q g h1; omega)
  replace bx2_3 := cell_off hg bx2_3 (fun g h1 => by have := (o_q.lt g h1).1; have := u_q g h1; omega)
  replace bx3_0 := cell_off hg bx3_0 (fun g h1 => by have := (o_q.lt g h1).1; have := u_q g h1; omega)
  replace bx3_1 := cell_off hg bx3_1 (fun g h1 => by have := (o_q.lt g h1).1; have := u_q g h1; omega)
  replace bx3_2 := cell_off hg bx3_2 (fun g h1 => by have := (o_q.lt g h1).1; have := u_q g h1; omega)
  replace bx3_3 := cell_off hg bx3_3 (fun g h1 => by have := (o_q.lt g h1).1; have := u_q g h1; omega)
  have bl0 := Nat.lt_of_lt_of_le bl0 hg.size
  have bl1 := Nat.lt_of_lt_of_le bl1 hg.size
  have bl2 := Nat.lt_of_lt_of_le bl2 hg.size
  have bl3 := Nat.lt_of_lt_of_le bl3 hg.size
  replace r_f := r_f.grown hg (by omega) (fun g hg => Nat.le_trans (by omega) (o_q.lt g hg).1)
  replace r_r := r_r.grown hg (by omega) (fun g hg => Nat.le_trans (by omega) (o_q.lt g hg).1)
  replace r_s := r_s.grown hg (by omega) (fun g hg => Nat.le_trans (by omega) (o_q.lt g hg).1)
  replace r_t := r_t.grown hg (by omega) (fun g hg => Nat.le_trans (by omega) (o_q.lt g hg).1)
  replace o_va := own_far o_va hg (fun g h1 h2 => by have := u_va g h1; have := (o_q.lt g h2).1; omega)
  replace r_va := (Reads.of_own o_va)
  replace o_vb := own_far o_vb hg (fun g h1 h2 => by have := u_vb g h1; have := (o_q.lt g h2).1; omega)
  replace r_vb := (Reads.of_own o_vb)
  replace o_vc := own_far o_vc hg (fun g h1 h2 => by have := u_vc g h1; have := (o_q.lt g h2).1; omega)
  replace r_vc := (Reads.of_own o_vc)
  replace o_ga := own_far o_ga hg (fun g h1 h2 => by have := (o_ga.lt g h1).1; have := u_q g h2; omega)
  replace r_ga := (Reads.of_own o_ga)
  replace o_gb := own_far o_gb hg (fun g h1 h2 => by have := (o_gb.lt g h1).1; have := u_q g h2; omega)
  replace r_gb := (Reads.of_own o_gb)
  replace o_gc := own_far o_gc hg (fun g h1 h2 => by have := (o_gc.lt g h1).1; have := u_q g h2; omega)
  replace r_gc := (Reads.of_own o_gc)
  replace o_q := om
  replace r_q := Reads.of_own o_q
  clear hg om
  (try clear o_q)
  (try clear r_q)
  go_wp2_with fail
  refine (heqz _ _ _ _ _ _ _ _ _ _ _ _ _ (r_ga.more (by omega)) (r_gb.more (by omega)) (r_gc.more (by omega)) (r_va.more (by omega)) (r_vb.more (by omega)) (r_vc.more (by omega))).mono ?_
  rintro e w17 ⟨rfl, hb⟩
  have k17 : Below w.heap.size w w17 := ext_step k16 (by omega) hb
  have p17 := hb.size
  replace bx0_0 := ccell hb _ _ _ bx0_0
  replace bx0_1 := ccell hb _ _ _ bx0_1
  replace bx0_2 := ccell hb _ _ _ bx0_2
  replace bx0_3 := ccell hb _ _ _ bx0_3
  replace bx1_0 := ccell hb _ _ _ bx1_0
  replace bx1_1 := ccell hb _ _ _ bx1_1
  replace bx1_2 := ccell hb _ _ _ bx1_2
  replace bx1_3 := ccell hb _ _ _ bx1_3
  replace bx2_0 := ccell hb _ _ _ bx2_0
  replace bx2_1 := ccell hb _ _ _ bx2_1
  replace bx2_2 := ccell hb _ _ _ bx2_2
  replace bx2_3 := ccell hb _ _ _ bx2_3
  replace bx3_0 := ccell hb _ _ _ bx3_0
  replace bx3_1 := ccell hb _ _ _ bx3_1
  replace bx3_2 := ccell hb _ _ _ bx3_2
  replace bx3_3 := ccell hb _ _ _ bx3_3
  have bl0 := Nat.lt_of_lt_of_le bl0 hb.size
  have bl1 := Nat.lt_of_lt_of_le bl1 hb.size
  have bl2 := Nat.lt_of_lt_of_le bl2 hb.size
  have bl3 := Nat.lt_of_lt_of_le bl3 hb.size
  replace r_f := r_f.below (hb.mono (by omega))
  replace r_r := r_r.below (hb.mono (by omega))
  replace r_s := r_s.below (hb.mono (by omega))
  replace r_t := r_t.below (hb.mono (by omega))
  replace r_va := r_va.below (hb.mono (by omega))
  replace o_va := own_ext o_va hb
  replace r_vb := r_vb.below (hb.mono (by omega))
  replace o_vb := own_ext o_vb hb
  replace r_vc := r_vc.below (hb.mono (by omega))
  replace o_vc := own_ext o_vc hb
  replace r_ga := r_ga.below (hb.mono (by omega))
  replace o_ga := own_ext o_ga hb
  replace r_gb := r_gb.below (hb.mono (by omega))
  replace o_gb := own_ext o_gb hb
  replace r_gc := r_gc.below (hb.mono (by omega))
  replace o_gc := own_ext o_gc hb
  clear hb
  go_wp2_with fail
  refine (markSteering_c _ _ _ _ _ _ _ _ _ _ _ _ _ _ _ _ o_ga o_gb o_gc (by omega) (by omega) (by omega) (by omega) (by omega)).mono ?_
  rintro e w18 ⟨rfl, om_x, om_y, om_z, hg⟩
  have k18 : Below w.heap.size w w18 := Grown3.below k17 (by omega) hg (fun k h1 => by have := (o_ga.lt k h1).1; omega) (fun k h1 => by have := (o_gb.lt k h1).1; omega) (fun k h1 => by have := (o_gc.lt k h1).1; omega)
  have p18 := hg.size
  replace bx0_0 := hg.cell bx0_0 (fun g h1 => by have := (o_ga.lt g h1).1; have := u_ga g h1; omega) (fun g h1 => by have := (o_gb.lt g h1).1; have := u_gb g h1; omega) (fun g h1 => by have := (o_gc.lt g h1).1; have := u_gc g h1; omega)
  replace bx0_1 := hg.cell bx0_1 (fun g h1 => by have := (o_ga.lt g h1).1; have := u_ga g h1; omega) (fun g h1 => by have := (o_gb.lt g h1).1; have := u_gb g h1; omega) (fun g h1 => by have := (o_gc.lt g h1).1; have := u_gc g h1; omega)
  replace bx0_2 := hg.cell bx0_2 (fun g h1 => by have := (o_ga.lt g h1).1; have := u_ga g h1; omega) (fun g h1 => by have := (o_gb.lt g h1).1; have := u_gb g h1; omega) (fun g h1 => by have := (o_gc.lt g h1).1; have := u_gc g h1; omega)
  replace bx0_3 := hg.cell bx0_3 (fun g h1 => by have := (o_ga.lt g h1).1; have := u_ga g h1; omega) (fun g h1 => by have := (o_gb.lt g h1).1; have := u_gb g h1; omega) (fun g h1 => by have := (o_gc.lt g h1).1; have := u_gc g h1; omega)
  replace bx1_0 := hg.cell bx1_0 (fun g h1 => by have := (o_ga.lt g h1).1; have := u_ga g h1; omega) (fun g h1 => by have := (o_gb.lt g h1).1; have := u_gb g h1; omega) (fun g h1 => by have := (o_gc.lt g h1).1; have := u_gc g h1; omega)
  replace bx1_1 := hg.cell bx1_1 (fun g h1 => by have := (o_ga.lt g h1).1; have := u_ga g h1; omega) (fun g h1 => by have := (o_gb.lt g h1).1; have := u_gb g h1; omega) (fun g h1 => by have := (o_gc.lt g h1).1; have := u_gc g h1; omega)
  replace bx1_2 := hg.cell bx1_2 (fun g h1 => by have := (o_ga.lt g h1).1; have := u_ga g h1; omega) (fun g h1 => by have := (o_gb.lt g h1).1; have := u_gb g h1; omega) (fun g h1 => by have := (o_gc.lt g h1).1; have := u_gc g h1; omega)
  replace bx1_3 := hg.cell bx1_3 (fun g h1 => by have := (o_ga.lt g h1).1; have := u_ga g h1; omega) (fun g h1 => by have := (o_gb.lt g h1).1; have := u_gb g h1; omega) (fun g h1 => by have := (o_gc.lt g h1).1; have := u_gc g h1; omega)
  replace bx2_0 := hg.cell bx2_0 (fun g h1 => by have := (o_ga.lt g h1).1; have := u_ga g h1; omega) (fun g h1 => by have := (o_gb.lt g h1).1; have := u_gb g h1; omega) (fun g h1 => by have := (o_gc.lt g h1).1; have := u_gc g h1; omega)
  replace bx2_1 := hg.cell bx2_1 (fun g h1 => by have := (o_ga.lt g h1).1; have := u_ga g h1; omega) (fun g h1 => by have := (o_gb.lt g h1).1; have := u_gb g h1; omega) (fun g h1 => by have := (o_gc.lt g h1).1; have := u_gc g h1; omega)
  replace bx2_2 := hg.cell bx2_2 (fun g h1 => by have := (o_ga.lt g h1).1; have := u_ga g h1; omega) (fun g h1 => by have := (o_gb.lt g h1).1; have := u_gb g h1; omega) (fun g h1 => by have := (o_gc.lt g h1).1; have := u_gc g h1; omega)
  replace bx2_3 := hg.cell bx2_3 (fun g h1 => by have := (o_ga.lt g h1).1; have := u_ga g h1; omega) (fun g h1 => by have := (o_gb.lt g h1).1; have := u_gb g h1; omega) (fun g h1 => by have := (o_gc.lt g h1).1; have := u_gc g h1; omega)
  replace bx3_0 := hg.cell bx3_0 (fun g h1 => by have := (o_ga.lt g h1).1; have := u_ga g h1; omega) (fun g h1 => by have := (o_gb.lt g h1).1; have := u_gb g h1; omega) (fun g h1 => by have := (o_gc.lt g h1).1; have := u_gc g h1; omega)
  replace bx3_1 := hg.cell bx3_1 (fun g h1 => by have := (o_ga.lt g h1).1; have := u_ga g h1; omega) (fun g h1 => by have := (o_gb.lt g h1).1; have := u_gb g h1; omega) (fun g h1 => by have := (o_gc.lt g h1).1; have := u_gc g h1; omega)
  replace bx3_2 := hg.cell bx3_2 (fun g h1 => by have := (o_ga.lt g h1).1; have := u_ga g h1; omega) (fun g h1 => by have := (o_gb.lt g h1).1; have := u_gb g h1; omega) (fun g h1 => by have := (o_gc.lt g h1).1; have := u_gc g h1; omega)
  replace bx3_3 := hg.cell bx3_3 (fun g h1 => by have := (o_ga.lt g h1).1; have := u_ga g h1; omega) (fun g h1 => by have := (o_gb.lt g h1).1; have := u_gb g h1; omega) (fun g h1 => by have := (o_gc.lt g h1).1; have := u_gc g h1; omega)
  have bl0 := Nat.lt_of_lt_of_le bl0 hg.size
  have bl1 := Nat.lt_of_lt_of_le bl1 hg.size
  have bl2 := Nat.lt_of_lt_of_le bl2 hg.size
  have bl3 := Nat.lt_of_lt_of_le bl3 hg.size
  replace r_f := hg.reads r_f (by omega) (fun g h1 => Nat.le_trans (by omega) (o_ga.lt g h1).1) (fun g h1 => Nat.le_trans (by omega) (o_gb.lt g h1).1) (fun g h1 => Nat.le_trans (by omega) (o_gc.lt g h1).1)
  replace r_r := hg.reads r_r (by omega) (fun g h1 => Nat.le_trans (by omega) (o_ga.lt g h1).1) (fun g h1 => Nat.le_trans (by omega) (o_gb.lt g h1).1) (fun g h1 => Nat.le_trans (by omega) (o_gc.lt g h1).1)
  replace r_s := hg.reads r_s (by omega) (fun g h1 => Nat.le_trans (by omega) (o_ga.lt g h1).1) (fun g h1 => Nat.le_trans (by omega) (o_gb.lt g h1).1) (fun g h1 => Nat.le_trans (by omega) (o_gc.lt g h1).1)
  replace r_t := hg.reads r_t (by omega) (fun g h1 => Nat.le_trans (by omega) (o_ga.lt g h1).1) (fun g h1 => Nat.le_trans (by omega) (o_gb.lt g h1).1) (fun g h1 => Nat.le_trans (by omega) (o_gc.lt g h1).1)
  have on_va := hg.own o_va (fun g h1 h2 => by first | exact own_ne_ty o_va o_ga (by decide) g h1 h2 | (have := u_va g h1; have := (o_ga.lt g h2).1; omega) | (have := (o_va.lt g h1).1; have := u_ga g h2; omega)) (fun g h1 h2 => by first | exact own_ne_ty o_va o_gb (by decide) g h1 h2 | (have := u_va g h1; have := (o_gb.lt g h2).1; omega) | (have := (o_va.lt g h1).1; have := u_gb g h2; omega)) (fun g h1 h2 => by first | exact own_ne_ty o_va o_gc (by decide) g h1 h2 | (have := u_va g h1; have := (o_gc.lt g h2).1; omega) | (have := (o_va.lt g h1).1; have := u_gc g h2; omega))
  have on_vb := hg.own o_vb (fun g h1 h2 => by first | exact own_ne_ty o_vb o_ga (by decide) g h1 h2 | (have := u_vb g h1; have := (o_ga.lt g h2).1; omega) | (have := (o_vb.lt g h1).1; have := u_ga g h2; omega)) (fun g h1 h2 => by first | exact own_ne_ty o_vb o_gb (by decide) g h1 h2 | (have := u_vb g h1; have := (o_gb.lt g h2).1; omega) | (have := (o_vb.lt g h1).1; have := u_gb g h2; omega)) (fun g h1 h2 => by first | exact own_ne_ty o_vb o_gc (by decide) g h1 h2 | (have := u_vb g h1; have := (o_gc.lt g h2).1; omega) | (have := (o_vb.lt g h1).1; have := u_gc g h2; omega))
  have on_vc := hg.own o_vc (fun g h1 h2 => by first | exact own_ne_ty o_vc o_ga (by decide) g h1 h2 | (have := u_vc g h1; have := (o_ga.lt g h2).1; omega) | (have := (o_vc.lt g h1).1; have := u_ga g h2; omega)) (fun g h1 h2 => by first | exact own_ne_ty o_vc o_gb (by decide) g h1 h2 | (have := u_vc g h1; have := (o_gb.lt g h2).1; omega) | (have := (o_vc.lt g h1).1; have := u_gb g h2; omega)) (fun g h1 h2 => by first | exact own_ne_ty o_vc o_gc (by decide) g h1 h2 | (have := u_vc g h1; have := (o_gc.lt g h2).1; omega) | (have := (o_vc.lt g h1).1; have := u_gc g h2; omega))
  replace o_va := on_va
  replace r_va := (Reads.of_own o_va)
  clear on_va
  replace o_vb := on_vb
  replace r_vb := (Reads.of_own o_vb)
  clear on_vb
  replace o_vc := on_vc
  replace r_vc := (Reads.of_own o_vc)
  clear on_vc
  replace o_ga := om_x
  replace r_ga := Reads.of_own o_ga
  replace o_gb := om_y
  replace r_gb := Reads.of_own o_gb
  replace o_gc := om_z
  replace r_gc := Reads.of_own o_gc
  clear hg om_x om_y om_z
  go_wp2_with fail
  refine (heldSteering_c _ _ _ _ _ _ _ _ _ _ _ _ (r_ga.more (by omega)) (r_gb.more (by omega)) (r_gc.more (by omega)) (by omega) (by omega) (by omega) (by omega) (by omega)).mono ?_
  rintro e w19 ⟨rfl, hb⟩
  have k19 : Below w.heap.size w w19 := ext_step k18 (by omega) hb
  have p19 := hb.size
  replace bx0_0 := ccell hb _ _ _ bx0_0
  replace bx0_1 := ccell hb _ _ _ bx0_1
  replace bx0_2 := ccell hb _ _ _ bx0_2
  replace bx0_3 := ccell hb _ _ _ bx0_3
  replace bx1_0 := ccell hb _ _ _ bx1_0
  replace bx1_1 := ccell hb _ _ _ bx1_1
  replace bx1_2 := ccell hb _ _ _ bx1_2
  replace bx1_3 := ccell hb _ _ _ bx1_3
  replace bx2_0 := ccell hb _ _ _ bx2_0
  replace bx2_1 := ccell hb _ _ _ bx2_1
  replace bx2_2 := ccell hb _ _ _ bx2_2
  replace bx2_3 := ccell hb _ _ _ bx2_3
  replace bx3_0 := ccell hb _ _ _ bx3_0
  replace bx3_1 := ccell hb _ _ _ bx3_1
  replace bx3_2 := ccell hb _ _ _ bx3_2
  replace bx3_3 := ccell hb _ _ _ bx3_3
  have bl0 := Nat.lt_of_lt_of_le bl0 hb.size
  have bl1 := Nat.lt_of_lt_of_le bl1 hb.size
  have bl2 := Nat.lt_of_lt_of_le bl2 hb.size
  have bl3 := Nat.lt_of_lt_of_le bl3 hb.size
  replace r_f := r_f.below (hb.mono (by omega))
  replace r_r := r_r.below (hb.mono (by omega))
  replace r_s := r_s.below (hb.mono (by omega))
  replace r_t := r_t.below (hb.mono (by omega))
  replace r_va := r_va.below (hb.mono (by omega))
  replace o_va := own_ext o_va hb
  replace r_vb := r_vb.below (hb.mono (by omega))
  replace o_vb := own_ext o_vb hb
  replace r_vc := r_vc.below (hb.mono (by omega))
  replace o_vc := own_ext o_vc hb
  replace r_ga := r_ga.below (hb.mono (by omega))
  replace o_ga := own_ext o_ga hb
  replace r_gb := r_gb.below (hb.mono (by omega))
  replace o_gb := own_ext o_gb hb
  replace r_gc := r_gc.below (hb.mono (by omega))
  replace o_gc := own_ext o_gc hb
  clear hb
  go_wp2_with fail
  refine (hto _ (r_r.more (by omega)) (r_s.more (by omega)) (r_t.more (by omega))).mono ?_
  rintro e w20 ⟨v, rfl, ⟨A_i, c_i, A_j, c_j, A_k, c_k, rfl, o_i, o_j, o_k⟩, hb⟩
  have k20 : Below w.heap.size w w20 := ext_step k19 (by omega) hb
  have p20 := hb.size
  replace bx0_0 := ccell hb _ _ _ bx0_0
  replace bx0_1 := ccell hb _ _ _ bx0_1
  replace bx0_2 := ccell hb _ _ _ bx0_2
  replace bx0_3 := ccell hb _ _ _ bx0_3
  replace bx1_0 := ccell hb _ _ _ bx1_0
  replace bx1_1 := ccell hb _ _ _ bx1_1
  replace bx1_2 := ccell hb _ _ _ bx1_2
  replace bx1_3 := ccell hb _ _ _ bx1_3
  replace bx2_0 := ccell hb _ _ _ bx2_0
  replace bx2_1 := ccell hb _ _ _ bx2_1
  replace bx2_2 := ccell hb _ _ _ bx2_2
  replace bx2_3 := ccell hb _ _ _ bx2_3
  replace bx3_0 := ccell hb _ _ _ bx3_0
  replace bx3_1 := ccell hb _ _ _ bx3_1
  replace bx3_2 := ccell hb _ _ _ bx3_2
  replace bx3_3 := ccell hb _ _ _ bx3_3
  have bl0 := Nat.lt_of_lt_of_le bl0 hb.size
  have bl1 := Nat.lt_of_lt_of_le bl1 hb.size
  have bl2 := Nat.lt_of_lt_of_le bl2 hb.size
  have bl3 := Nat.lt_of_lt_of_le bl3 hb.size
  replace r_f := r_f.below (hb.mono (by omega))
  replace r_r := r_r.below (hb.mono (by omega))
  replace r_s := r_s.below (hb.mono (by omega))
  replace r_t := r_t.below (hb.mono (by omega))
  replace r_va := r_va.below (hb.mono (by omega))
  replace o_va := own_ext o_va hb
  replace r_vb := r_vb.below (hb.mono (by omega))
  replace o_vb := own_ext o_vb hb
  replace r_vc := r_vc.below (hb.mono (by omega))
  replace o_vc := own_ext o_vc hb
  replace r_ga := r_ga.below (hb.mono (by omega))
  replace o_ga := own_ext o_ga hb
  replace r_gb := r_gb.below (hb.mono (by omega))
  replace o_gb := own_ext o_gb hb
  replace r_gc := r_gc.below (hb.mono (by omega))
  replace o_gc := own_ext o_gc hb
  have r_i := Reads.of_own o_i
  have u_i := fun k hk => (o_i.lt k hk).2
  have r_j := Reads.of_own o_j
  have u_j := fun k hk => (o_j.lt k hk).2
  have r_k := Reads.of_own o_k
  have u_k := fun k hk => (o_k.lt k hk).2
  clear hb
  go_wp2_with fail
  refine (toFlowS_c _ _ _ fs _ hn_f hs_f (r_f.more (by omega))).mono ?_
  rintro e w21 ⟨g_q, rfl, hg_q, b_q, hb⟩
  have k21 : Below w.heap.size w w21 := ext_step k20 (by omega) hb
  have p21 := hb.size
  replace bx0_0 := ccell hb _ _ _ bx0_0
  replace bx0_1 := ccell hb _ _ _ bx0_1
  replace bx0_2 := ccell hb _ _ _ bx0_2
  replace bx0_3 := ccell hb _ _ _ bx0_3
  replace bx1_0 := ccell hb _ _ _ bx1_0
  replace bx1_1 := ccell hb _ _ _ bx1_1
  replace bx1_2 := ccell hb _ _ _ bx1_2
  replace bx1_3 := ccell hb _ _ _ bx1_3
  replace bx2_0 := ccell hb _ _ _ bx2_0
  replace bx2_1 := ccell hb _ _ _ bx2_1
  replace bx2_2 := ccell hb _ _ _ bx2_2
  replace bx2_3 := ccell hb _ _ _ bx2_3
  replace bx3_0 := ccell hb _ _ _ bx3_0
  replace bx3_1 := ccell hb _ _ _ bx3_1
  replace bx3_2 := ccell hb _ _ _ bx3_2
  replace bx3_3 := ccell hb _ _ _ bx3_3
  have bl0 := Nat.lt_of_lt_of_le bl0 hb.size
  have bl1 := Nat.lt_of_lt_of_le bl1 hb.size
  have bl2 := Nat.lt_of_lt_of_le bl2 hb.size
  have bl3 := Nat.lt_of_lt_of_le bl3 hb.size
  replace r_f := r_f.below (hb.mono (by omega))
  replace r_r := r_r.below (hb.mono (by omega))
  replace r_s := r_s.below (hb.mono (by omega))
  replace r_t := r_t.below (hb.mono (by omega))
  replace r_va := r_va.below (hb.mono (by omega))
  replace o_va := own_ext o_va hb
  replace r_vb := r_vb.below (hb.mono (by omega))
  replace o_vb := own_ext o_vb hb
  replace r_vc := r_vc.below (hb.mono (by omega))
  replace o_vc := own_ext o_vc hb
  replace r_ga := r_ga.below (hb.mono (by omega))
  replace o_ga := own_ext o_ga hb
  replace r_gb := r_gb.below (hb.mono (by omega))
  replace o_gb := own_ext o_gb hb
  replace r_gc := r_gc.below (hb.mono (by omega))
  replace o_gc := own_ext o_gc hb
  replace r_i := r_i.below (hb.mono (by omega))
  replace o_i := own_ext o_i hb
  replace r_j := r_j.below (hb.mono (by omega))
  replace o_j := own_ext o_j hb
  replace r_k := r_k.below (hb.mono (by omega))
  replace o_k := own_ext o_k hb
  have r_q := b_q.reads (size := 5) (n := nf) (by rw [flatMap_len _ 5 (fun _ => rfl), hn_f])
  have o_q := b_q.own (base := w20.heap.size) (size := 5) (n := nf) hg_q (by rw [flatMap_len _ 5 (fun _ => rfl), hn_f]) (by unfold maxLen; omega) rfl
  have u_q := fun k hk => (o_q.lt k hk).2
  clear hb
  go_wp2_with fail
  refine (himpl _ _ _ _ _ _ _ _ _ (r_i.more (by omega)) (r_j.more (by omega)) (r_k.more (by omega)) (r_q.more (by omega))).mono ?_
  rintro e w22 ⟨v, rfl, ⟨A_ia, c_ia, A_ib, c_ib, A_ic, c_ic, rfl, o_ia, o_ib, o_ic⟩, hb⟩
  have k22 : Below w.heap.size w w22 := ext_step k21 (by omega) hb
  have p22 := hb.size
  replace bx0_0 := ccell hb _ _ _ bx0_0
  replace bx0_1 := ccell hb _ _ _ bx0_1
  replace bx0_2 := ccell hb _ _ _ bx0_2
  replace bx0_3 := ccell hb _ _ _ bx0_3
  replace bx1_0 := ccell hb _ _ _ bx1_0
  replace bx1_1 := ccell hb _ _ _ bx1_1
  replace bx1_2 := ccell hb _ _ _ bx1_2
  replace bx1_3 := ccell hb _ _ _ bx1_3
  replace bx2_0 := ccell hb _ _ _ bx2_0
  replace bx2_1 := ccell hb _ _ _ bx2_1
  replace bx2_2 := ccell hb _ _ _ bx2_2
  replace bx2_3 := ccell hb _ _ _ bx2_3
  replace bx3_0 := ccell hb _ _ _ bx3_0
  replace bx3_1 := ccell hb _ _ _ bx3_1
  replace bx3_2 := ccell hb _ _ _ bx3_2
  replace bx3_3 := ccell hb _ _ _ bx3_3
  have bl0 := Nat.lt_of_lt_of_le bl0 hb.size
  have bl1 := Nat.lt_of_lt_of_le bl1 hb.size
  have bl2 := Nat.lt_of_lt_of_le bl2 hb.size
  have bl3 := Nat.lt_of_lt_of_le bl3 hb.size
  replace r_f := r_f.below (hb.mono (by omega))
  replace r_r := r_r.below (hb.mono (by omega))
  replace r_s := r_s.below (hb.mono (by omega))
  replace r_t := r_t.below (hb.mono (by omega))
  replace r_va := r_va.below (hb.mono (by omega))
  replace o_va := own_ext o_va hb
  replace r_vb := r_vb.below (hb.mono (by omega))
  replace o_vb := own_ext o_vb hb
  replace r_vc := r_vc.below (hb.mono (by omega))
  replace o_vc := own_ext o_vc hb
  replace r_ga := r_ga.below (hb.mono (by omega))
  replace o_ga := own_ext o_ga hb
  replace r_gb := r_gb.below (hb.mono (by omega))
  replace o_gb := own_ext o_gb hb
  replace r_gc := r_gc.below (hb.mono (by omega))
  replace o_gc := own_ext o_gc hb
  replace r_i := r_i.below (hb.mono (by omega))
  replace o_i := own_ext o_i hb
  replace r_j := r_j.below (hb.mono (by omega))
  replace o_j := own_ext o_j hb
  replace r_k := r_k.below (hb.mono (by omega))
  replace o_k := own_ext o_k hb
  replace r_q := r_q.below (hb.mono (by omega))
  replace o_q := own_ext o_q hb
  have r_ia := Reads.of_own o_ia
  have u_ia := fun k hk => (o_ia.lt k hk).2
  have r_ib := Reads.of_own o_ib
  have u_ib := fun k hk => (o_ib.lt k hk).2
  have r_ic := Reads.of_own o_ic
  have u_ic := fun k hk => (o_ic.lt k hk).2
  clear hb
  go_wp2_with fail
  obtain ⟨w23, hW0⟩ : ∃ W, W = (w22.alloc (.cells #[.slice A_ia rs.length c_ia, .slice A_ib lz.length c_ib, .string key, .slice A_ic tb.length c_ic] 58)) := ⟨_, rfl⟩
  have hb : Below w22.heap.size w22 w23 := by rw [hW0]; go_grown
  have hkz : Blk w23 w22.heap.size 58 [.slice A_ia rs.length c_ia, .slice A_ib lz.length c_ib, .string key, .slice A_ic tb.length c_ic] := by rw [hW0]; exact Blk.new _ _ _
  rw [← hW0]
  clear hW0
  have bl4 := hkz.lt
  have k23 : Below w.heap.size w w23 := ext_step k22 (by omega) hb
  have p23 := hb.size
  replace bx0_0 := ccell hb _ _ _ bx0_0
  replace bx0_1 := ccell hb _ _ _ bx0_1
  replace bx0_2 := ccell hb _ _ _ bx0_2
  replace bx0_3 := ccell hb _ _ _ bx0_3
  replace bx1_0 := ccell hb _ _ _ bx1_0
  replace bx1_1 := ccell hb _ _ _ bx1_1
  replace bx1_2 := ccell hb _ _ _ bx1_2
  replace bx1_3 := ccell hb _ _ _ bx1_3
  replace bx2_0 := ccell hb _ _ _ bx2_0
  replace bx2_1 := ccell hb _ _ _ bx2_1
  replace bx2_2 := ccell hb _ _ _ bx2_2
  replace bx2_3 := ccell hb _ _ _ bx2_3
  replace bx3_0 := ccell hb _ _ _ bx3_0
  replace bx3_1 := ccell hb _ _ _ bx3_1
  replace bx3_2 := ccell hb _ _ _ bx3_2
  replace bx3_3 := ccell hb _ _ _ bx3_3
  have bl0 := Nat.lt_of_lt_of_le bl0 hb.size
  have bl1 := Nat.lt_of_lt_of_le bl1 hb.size
  have bl2 := Nat.lt_of_lt_of_le bl2 hb.size
  have bl3 := Nat.lt_of_lt_of_le bl3 hb.size
  replace r_f := r_f.below (hb.mono (by omega))
  replace r_r := r_r.below (hb.mono (by omega))
  replace r_s := r_s.below (hb.mono (by omega))
  replace r_t := r_t.below (hb.mono (by omega))
  replace r_va := r_va.below (hb.mono (by omega))
  replace o_va := own_ext o_va hb
  replace r_vb := r_vb.below (hb.mono (by omega))
  replace o_vb := own_ext o_vb hb
  replace r_vc := r_vc.below (hb.mono (by omega))
  replace o_vc := own_ext o_vc hb
  replace r_ga := r_ga.below (hb.mono (by omega))
  replace o_ga := own_ext o_ga hb
  replace r_gb := r_gb.below (hb.mono (by omega))
  replace o_gb := own_ext o_gb hb
  replace r_gc := r_gc.below (hb.mono (by omega))
  replace o_gc := own_ext o_gc hb
  replace r_i := r_i.below (hb.mono (by omega))
  replace o_i := own_ext o_i hb
  replace r_j := r_j.below (hb.mono (by omega))
  replace o_j := own_ext o_j hb
  replace r_k := r_k.below (hb.mono (by omega))
  replace o_k := own_ext o_k hb
  replace r_q := r_q.below (hb.mono (by omega))
  replace o_q := own_ext o_q hb
  replace r_ia := r_ia.below (hb.mono (by omega))
  replace o_ia := own_ext o_ia hb
  replace r_ib := r_ib.below (hb.mono (by omega))
  replace o_ib := own_ext o_ib hb
  replace r_ic := r_ic.below (hb.mono (by omega))
  replace o_ic := own_ext o_ic hb
  have bx4_0 := hkz.at_ 0 _ rfl
  have bx4_1 := hkz.at_ 1 _ rfl
  have bx4_2 := hkz.at_ 2 _ rfl
  have bx4_3 := hkz.at_ 3 _ rfl
  clear hb hkz
  (try clear o_i)
  (try clear r_i)
  (try clear o_j)
  (try clear r_j)
  (try clear o_k)
  (try clear r_k)
  (try clear o_q)
  (try clear r_q)
  refine (heqz _ _ _ _ _ _ _ _ _ _ _ _ _ (r_ia.more (by omega)) (r_ib.more (by omega)) (r_ic.more (by omega)) (r_va.more (by omega)) (r_vb.more (by omega)) (r_vc.more (by omega))).mono ?_
  rintro e w24 ⟨rfl, hb⟩
  have k24 : Below w.heap.size w w24 := ext_step k23 (by omega) hb
  have p24 := hb.size
  replace bx0_0 := ccell hb _ _ _ bx0_0
  replace bx0_1 := ccell hb _ _ _ bx0_1
  replace bx0_2 := ccell hb _ _ _ bx0_2
  replace bx0_3 := ccell hb _ _ _ bx0_3
  replace bx1_0 := ccell hb _ _ _ bx1_0
  replace bx1_1 := ccell hb _ _ _ bx1_1
  replace bx1_2 := ccell hb _ _ _ bx1_2
  replace bx1_3 := ccell hb _ _ _ bx1_3
  replace bx2_0 := ccell hb _ _ _ bx2_0
  replace bx2_1 := ccell hb _ _ _ bx2_1
  replace bx2_2 := ccell hb _ _ _ bx2_2
  replace bx2_3 := ccell hb _ _ _ bx2_3
  replace bx3_0 := ccell hb _ _ _ bx3_0
  replace bx3_1 := ccell hb _ _ _ bx3_1
  replace bx3_2 := ccell hb _ _ _ bx3_2
  replace bx3_3 := ccell hb _ _ _ bx3_3
  replace bx4_0 := ccell hb _ _ _ bx4_0
  replace bx4_1 := ccell hb _ _ _ bx4_1
  replace bx4_2 := ccell hb _ _ _ bx4_2
  replace bx4_3 := ccell hb _ _ _ bx4_3
  have bl0 := Nat.lt_of_lt_of_le bl0 hb.size
  have bl1 := Nat.lt_of_lt_of_le bl1 hb.size
  have bl2 := Nat.lt_of_lt_of_le bl2 hb.size
  have bl3 := Nat.lt_of_lt_of_le bl3 hb.size
  have bl4 := Nat.lt_of_lt_of_le bl4 hb.size
  replace r_f := r_f.below (hb.mono (by omega))
  replace r_r := r_r.below (hb.mono (by omega))
  replace r_s := r_s.below (hb.mono (by omega))
  replace r_t := r_t.below (hb.mono (by omega))
  replace r_va := r_va.below (hb.mono (by omega))
  replace o_va := own_ext o_va hb
  replace r_vb := r_vb.below (hb.mono (by omega))
  replace o_vb := own_ext o_vb hb
  replace r_vc := r_vc.below (hb.mono (by omega))
  replace o_vc := own_ext o_vc hb
  replace r_ga := r_ga.below (hb.mono (by omega))
  replace o_ga := own_ext o_ga hb
  replace r_gb := r_gb.below (hb.mono (by omega))
  replace o_gb := own_ext o_gb hb
  replace r_gc := r_gc.below (hb.mono (by omega))
  replace o_gc := own_ext o_gc hb
  replace r_ia := r_ia.below (hb.mono (by omega))
  replace o_ia := own_ext o_ia hb
  replace r_ib := r_ib.below (hb.mono (by omega))
  replace o_ib := own_ext o_ib hb
  replace r_ic := r_ic.below (hb.mono (by omega))
  replace o_ic := own_ext o_ic hb
  clear hb
  (try clear o_ia)
  (try clear r_ia)
  (try clear o_ib)
  (try clear r_ib)
  (try clear o_ic)
  (try clear r_ic)
  (try clear o_va)
  (try clear r_va)
  (try clear o_vb)
  (try clear r_vb)
  (try clear o_vc)
  (try clear r_vc)
  go_wp2_with fail
  refine (heldSteering_c _ _ _ _ _ _ _ _ _ _ _ _ (r_ga.more (by omega)) (r_gb.more (by omega)) (r_gc.more (by omega)) (by omega) (by omega) (by omega) (by omega) (by omega)).mono ?_
  rintro e w25 ⟨rfl, hb⟩
  have k25 : Below w.heap.size w w25 := ext_step k24 (by omega) hb
  have p25 := hb.size
  replace bx0_0 := ccell hb _ _ _ bx0_0
  replace bx0_1 := ccell hb _ _ _ bx0_1
  replace bx0_2 := ccell hb _ _ _ bx0_2
  replace bx0_3 := ccell hb _ _ _ bx0_3
  replace bx1_0 := ccell hb _ _ _ bx1_0
  replace bx1_1 := ccell hb _ _ _ bx1_1
  replace bx1_2 := ccell hb _ _ _ bx1_2
  replace bx1_3 := ccell hb _ _ _ bx1_3
  replace bx2_0 := ccell hb _ _ _ bx2_0
  replace bx2_1 := ccell hb _ _ _ bx2_1
  replace bx2_2 := ccell hb _ _ _ bx2_2
  replace bx2_3 := ccell hb _ _ _ bx2_3
  replace bx3_0 := ccell hb _ _ _ bx3_0
  replace bx3_1 := ccell hb _ _ _ bx3_1
  replace bx3_2 := ccell hb _ _ _ bx3_2
  replace bx3_3 := ccell hb _ _ _ bx3_3
  replace bx4_0 := ccell hb _ _ _ bx4_0
  replace bx4_1 := ccell hb _ _ _ bx4_1
  replace bx4_2 := ccell hb _ _ _ bx4_2
  replace bx4_3 := ccell hb _ _ _ bx4_3
  have bl0 := Nat.lt_of_lt_of_le bl0 hb.size
  have bl1 := Nat.lt_of_lt_of_le bl1 hb.size
  have bl2 := Nat.lt_of_lt_of_le bl2 hb.size
  have bl3 := Nat.lt_of_lt_of_le bl3 hb.size
  have bl4 := Nat.lt_of_lt_of_le bl4 hb.size
  replace r_f := r_f.below (hb.mono (by omega))
  replace r_r := r_r.below (hb.mono (by omega))
  replace r_s := r_s.below (hb.mono (by omega))
  replace r_t := r_t.below (hb.mono (by omega))
  replace r_ga := r_ga.below (hb.mono (by omega))
  replace o_ga := own_ext o_ga hb
  replace r_gb := r_gb.below (hb.mono (by omega))
  replace o_gb := own_ext o_gb hb
  replace r_gc := r_gc.below (hb.mono (by omega))
  replace o_gc := own_ext o_gc hb
  clear hb
  go_wp2
  go_ret
  exact ⟨rfl, k25⟩
theorem pin_law (Ar : Option Addr) (cr : Nat) (rs : List Rule) (As : Option Addr) (cs : Nat) (l : List Slot) (key : ByteArray) (At : Option Addr) (ct : Nat) (tb : List Int) (q : Int) (Af : Option Addr) (nf cf : Nat) (fs : List Flow) (hn_f : fs.length = nf) (qq : Int) (w : World) (r_r : Reads w w.heap.size 9 Ar rs.length (rs.flatMap Rule.cells)) (r_s : Reads w w.heap.size 7 As l.length (l.flatMap Slot.cells)) (r_t : Reads w w.heap.size 1 At tb.length (tb.flatMap fun x : Int => [Value.int .i64 x])) (r_f : Reads w w.heap.size 5 Af nf (fs.flatMap Flow.cells)) (hk : key.size ≤ maxLen) (hm1 : rs.length ≤ 9223372036854775807) (hm2 : l.length ≤ 9223372036854775807) (hm3 : tb.length ≤ 9223372036854775807) (hm4 : nf ≤ 9223372036854775807) :
    Calls Try.prog 7 #[.agg #[.slice Ar rs.length cr, .slice As l.length cs, .string key, .slice At tb.length ct], .int .i64 q, .slice Af nf cf, .int .i64 qq] w fun e w' => e = .returned (.bool true) ∧ Below w.heap.size w w' := by
  by_cases h1 : (1048576 : Int) < (rs.length : Int) + l.length + key.size + tb.length
  · exact pinL_n Ar cr rs As cs l key At ct tb q Af nf cf fs hn_f qq w (fun u => szSteering_n Ar rs.length cr As l.length cs key At tb.length ct 1048576 u hk (by decide) h1 (by decide) hm1 hm2 hm3)
  · have hz1 := fun u => szSteering_p Ar rs.length cr As l.length cs key At tb.length ct 1048576 u hk (by omega) (by decide)
    have hz2 := fun u => szFlowS_c Af nf cf (1048576 - rs.length - l.length - key.size - tb.length) u (by omega) (by omega) hm4
    by_cases h2 : (1048576 : Int) - rs.length - l.length - key.size - tb.length - nf < 0
    · simp only [if_pos h2] at hz2
      exact pinL_m Ar cr rs As cs l key At ct tb q Af nf cf fs hn_f qq w _ (by omega) hz1 hz2
    · simp only [if_neg h2] at hz2
      exact pinL_ok Ar cr rs As cs l key At ct tb q Af nf cf fs hn_f qq w _ _ (by omega) h2 hz1 hz2 (by omega) (by omega) (by omega) (by omega) r_r r_s r_t r_f
theorem fnExactPinFlows_walk (A1 : Option Addr) (n1 c1 : Nat) (l1 : List Rule) (A2 : Option Addr) (n2 c2 : Nat) (l2 : List Slot) (key : ByteArray) (A3 : Option Addr) (n3 c3 : Nat) (l3 : List Int) (q : Int) (A4 : Option Addr) (n4 c4 : Nat) (l4 : List Flow) (qq : Int) (w : World) (s1 : SlRule w A1 n1 c1 l1) (s2 : SlSlot w A2 n2 c2 l2) (hk : key.size ≤ maxLen) (s3 : SlInt w A3 n3 c3 l3) (hq : I64 q) (s4 : SlFlow w A4 n4 c4 l4) (hqq : I64 qq) :
    Calls Try.prog 7 #[.agg #[.slice A1 n1 c1, .slice A2 n2 c2, .string key, .slice A3 n3 c3], .int .i64 q, .slice A4 n4 c4, .int .i64 qq] w fun e w' => e = .returned (.bool true) ∧ Below w.heap.size w w' := by
  obtain ⟨⟨rfl, hnc1, hc1, r1⟩, _⟩ := s1
  obtain ⟨⟨rfl, hnc2, hc2, r2⟩, _⟩ := s2
  obtain ⟨⟨rfl, hnc3, hc3, r3⟩, _⟩ := s3
  obtain ⟨⟨hn4, hnc4, hc4, r4⟩, hok⟩ := s4
  exact pin_law A1 c1 l1 A2 c2 l2 key A3 c3 l3 q A4 n4 c4 l4 hn4 qq w r1 r2 r3 r4 hk (by omega) (by omega) (by omega) (by omega)
end Go.Proofs.Ytifbfmafogmemaa
