/- The walk of laws.FnExactQueuePackets. -/
import Derived.Test.YtifbfmafogmemaaStQ
import Derived.Test.YtifbfmafogmemaaConvPks3
import Derived.Test.YtifbfmafogmemaaConvSt3
namespace Go.Proofs.Ytifbfmafogmemaa
set_option linter.unusedSimpArgs false
set_option linter.unusedVariables false
open Go.RowKit Go.ChangeShapes Go.WideShapes
set_option maxRecDepth 100000 in
set_option maxHeartbeats 4000000 in
theorem qpL_n (Ar : Option Addr) (cr : Nat) (rs : List Rule) (As : Option Addr) (cs : Nat) (l : List Slot) (key : ByteArray) (At : Option Addr) (ct : Nat) (tb : List Int) (q : Int) (Ap : Option Addr) (np cp : Nat) (lp : List Packet) (hn_p : lp.length = np) (qq : Int) (w : World) (hz1 : ∀ u, Calls Try.prog 21 #[.agg #[.slice Ar rs.length cr, .slice As l.length cs, .string key, .slice At tb.length ct], .int .i64 1048576] u fun e w' => e = .returned (.int .i64 (-1)) ∧ Below u.heap.size u w') :
    Calls Try.prog 8 #[.agg #[.slice Ar rs.length cr, .slice As l.length cs, .string key, .slice At tb.length ct], .int .i64 q, .slice Ap np cp, .int .i64 qq] w fun e w' => e = .returned (.bool true) ∧ Below w.heap.size w w' := by
  go_enter Try.func8, Try.ntmps8
  go_wp2_with fail
  have k0 : Below w.heap.size w (w.alloc (.cells #[.slice Ar rs.length cr, .slice As l.length cs, .string key, .slice At tb.length ct] 49)) := by go_grown
  have bx0_0 : (w.alloc (.cells #[.slice Ar rs.length cr, .slice As l.length cs, .string key, .slice At tb.length ct] 49)).cell? ⟨w.heap.size, 0, none⟩ = some (.slice Ar rs.length cr) := by simp [go_sem]
  have bx0_1 : (w.alloc (.cells #[.slice Ar rs.length cr, .slice As l.length cs, .string key, .slice At tb.length ct] 49)).cell? ⟨w.heap.size, 1, none⟩ = some (.slice As l.length cs) := by simp [go_sem]
  have bx0_2 : (w.alloc (.cells #[.slice Ar rs.length cr, .slice As l.length cs, .string key, .slice At tb.length ct] 49)).cell? ⟨w.heap.size, 2, none⟩ = some (.string key) := by simp [go_sem]
  have bx0_3 : (w.alloc (.cells #[.slice Ar rs.length cr, .slice As l.length cs, .string key, .slice At tb.length ct] 49)).cell? ⟨w.heap.size, 3, none⟩ = some (.slice At tb.length ct) := by simp [go_sem]
  have bl0 : w.heap.size < (w.alloc (.cells #[.slice Ar rs.length cr, .slice As l.length cs, .string key, .slice At tb.length ct] 49)).heap.size := by go_size
  have p0 := k0.size
  generalize hW0 : (w.alloc (.cells #[.slice Ar rs.length cr, .slice As l.length cs, .string key, .slice At tb.length ct] 49)) = w0 at *
  clear hW0
  refine (hz1 _).mono ?_
  rintro e w1 ⟨rfl, hb⟩
  have k1 : Below w.heap.size w w1 := ext_step k0 (by omega) hb
  have p1 := hb.size
  replace bx0_0 := ccell hb _ _ _ bx0_0
  replace bx0_1 := ccell hb _ _ _ bx0_1
  replace bx0_2 := ccell hb _ _ _ bx0_2
  replace bx0_3 := ccell hb _ _ _ bx0_3
  have bl0 := Nat.lt_of_lt_of_le bl0 hb.size
  clear hb
  go_wp2
  go_ret
  exact ⟨rfl, k1⟩
set_option maxRecDepth 100000 in
set_option maxHeartbeats 4000000 in
theorem qpL_m (Ar : Option Addr) (cr : Nat) (rs : List Rule) (As : Option Addr) (cs : Nat) (l : List Slot) (key : ByteArray) (At : Option Addr) (ct : Nat) (tb : List Int) (q : Int) (Ap : Option Addr) (np cp : Nat) (lp : List Packet) (hn_p : lp.length = np) (qq : Int) (w : World) (lf : Int) (hl0 : ¬ lf < 0) (hz1 : ∀ u, Calls Try.prog 21 #[.agg #[.slice Ar rs.length cr, .slice As l.length cs, .string key, .slice At tb.length ct], .int .i64 1048576] u fun e w' => e = .returned (.int .i64 lf) ∧ Below u.heap.size u w') (hz2 : ∀ u, Reads u u.heap.size 16 Ap np (lp.flatMap Packet.cells) → Calls Try.prog 34 #[.slice Ap np cp, .int .i64 lf] u fun e w' => e = .returned (.int .i64 (-1)) ∧ Below u.heap.size u w') (r_p : Reads w w.heap.size 16 Ap np (lp.flatMap Packet.cells)) :
    Calls Try.prog 8 #[.agg #[.slice Ar rs.length cr, .slice As l.length cs, .string key, .slice At tb.length ct], .int .i64 q, .slice Ap np cp, .int .i64 qq] w fun e w' => e = .returned (.bool true) ∧ Below w.heap.size w w' := by
  go_enter Try.func8, Try.ntmps8
  go_wp2_with fail
  have k0 : Below w.heap.size w (w.alloc (.cells #[.slice Ar rs.length cr, .slice As l.length cs, .string key, .slice At tb.length ct] 49)) := by go_grown
  have bx0_0 : (w.alloc (.cells #[.slice Ar rs.length cr, .slice As l.length cs, .string key, .slice At tb.length ct] 49)).cell? ⟨w.heap.size, 0, none⟩ = some (.slice Ar rs.length cr) := by simp [go_sem]
  have bx0_1 : (w.alloc (.cells #[.slice Ar rs.length cr, .slice As l.length cs, .string key, .slice At tb.length ct] 49)).cell? ⟨w.heap.size, 1, none⟩ = some (.slice As l.length cs) := by simp [go_sem]
  have bx0_2 : (w.alloc (.cells #[.slice Ar rs.length cr, .slice As l.length cs, .string key, .slice At tb.length ct] 49)).cell? ⟨w.heap.size, 2, none⟩ = some (.string key) := by simp [go_sem]
  have bx0_3 : (w.alloc (.cells #[.slice Ar rs.length cr, .slice As l.length cs, .string key, .slice At tb.length ct] 49)).cell? ⟨w.heap.size, 3, none⟩ = some (.slice At tb.length ct) := by simp [go_sem]
  have bl0 : w.heap.size < (w.alloc (.cells #[.slice Ar rs.length cr, .slice As l.length cs, .string key, .slice At tb.length ct] 49)).heap.size := by go_size
  have r_p := r_p.below k0
  have p0 := k0.size
  generalize hW0 : (w.alloc (.cells #[.slice Ar rs.length cr, .slice As l.length cs, .string key, .slice At tb.length ct] 49)) = w0 at *
  clear hW0
  refine (hz1 _).mono ?_
  rintro e w1 ⟨rfl, hb⟩
  have k1 : Below w.heap.size w w1 := ext_step k0 (by omega) hb
  have p1 := hb.size
  replace bx0_0 := ccell hb _ _ _ bx0_0
  replace bx0_1 := ccell hb _ _ _ bx0_1
  replace bx0_2 := ccell hb _ _ _ bx0_2
  replace bx0_3 := ccell hb _ _ _ bx0_3
  have bl0 := Nat.lt_of_lt_of_le bl0 hb.size
  replace r_p := r_p.below (hb.mono (by omega))
  clear hb
  go_wp2_with fail
  refine (hz2 _ (r_p.more (by omega))).mono ?_
  rintro e w2 ⟨rfl, hb⟩
  have k2 : Below w.heap.size w w2 := ext_step k1 (by omega) hb
  have p2 := hb.size
  replace bx0_0 := ccell hb _ _ _ bx0_0
  replace bx0_1 := ccell hb _ _ _ bx0_1
  replace bx0_2 := ccell hb _ _ _ bx0_2
  replace bx0_3 := ccell hb _ _ _ bx0_3
  have bl0 := Nat.lt_of_lt_of_le bl0 hb.size
  replace r_p := r_p.below (hb.mono (by omega))
  clear hb
  go_wp2
  go_ret
  exact ⟨rfl, k2⟩
set_option maxRecDepth 100000 in
set_option maxHeartbeats 8000000 in
theorem qpL_ok (Ar : Option Addr) (cr : Nat) (rs : List Rule) (As : Option Addr) (cs : Nat) (l : List Slot) (key : ByteArray) (At : Option Addr) (ct : Nat) (tb : List Int) (q : Int) (Ap : Option Addr) (np cp : Nat) (lp : List Packet) (hn_p : lp.length = np) (qq : Int) (w : World) (lf lg : Int) (hl0 : ¬ lf < 0) (hg0 : ¬ lg < 0) (hz1 : ∀ u, Calls Try.prog 21 #[.agg #[.slice Ar rs.length cr, .slice As l.length cs, .string key, .slice At tb.length ct], .int .i64 1048576] u fun e w' => e = .returned (.int .i64 lf) ∧ Below u.heap.size u w') (hz2 : ∀ u, Reads u u.heap.size 16 Ap np (lp.flatMap Packet.cells) → Calls Try.prog 34 #[.slice Ap np cp, .int .i64 lf] u fun e w' => e = .returned (.int .i64 lg) ∧ Below u.heap.size u w')
    (hmr : rs.length ≤ 1048576) (hms : l.length ≤ 1048576) (hmt : tb.length ≤ 1048576) (hmp : np ≤ 1048576) (hzp : ∀ p ∈ lp, p.seg_body.size ≤ 1048576) (r_r : Reads w w.heap.size 9 Ar rs.length (rs.flatMap Rule.cells)) (r_s : Reads w w.heap.size 7 As l.length (l.flatMap Slot.cells)) (r_t : Reads w w.heap.size 1 At tb.length (tb.flatMap fun x : Int => [Value.int .i64 x])) (r_p : Reads w w.heap.size 16 Ap np (lp.flatMap Packet.cells)) :
    Calls Try.prog 8 #[.agg #[.slice Ar rs.length cr, .slice As l.length cs, .string key, .slice At tb.length ct], .int .i64 q, .slice Ap np cp, .int .i64 qq] w fun e w' => e = .returned (.bool true) ∧ Below w.heap.size w w' := by
  have hto := fun (u : World) h1 h2 h3 => toSteering_c Ar rs.length cr rs As l.length cs l key At tb.length ct tb u rfl hmr h1 rfl hms h2 rfl hmt h3
  have hspec := fun (A1 : Option Addr) (c1 : Nat) (A2 : Option Addr) (c2 : Nat) (A3 : Option Addr) (c3 : Nat) (A4 : Option Addr) (c4 : Nat) (u : World) h1 h2 h3 h4 => specQueuePackets_c A1 rs.length c1 rs A2 l.length c2 l key A3 tb.length c3 tb q A4 np c4 lp qq u rfl hmr h1 rfl hms h2 rfl hmt h3 hn_p hmp h4 hzp
  have himpl := fun (A1 : Option Addr) (c1 : Nat) (A2 : Option Addr) (c2 : Nat) (A3 : Option Addr) (c3 : Nat) (A4 : Option Addr) (c4 : Nat) (u : World) h1 h2 h3 h4 => implQueuePackets_c A1 rs.length c1 rs A2 l.length c2 l key A3 tb.length c3 tb q A4 np c4 lp qq u rfl hmr h1 rfl hms h2 rfl hmt h3 hn_p hmp h4 hzp
  have heq := fun (A1 : Option Addr) (c1 : Nat) (A2 : Option Addr) (c2 : Nat) (A3 : Option Addr) (c3 : Nat) (B1 : Option Addr) (d1 : Nat) (B2 : Option Addr) (d2 : Nat) (B3 : Option Addr) (d3 : Nat) (u : World) h1 h2 h3 => eqSteering_c A1 rs.length c1 rs A2 l.length c2 l key A3 tb.length c3 tb B1 d1 B2 d2 B3 d3 u rfl hmr h1 rfl hms h2 rfl hmt h3
  have hM0 : (qpL rs l key tb q qq lp).length ≤ np := by rw [← hn_p]; unfold qpL; split <;> simp [List.length_filter_le]
  have hs_p := hmp
  obtain ⟨lw, hlw⟩ : ∃ x, qpL rs l key tb q qq lp = x := ⟨_, rfl⟩
  obtain ⟨M, hn_v⟩ : ∃ x, lw.length = x := ⟨_, rfl⟩
  simp only [hlw, hn_v] at hspec himpl hM0
  clear hlw
  go_enter Try.func8, Try.ntmps8
  go_wp2_with fail
  have k0 : Below w.heap.size w (w.alloc (.cells #[.slice Ar rs.length cr, .slice As l.length cs, .string key, .slice At tb.length ct] 49)) := by go_grown
  have bx0_0 : (w.alloc (.cells #[.slice Ar rs.length cr, .slice As l.length cs, .string key, .slice At tb.length ct] 49)).cell? ⟨w.heap.size, 0, none⟩ = some (.slice Ar rs.length cr) := by simp [go_sem]
  have bx0_1 : (w.alloc (.cells #[.slice Ar rs.length cr, .slice As l.length cs, .string key, .slice At tb.length ct] 49)).cell? ⟨w.heap.size, 1, none⟩ = some (.slice As l.length cs) := by simp [go_sem]
  have bx0_2 : (w.alloc (.cells #[.slice Ar rs.length cr, .slice As l.length cs, .string key, .slice At tb.length ct] 49)).cell? ⟨w.heap.size, 2, none⟩ = some (.string key) := by simp [go_sem]
  have bx0_3 : (w.alloc (.cells #[.slice Ar rs.length cr, .slice As l.length cs, .string key, .slice At tb.length ct] 49)).cell? ⟨w.heap.size, 3, none⟩ = some (.slice At tb.length ct) := by simp [go_sem]
  have bl0 : w.heap.size < (w.alloc (.cells #[.slice Ar rs.length cr, .slice As l.length cs, .string key, .slice At tb.length ct] 49)).heap.size := by go_size
  have r_p := r_p.below k0
  have r_r := r_r.below k0
  have r_s := r_s.below k0
  have r_t := r_t.below k0
  have p0 := k0.size
  generalize hW0 : (w.alloc (.cells #[.slice Ar rs.length cr, .slice As l.length cs, .string key, .slice At tb.length ct] 49)) = w0 at *
  clear hW0
  refine (hz1 _).mono ?_
  rintro e w1 ⟨rfl, hb⟩
  have k1 : Below w.heap.size w w1 := ext_step k0 (by omega) hb
  have p1 := hb.size
  replace bx0_0 := ccell hb _ _ _ bx0_0
  replace bx0_1 := ccell hb _ _ _ bx0_1
  replace bx0_2 := ccell hb _ _ _ bx0_2
  replace bx0_3 := ccell hb _ _ _ bx0_3
  have bl0 := Nat.lt_of_lt_of_le bl0 hb.size
  replace r_p := r_p.below (hb.mono (by omega))
  replace r_r := r_r.below (hb.mono (by omega))
  replace r_s := r_s.below (hb.mono (by omega))
  replace r_t := r_t.below (hb.mono (by omega))
  clear hb
  go_wp2_with fail
  refine (hz2 _ (r_p.more (by omega))).mono ?_
  rintro e w2 ⟨rfl, hb⟩
  have k2 : Below w.heap.size w w2 := ext_step k1 (by omega) hb
  have p2 := hb.size
  replace bx0_0 := ccell hb _ _ _ bx0_0
  replace bx0_1 := ccell hb _ _ _ bx0_1
  replace bx0_2 := ccell hb _ _ _ bx0_2
  replace bx0_3 := ccell hb _ _ _ bx0_3
  have bl0 := Nat.lt_of_lt_of_le bl0 hb.size
  replace r_p := r_p.below (hb.mono (by omega))
  replace r_r := r_r.below (hb.mono (by omega))
  replace r_s := r_s.below (hb.mono (by omega))
  replace r_t := r_t.below (hb.mono (by omega))
  clear hb
  go_wp2_with fail
  refine (hto _ (r_r.more (by omega)) (r_s.more (by omega)) (r_t.more (by omega))).mono ?_
  rintro e w3 ⟨v, rfl, ⟨A_i, c_i, A_j, c_j, A_k, c_k, rfl, o_i, o_j, o_k⟩, hb⟩
  have k3 : Below w.heap.size w w3 := ext_step k2 (by omega) hb
  have p3 := hb.size
  replace bx0_0 := ccell hb _ _ _ bx0_0
  replace bx0_1 := ccell hb _ _ _ bx0_1
  replace bx0_2 := ccell hb _ _ _ bx0_2
  replace bx0_3 := ccell hb _ _ _ bx0_3
  have bl0 := Nat.lt_of_lt_of_le bl0 hb.size
  replace r_p := r_p.below (hb.mono (by omega))
  replace r_r := r_r.below (hb.mono (by omega))
  replace r_s := r_s.below (hb.mono (by omega))
  replace r_t := r_t.below (hb.mono (by omega))
  have r_i := Reads.of_own o_i
  have u_i := fun k hk => (o_i.lt k hk).2
  have r_j := Reads.of_own o_j
  have u_j := fun k hk => (o_j.lt k hk).2
  have r_k := Reads.of_own o_k
  have u_k := fun k hk => (o_k.lt k hk).2
  clear hb
  go_wp2_with fail
  refine (toPacketS_c _ _ _ lp _ hn_p hs_p (r_p.more (by omega))).mono ?_
  rintro e w4 ⟨g_q, rfl, hg_q, b_q, hb⟩
  have k4 : Below w.heap.size w w4 := ext_step k3 (by omega) hb
  have p4 := hb.size
  replace bx0_0 := ccell hb _ _ _ bx0_0
  replace bx0_1 := ccell hb _ _ _ bx0_1
  replace bx0_2 := ccell hb _ _ _ bx0_2
  replace bx0_3 := ccell hb _ _ _ bx0_3
  have bl0 := Nat.lt_of_lt_of_le bl0 hb.size
  replace r_p := r_p.below (hb.mono (by omega))
  replace r_r := r_r.below (hb.mono (by omega))
  replace r_s := r_s.below (hb.mono (by omega))
  replace r_t := r_t.below (hb.mono (by omega))
  replace r_i := r_i.below (hb.mono (by omega))
  replace o_i := own_ext o_i hb
  replace r_j := r_j.below (hb.mono (by omega))
  replace o_j := own_ext o_j hb
  replace r_k := r_k.below (hb.mono (by omega))
  replace o_k := own_ext o_k hb
  have r_q := b_q.reads (size := 16) (n := np) (by rw [flatMap_len _ 16 (fun _ => rfl), hn_p])
  have o_q := b_q.own (base := w3.heap.size) (size := 16) (n := np) hg_q (by rw [flatMap_len _ 16 (fun _ => rfl), hn_p]) (by unfold maxLen; omega) rfl
  have u_q := fun k hk => (o_q.lt k hk).2
  clear hb
  go_wp2_with fail
  refine (hspec _ _ _ _ _ _ _ _ _ (r_i.more (by omega)) (r_j.more (by omega)) (r_k.more (by omega)) (r_q.more (by omega))).mono ?_
  rintro e w5 ⟨A_v, c_v, rfl, o_v, hb⟩
  have k5 : Below w.heap.size w w5 := ext_step k4 (by omega) hb
  have p5 := hb.size
  replace bx0_0 := ccell hb _ _ _ bx0_0
  replace bx0_1 := ccell hb _ _ _ bx0_1
  replace bx0_2 := ccell hb _ _ _ bx0_2
  replace bx0_3 := ccell hb _ _ _ bx0_3
  have bl0 := Nat.lt_of_lt_of_le bl0 hb.size
  replace r_p := r_p.below (hb.mono (by omega))
  replace r_r := r_r.below (hb.mono (by omega))
  replace r_s := r_s.below (hb.mono (by omega))
  replace r_t := r_t.below (hb.mono (by omega))
  replace r_i := r_i.below (hb.mono (by omega))
  replace o_i := own_ext o_i hb
  replace r_j := r_j.below (hb.mono (by omega))
  replace o_j := own_ext o_j hb
  replace r_k := r_k.below (hb.mono (by omega))
  replace o_k := own_ext o_k hb
  replace r_q := r_q.below (hb.mono (by omega))
  replace o_q := own_ext o_q hb
  have r_v := Reads.of_own o_v
  have u_v := fun k hk => (o_v.lt k hk).2
  clear hb
  (try clear o_i)
  (try clear r_i)
  (try clear o_j)
  (try clear r_j)
  (try clear o_k)
  (try clear r_k)
  (try clear o_q)
  (try clear r_q)
  go_wp2_with fail
  refine (hto _ (r_r.more (by omega)) (r_s.more (by omega)) (r_t.more (by omega))).mono ?_
  rintro e w6 ⟨v, rfl, ⟨A_x, c_x, A_y, c_y, A_z, c_z, rfl, o_x, o_y, o_z⟩, hb⟩
  have k6 : Below w.heap.size w w6 := ext_step k5 (by omega) hb
  have p6 := hb.size
  replace bx0_0 := ccell hb _ _ _ bx0_0
  replace bx0_1 := ccell hb _ _ _ bx0_1
  replace bx0_2 := ccell hb _ _ _ bx0_2
  replace bx0_3 := ccell hb _ _ _ bx0_3
  have bl0 := Nat.lt_of_lt_of_le bl0 hb.size
  replace r_p := r_p.below (hb.mono (by omega))
  replace r_r := r_r.below (hb.mono (by omega))
  replace r_s := r_s.below (hb.mono (by omega))
  replace r_t := r_t.below (hb.mono (by omega))
  replace r_v := r_v.below (hb.mono (by omega))
  replace o_v := own_ext o_v hb
  have r_x := Reads.of_own o_x
  have u_x := fun k hk => (o_x.lt k hk).2
  have r_y := Reads.of_own o_y
  have u_y := fun k hk => (o_y.lt k hk).2
  have r_z := Reads.of_own o_z
  have u_z := fun k hk => (o_z.lt k hk).2
  clear hb
  go_wp2_with fail
  obtain ⟨w7, hW0⟩ : ∃ W, W = (w6.alloc (.cells #[.slice A_x rs.length c_x, .slice A_y l.length c_y, .string key, .slice A_z tb.length c_z] 58)) := ⟨_, rfl⟩
  have hb : Below w6.heap.size w6 w7 := by rw [hW0]; go_grown
  have hkz : Blk w7 w6.heap.size 58 [.slice A_x rs.length c_x, .slice A_y l.length c_y, .string key, .slice A_z tb.length c_z] := by rw [hW0]; exact Blk.new _ _ _
  rw [← hW0]
  clear hW0
  have bl1 := hkz.lt
  have k7 : Below w.heap.size w w7 := ext_step k6 (by omega) hb
  have p7 := hb.size
  replace bx0_0 := ccell hb _ _ _ bx0_0
  replace bx0_1 := ccell hb _ _ _ bx0_1
  replace bx0_2 := ccell hb _ _ _ bx0_2
  replace bx0_3 := ccell hb _ _ _ bx0_3
  have bl0 := Nat.lt_of_lt_of_le bl0 hb.size
  replace r_p := r_p.below (hb.mono (by omega))
  replace r_r := r_r.below (hb.mono (by omega))
  replace r_s := r_s.below (hb.mono (by omega))
  replace r_t := r_t.below (hb.mono (by omega))
  replace r_v := r_v.below (hb.mono (by omega))
  replace o_v := own_ext o_v hb
  replace r_x := r_x.below (hb.mono (by omega))
  replace o_x := own_ext o_x hb
  replace r_y := r_y.below (hb.mono (by omega))
  replace o_y := own_ext o_y hb
  replace r_z := r_z.below (hb.mono (by omega))
  replace o_z := own_ext o_z hb
  have bx1_0 := hkz.at_ 0 _ rfl
  have bx1_1 := hkz.at_ 1 _ rfl
  have bx1_2 := hkz.at_ 2 _ rfl
  have bx1_3 := hkz.at_ 3 _ rfl
  clear hb hkz
  refine (toPacketS_c _ _ _ lp _ hn_p hs_p (r_p.more (by omega))).mono ?_
  rintro e w8 ⟨g_q, rfl, hg_q, b_q, hb⟩
  have k8 : Below w.heap.size w w8 := ext_step k7 (by omega) hb
  have p8 := hb.size
  replace bx0_0 := ccell hb _ _ _ bx0_0
  replace bx0_1 := ccell hb _ _ _ bx0_1
  replace bx0_2 := ccell hb _ _ _ bx0_2
  replace bx0_3 := ccell hb _ _ _ bx0_3
  replace bx1_0 := ccell hb _ _ _ bx1_0
  replace bx1_1 := ccell hb _ _ _ bx1_1
  replace bx1_2 := ccell hb _ _ _ bx1_2
  replace bx1_3 := ccell hb _ _ _ bx1_3
  have bl0 := Nat.lt_of_lt_of_le bl0 hb.size
  have bl1 := Nat.lt_of_lt_of_le bl1 hb.size
  replace r_p := r_p.below (hb.mono (by omega))
  replace r_r := r_r.below (hb.mono (by omega))
  replace r_s := r_s.below (hb.mono (by omega))
  replace r_t := r_t.below (hb.mono (by omega))
  replace r_v := r_v.below (hb.mono (by omega))
  replace o_v := own_ext o_v hb
  replace r_x := r_x.below (hb.mono (by omega))
  replace o_x := own_ext o_x hb
  replace r_y := r_y.below (hb.mono (by omega))
  replace o_y := own_ext o_y hb
  replace r_z := r_z.below (hb.mono (by omega))
  replace o_z := own_ext o_z hb
  have r_q := b_q.reads (size := 16) (n := np) (by rw [flatMap_len _ 16 (fun _ => rfl), hn_p])
  have o_q := b_q.own (base := w7.heap.size) (size := 16) (n := np) hg_q (by rw [flatMap_len _ 16 (fun _ => rfl), hn_p]) (by unfold maxLen; omega) rfl
  have u_q := fun k hk => (o_q.lt k hk).2
  clear hb
  go_wp2_with fail
  refine (himpl _ _ _ _ _ _ _ _ _ (r_x.more (by omega)) (r_y.more (by omega)) (r_z.more (by omega)) (r_q.more (by omega))).mono ?_
  rintro e w9 ⟨A_g, c_g, rfl, o_g, hb⟩
  have k9 : Below w.heap.size w w9 := ext_step k8 (by omega) hb
  have p9 := hb.size
  replace bx0_0 := ccell hb _ _ _ bx0_0
  replace bx0_1 := ccell hb _ _ _ bx0_1
  replace bx0_2 := ccell hb _ _ _ bx0_2
  replace bx0_3 := ccell hb _ _ _ bx0_3
  replace bx1_0 := ccell hb _ _ _ bx1_0
  replace bx1_1 := ccell hb _ _ _ bx1_1
  replace bx1_2 := ccell hb _ _ _ bx1_2
  replace bx1_3 := ccell hb _ _ _ bx1_3
  have bl0 := Nat.lt_of_lt_of_le bl0 hb.size
  have bl1 := Nat.lt_of_lt_of_le bl1 hb.size
  replace r_p := r_p.below (hb.mono (by omega))
  replace r_r := r_r.below (hb.mono (by omega))
  replace r_s := r_s.below (hb.mono (by omega))
  replace r_t := r_t.below (hb.mono (by omega))
  replace r_v := r_v.below (hb.mono (by omega))
  replace o_v := own_ext o_v hb
  replace r_x := r_x.below (hb.mono (by omega))
  replace o_x := own_ext o_x hb
  replace r_y := r_y.below (hb.mono (by omega))
  replace o_y := own_ext o_y hb
  replace r_z := r_z.below (hb.mono (by omega))
  replace o_z := own_ext o_z hb
  replace r_q := r_q.below (hb.mono (by omega))
  replace o_q := own_ext o_q hb
  have r_g := Reads.of_own o_g
  have u_g := fun k hk => (o_g.lt k hk).2
  clear hb
  go_wp2_with fail
  refine (eqPacketS_c _ _ _ _ _ lw _ hn_v (by omega) (r_g.more (by omega)) (r_v.more (by omega))).mono ?_
  rintro e w10 ⟨rfl, hb⟩
  have k10 : Below w.heap.size w w10 := ext_step k9 (by omega) hb
  have p10 := hb.size
  replace bx0_0 := ccell hb _ _ _ bx0_0
  replace bx0_1 := ccell hb _ _ _ bx0_1
  replace bx0_2 := ccell hb _ _ _ bx0_2
  replace bx0_3 := ccell hb _ _ _ bx0_3
  replace bx1_0 := ccell hb _ _ _ bx1_0
  replace bx1_1 := ccell hb _ _ _ bx1_1
  replace bx1_2 := ccell hb _ _ _ bx1_2
  replace bx1_3 := ccell hb _ _ _ bx1_3
  have bl0 := Nat.lt_of_lt_of_le bl0 hb.size
  have bl1 := Nat.lt_of_lt_of_le bl1 hb.size
  replace r_p := r_p.below (hb.mono (by omega))
  replace r_r := r_r.below (hb.mono (by omega))
  replace r_s := r_s.below (hb.mono (by omega))
  replace r_t := r_t.below (hb.mono (by omega))
  replace r_v := r_v.below (hb.mono (by omega))
  replace o_v := own_ext o_v hb
  replace r_x := r_x.below (hb.mono (by omega))
  replace o_x := own_ext o_x hb
  replace r_y := r_y.below (hb.mono (by omega))
  replace o_y := own_ext o_y hb
  replace r_z := r_z.below (hb.mono (by omega))
  replace o_z := own_ext o_z hb
  replace r_q := r_q.below (hb.mono (by omega))
  replace o_q := own_ext o_q hb
  replace r_g := r_g.below (hb.mono (by omega))
  replace o_g := own_ext o_g hb
  clear hb
  go_wp2_with fail
  have hBB : w10.heap.size ≤ w10.heap.size := by omega
  refine wp_region_slotsS (w10.heap.size) [(48, fun _ v => v = .agg #[.slice A_x rs.length c_x, .slice A_y l.length c_y, .string key, .slice A_z tb.length c_z]), (49, fun _ v => v = .agg #[.slice Ar rs.length cr, .slice As l.length cs, .string key, .slice At tb.length ct]), (50, SteO w10.heap.size rs l key tb), (51, fun _ v => v = .bool true), (52, fun _ v => v = .bool false)] [] (fun _ => True) (by kernel_rfl) hBB (by kernel_rfl) (by kernel_rfl) (by kernel_rfl) (by kernel_rfl) ?_ ?_ ?_ ?_ ?_ ?_ ?_
  · intro p hp
    simp only [List.mem_cons, List.not_mem_nil, or_false] at hp
    rcases hp with rfl | rfl | rfl | rfl | rfl
    all_goals (intro u u' v hb hv; first | exact hv | exact BoxP.keep hv hb | exact RowP.keep hv hb | exact SteO.keep hv hb)
  · intro s hs; cases hs
  · intro s hs; cases hs
  · exact trivial
  · intro u u' hb hj
    exact trivial
  · intro hGk hSk hJk
    refine allStep_cons (stepS_plain hGk hSk hBB hJk (by kernel_rfl) rfl ?_) ?_
    · intro a u hb hz hj hl hp K Q hK
      have e11 : a.tmps[11]?.getD undef = .pointer (some ⟨w6.heap.size, 0, none⟩) := gd (hl 11 (by kernel_rfl))
      have bx1_0 := ccell hb _ _ _ bx1_0
      have bx1_1 := ccell hb _ _ _ bx1_1
      have bx1_2 := ccell hb _ _ _ bx1_2
      have bx1_3 := ccell hb _ _ _ bx1_3
      go_simp
      exact hK _ _ (Below.refl _ _) (by intro d hd; cases hd; exact rfl)
    refine allStep_cons (stepS_plain hGk hSk hBB hJk (by kernel_rfl) rfl ?_) ?_
    · intro a u hb hz hj hl hp K Q hK
      have e4 : a.tmps[4]?.getD undef = .pointer (some ⟨w.heap.size, 0, none⟩) := gd (hl 4 (by kernel_rfl))
      have bx0_0 := ccell hb _ _ _ bx0_0
      have bx0_1 := ccell hb _ _ _ bx0_1
      have bx0_2 := ccell hb _ _ _ bx0_2
      have bx0_3 := ccell hb _ _ _ bx0_3
      go_simp
      exact hK _ _ (Below.refl _ _) (by intro d hd; cases hd; exact rfl)
    refine allStep_cons (stepS_plain hGk hSk hBB hJk (by kernel_rfl) rfl ?_) ?_
    · intro a u hb hz hj hl hp K Q hK
      have e49 : a.tmps[49]?.getD undef = .agg #[.slice Ar rs.length cr, .slice As l.length cs, .string key, .slice At tb.length ct] := gd (hl 49 (by kernel_rfl))
      go_simp
      refine (hto _ ((r_r.below (hb.mono (by omega))).more (by omega)) ((r_s.below (hb.mono (by omega))).more (by omega)) ((r_t.below (hb.mono (by omega))).more (by omega))).mono ?_
      rintro e u1 ⟨v, rfl, hS, hb1⟩
      exact hK _ _ hb1 (by intro d hd; cases hd; exact (hS.base (by omega)))
    refine allStep_cons (stepS_plain hGk hSk hBB hJk (by kernel_rfl) rfl ?_) ?_
    · intro a u hb hz hj hl hp K Q hK
      have e48 : a.tmps[48]?.getD undef = .agg #[.slice A_x rs.length c_x, .slice A_y l.length c_y, .string key, .slice A_z tb.length c_z] := gd (hl 48 (by kernel_rfl))
      obtain ⟨Aa2, ca2, Ab2, cb2, Ac2, cc2, ex50, o1_2, o2_2, o3_2⟩ : (SteO w10.heap.size rs l key tb) u (a.tmps.getD 50 undef) := hl 50 (by kernel_rfl)
      have e50 := gd ex50
      go_simp
      refine (heq _ _ _ _ _ _ _ _ _ _ _ _ _ ((r_x.below (hb.mono (by omega))).more (by omega)) ((r_y.below (hb.mono (by omega))).more (by omega)) ((r_z.below (hb.mono (by omega))).more (by omega)) (Reads.of_own o1_2) (Reads.of_own o2_2) (Reads.of_own o3_2)).mono ?_
      rintro e u1 ⟨rfl, hb1⟩
      exact hK _ _ hb1 (by intro d hd; cases hd; exact rfl)
    refine allStep_cons (stepS_plain hGk hSk hBB hJk (by kernel_rfl) rfl ?_) ?_
    · intro a u hb hz hj hl hp K Q hK
      have e51 : a.tmps[51]?.getD undef = .bool true := gd (hl 51 (by kernel_rfl))
      go_simp
      exact hK _ _ (Below.refl _ _) (by intro d hd; cases hd; exact rfl)
    exact allStep_nil
  intro xT w11 hb hz hj hL hSt
  have fx52 : xT 52 = .bool false := hL _ (List.mem_of_getElem? (i := 4) rfl)
  simp only [List.map, putAll, fx52]
  have k11 : Below w.heap.size w w11 := ext_step k10 (by omega) hb
  have p11 := hb.size
  replace bx0_0 := ccell hb _ _ _ bx0_0
  replace bx0_1 := ccell hb _ _ _ bx0_1
  replace bx0_2 := ccell hb _ _ _ bx0_2
  replace bx0_3 := ccell hb _ _ _ bx0_3
  replace bx1_0 := ccell hb _ _ _ bx1_0
  replace bx1_1 := ccell hb _ _ _ bx1_1
  replace bx1_2 := ccell hb _ _ _ bx1_2
  replace bx1_3 := ccell hb _ _ _ bx1_3
  have bl0 := Nat.lt_of_lt_of_le bl0 hb.size
  have bl1 := Nat.lt_of_lt_of_le bl1 hb.size
  replace r_p := r_p.below (hb.mono (by omega))
  replace r_r := r_r.below (hb.mono (by omega))
  replace r_s := r_s.below (hb.mono (by omega))
  replace r_t := r_t.below (hb.mono (by omega))
  replace r_v := r_v.below (hb.mono (by omega))
  replace o_v := own_ext o_v hb
  replace r_x := r_x.below (hb.mono (by omega))
  replace o_x := own_ext o_x hb
  replace r_y := r_y.below (hb.mono (by omega))
  replace o_y := own_ext o_y hb
  replace r_z := r_z.below (hb.mono (by omega))
  replace o_z := own_ext o_z hb
  replace r_q := r_q.below (hb.mono (by omega))
  replace o_q := own_ext o_q hb
  replace r_g := r_g.below (hb.mono (by omega))
  replace o_g := own_ext o_g hb
  clear hL hSt hb hz fx52
  go_wp2_with fail
  refine (toPacketS_c _ _ _ lp _ hn_p hs_p (r_p.more (by omega))).mono ?_
  rintro e w12 ⟨g_e, rfl, hg_e, b_e, hb⟩
  have k12 : Below w.heap.size w w12 := ext_step k11 (by omega) hb
  have p12 := hb.size
  replace bx0_0 := ccell hb _ _ _ bx0_0
  replace bx0_1 := ccell hb _ _ _ bx0_1
  replace bx0_2 := ccell hb _ _ _ bx0_2
  replace bx0_3 := ccell hb _ _ _ bx0_3
  replace bx1_0 := ccell hb _ _ _ bx1_0
  replace bx1_1 := ccell hb _ _ _ bx1_1
  replace bx1_2 := ccell hb _ _ _ bx1_2
  replace bx1_3 := ccell hb _ _ _ bx1_3
  have bl0 := Nat.lt_of_lt_of_le bl0 hb.size
  have bl1 := Nat.lt_of_lt_of_le bl1 hb.size
  replace r_p := r_p.below (hb.mono (by omega))
  replace r_r := r_r.below (hb.mono (by omega))
  replace r_s := r_s.below (hb.mono (by omega))
  replace r_t := r_t.below (hb.mono (by omega))
  replace r_v := r_v.below (hb.mono (by omega))
  replace o_v := own_ext o_v hb
  replace r_x := r_x.below (hb.mono (by omega))
  replace o_x := own_ext o_x hb
  replace r_y := r_y.below (hb.mono (by omega))
  replace o_y := own_ext o_y hb
  replace r_z := r_z.below (hb.mono (by omega))
  replace o_z := own_ext o_z hb
  replace r_q := r_q.below (hb.mono (by omega))
  replace o_q := own_ext o_q hb
  replace r_g := r_g.below (hb.mono (by omega))
  replace o_g := own_ext o_g hb
  have r_e := b_e.reads (size := 16) (n := np) (by rw [flatMap_len _ 16 (fun _ => rfl), hn_p])
  have o_e := b_e.own (base := w11.heap.size) (size := 16) (n := np) hg_e (by rw [flatMap_len _ 16 (fun _ => rfl), hn_p]) (by unfold maxLen; omega) rfl
  have u_e := fun k hk => (o_e.lt k hk).2
  clear hb
  go_wp2_with fail
  refine (eqPacketS_c _ _ _ _ _ lp _ hn_p (by omega) (r_q.more (by omega)) (r_e.more (by omega))).mono ?_
  rintro e w13 ⟨rfl, hb⟩
  have k13 : Below w.heap.size w w13 := ext_step k12 (by omega) hb
  have p13 := hb.size
  replace bx0_0 := ccell hb _ _ _ bx0_0
  replace bx0_1 := ccell hb _ _ _ bx0_1
  replace bx0_2 := ccell hb _ _ _ bx0_2
  replace bx0_3 := ccell hb _ _ _ bx0_3
  replace bx1_0 := ccell hb _ _ _ bx1_0
  replace bx1_1 := ccell hb _ _ _ bx1_1
  replace bx1_2 := ccell hb _ _ _ bx1_2
  replace bx1_3 := ccell hb _ _ _ bx1_3
  have bl0 := Nat.lt_of_lt_of_le bl0 hb.size
  have bl1 := Nat.lt_of_lt_of_le bl1 hb.size
  replace r_p := r_p.below (hb.mono (by omega))
  replace r_r := r_r.below (hb.mono (by omega))
  replace r_s := r_s.below (hb.mono (by omega))
  replace r_t := r_t.below (hb.mono (by omega))
  replace r_v := r_v.below (hb.mono (by omega))
  replace o_v := own_ext o_v hb
  replace r_x := r_x.below (hb.mono (by omega))
  replace o_x := own_ext o_x hb
  replace r_y := r_y.below (hb.mono (by omega))
  replace o_y := own_ext o_y hb
  replace r_z := r_z.below (hb.mono (by omega))
  replace o_z := own_ext o_z hb
  replace r_q := r_q.below (hb.mono (by omega))
  replace o_q := own_ext o_q hb
  replace r_g := r_g.below (hb.mono (by omega))
  replace o_g := own_ext o_g hb
  replace r_e := r_e.below (hb.mono (by omega))
  replace o_e := own_ext o_e hb
  clear hb
  (try clear o_e)
  (try clear r_e)
  go_wp2_with fail
  refine (markSteering_c _ _ _ _ _ _ _ _ _ _ _ _ _ _ _ _ o_x o_y o_z (by omega) (by omega) (by omega) (by omega) (by omega)).mono ?_
  rintro e w14 ⟨rfl, om_x, om_y, om_z, hg⟩
  have k14 : Below w.heap.size w w14 := Grown3.below k13 (by omega) hg (fun k h1 => by have := (o_x.lt k h1).1; omega) (fun k h1 => by have := (o_y.lt k h1).1; omega) (fun k h1 => by have := (o_z.lt k h1).1; omega)
  have p14 := hg.size
  replace bx0_0 := hg.cell bx0_0 (fun g h1 => by have := (o_x.lt g h1).1; have := u_x g h1; omega) (fun g h1 => by have := (o_y.lt g h1).1; have := u_y g h1; omega) (fun g h1 => by have := (o_z.lt g h1).1; have := u_z g h1; omega)
  replace bx0_1 := hg.cell bx0_1 (fun g h1 => by have := (o_x.lt g h1).1; have := u_x g h1; omega) (fun g h1 => by have := (o_y.lt g h1).1; have := u_y g h1; omega) (fun g h1 => by have := (o_z.lt g h1).1; have := u_z g h1; omega)
  replace bx0_2 := hg.cell bx0_2 (fun g h1 => by have := (o_x.lt g h1).1; have := u_x g h1; omega) (fun g h1 => by have := (o_y.lt g h1).1; have := u_y g h1; omega) (fun g h1 => by have := (o_z.lt g h1).1; have := u_z g h1; omega)
  replace bx0_3 := hg.cell bx0_3 (fun g h1 => by have := (o_x.lt g h1).1; have := u_x g h1; omega) (fun g h1 => by have := (o_y.lt g h1).1; have := u_y g h1; omega) (fun g h1 => by have := (o_z.lt g h1).1; have := u_z g h1; omega)
  replace bx1_0 := hg.cell bx1_0 (fun g h1 => by have := (o_x.lt g h1).1; have := u_x g h1; omega) (fun g h1 => by have := (o_y.lt g h1).1; have := u_y g h1; omega) (fun g h1 => by have := (o_z.lt g h1).1; have := u_z g h1; omega)
  replace bx1_1 := hg.cell bx1_1 (fun g h1 => by have := (o_x.lt g h1).1; have := u_x g h1; omega) (fun g h1 => by have := (o_y.lt g h1).1; have := u_y g h1; omega) (fun g h1 => by have := (o_z.lt g h1).1; have := u_z g h1; omega)
  replace bx1_2 := hg.cell bx1_2 (fun g h1 => by have := (o_x.lt g h1).1; have := u_x g h1; omega) (fun g h1 => by have := (o_y.lt g h1).1; have := u_y g h1; omega) (fun g h1 => by have := (o_z.lt g h1).1; have := u_z g h1; omega)
  replace bx1_3 := hg.cell bx1_3 (fun g h1 => by have := (o_x.lt g h1).1; have := u_x g h1; omega) (fun g h1 => by have := (o_y.lt g h1).1; have := u_y g h1; omega) (fun g h1 => by have := (o_z.lt g h1).1; have := u_z g h1; omega)
  have bl0 := Nat.lt_of_lt_of_le bl0 hg.size
  have bl1 := Nat.lt_of_lt_of_le bl1 hg.size
  replace r_p := hg.reads r_p (by omega) (fun g h1 => Nat.le_trans (by omega) (o_x.lt g h1).1) (fun g h1 => Nat.le_trans (by omega) (o_y.lt g h1).1) (fun g h1 => Nat.le_trans (by omega) (o_z.lt g h1).1)
  replace r_r := hg.reads r_r (by omega) (fun g h1 => Nat.le_trans (by omega) (o_x.lt g h1).1) (fun g h1 => Nat.le_trans (by omega) (o_y.lt g h1).1) (fun g h1 => Nat.le_trans (by omega) (o_z.lt g h1).1)
  replace r_s := hg.reads r_s (by omega) (fun g h1 => Nat.le_trans (by omega) (o_x.lt g h1).1) (fun g h1 => Nat.le_trans (by omega) (o_y.lt g h1).1) (fun g h1 => Nat.le_trans (by omega) (o_z.lt g h1).1)
  replace r_t := hg.reads r_t (by omega) (fun g h1 => Nat.le_trans (by omega) (o_x.lt g h1).1) (fun g h1 => Nat.le_trans (by omega) (o_y.lt g h1).1) (fun g h1 => Nat.le_trans (by omega) (o_z.lt g h1).1)
  have on_v := hg.own o_v (fun g h1 h2 => by first | exact own_ne_ty o_v o_x (by decide) g h1 h2 | (have := u_v g h1; have := (o_x.lt g h2).1; omega) | (have := (o_v.lt g h1).1; have := u_x g h2; omega)) (fun g h1 h2 => by first | exact own_ne_ty o_v o_y (by decide) g h1 h2 | (have := u_v g h1; have := (o_y.lt g h2).1; omega) | (have := (o_v.lt g h1).1; have := u_y g h2; omega)) (fun g h1 h2 => by first | exact own_ne_ty o_v o_z (by decide) g h1 h2 | (have := u_v g h1; have := (o_z.lt g h2).1; omega) | (have := (o_v.lt g h1).1; have := u_z g h2; omega))
  have on_q := hg.own o_q (fun g h1 h2 => by first | exact own_ne_ty o_q o_x (by decide) g h1 h2 | (have := u_q g h1; have := (o_x.lt g h2).1; omega) | (have := (o_q.lt g h1).1; have := u_x g h2; omega)) (fun g h1 h2 => by first | exact own_ne_ty o_q o_y (by decide) g h1 h2 | (have := u_q g h1; have := (o_y.lt g h2).1; omega) | (have := (o_q.lt g h1).1; have := u_y g h2; omega)) (fun g h1 h2 => by first | exact own_ne_ty o_q o_z (by decide) g h1 h2 | (have := u_q g h1; have := (o_z.lt g h2).1; omega) | (have := (o_q.lt g h1).1; have := u_z g h2; omega))
  have on_g := hg.own o_g (fun g h1 h2 => by first | exact own_ne_ty o_g o_x (by decide) g h1 h2 | (have := u_g g h1; have := (o_x.lt g h2).1; omega) | (have := (o_g.lt g h1).1; have := u_x g h2; omega)) (fun g h1 h2 => by first | exact own_ne_ty o_g o_y (by decide) g h1 h2 | (have := u_g g h1; have := (o_y.lt g h2).1; omega) | (have := (o_g.lt g h1).1; have := u_y g h2; omega)) (fun g h1 h2 => by first | exact own_ne_ty o_g o_z (by decide) g h1 h2 | (have := u_g g h1; have := (o_z.lt g h2).1; omega) | (have := (o_g.lt g h1).1; have := u_z g h2; omega))
  replace o_v := on_v
  replace r_v := (Reads.of_own o_v)
  clear on_v
  replace o_q := on_q
  replace r_q := (Reads.of_own o_q)
  clear on_q
  replace o_g := on_g
  replace r_g := (Reads.of_own o_g)
  clear on_g
  replace o_x := om_x
  replace r_x := Reads.of_own o_x
  replace o_y := om_y
  replace r_y := Reads.of_own o_y
  replace o_z := om_z
  replace r_z := Reads.of_own o_z
  clear hg om_x om_y om_z
  (try clear o_x)
  (try clear r_x)
  (try clear o_y)
  (try clear r_y)
  (try clear o_z)
  (try clear r_z)
  go_wp2_with fail
  refine (markPacketS_c _ _ _ _ _ _ _ o_q (by omega) (by omega) (by omega)).mono ?_
  rintro e w15 ⟨rfl, om, hg⟩
  have k15 : Below w.heap.size w w15 := below_app k14 (own_base o_q (by omega)) hg (by omega)
  have p15 := hg.size
  replace bx0_0 := cell_off hg bx0_0 (fun g h1 => by have := (o_q.lt g h1).1; have := u_q g h1; omega)
  replace bx0_1 := cell_off hg bx0_1 (fun g h1 => by have := (o_q.lt g h1).1; have := u_q g h1; omega)
  replace bx0_2 := cell_off hg bx0_2 (fun g h1 => by have := (o_q.lt g h1).1; have := u_q g h1; omega)
  replace bx0_3 := cell_off hg bx0_3 (fun g h1 => by have := (o_q.lt g h1).1; have := u_q g h1; omega)
  replace bx1_0 := cell_off hg bx1_0 (fun g h1 => by have := (o_q.lt g h1).1; have := u_q g h1; omega)
  replace bx1_1 := cell_off hg bx1_1 (fun g h1 => by have := (o_q.lt g h1).1; have := u_q g h1; omega)
  replace bx1_2 := cell_off hg bx1_2 (fun g h1 => by have := (o_q.lt g h1).1; have := u_q g h1; omega)
  replace bx1_3 := cell_off hg bx1_3 (fun g h1 => by have := (o_q.lt g h1).1; have := u_q g h1; omega)
  have bl0 := Nat.lt_of_lt_of_le bl0 hg.size
  have bl1 := Nat.lt_of_lt_of_le bl1 hg.size
  replace r_p := r_p.grown hg (by omega) (fun g hg => Nat.le_trans (by omega) (o_q.lt g hg).1)
  replace r_r := r_r.grown hg (by omega) (fun g hg => Nat.le_trans (by omega) (o_q.lt g hg).1)
  replace r_s := r_s.grown hg (by omega) (fun g hg => Nat.le_trans (by omega) (o_q.lt g hg).1)
  replace r_t := r_t.grown hg (by omega) (fun g hg => Nat.le_trans (by omega) (o_q.lt g hg).1)
  replace o_v := own_far o_v hg (fun g h1 h2 => by have := u_v g h1; have := (o_q.lt g h2).1; omega)
  replace r_v := (Reads.of_own o_v)
  replace o_g := own_far o_g hg (fun g h1 h2 => by have := (o_g.lt g h1).1; have := u_q g h2; omega)
  replace r_g := (Reads.of_own o_g)
  replace o_q := om
  replace r_q := Reads.of_own o_q
  clear hg om
  (try clear o_q)
  (try clear r_q)
  go_wp2_with fail
  refine (eqPacketS_c _ _ _ _ _ lw _ hn_v (by omega) (r_g.more (by omega)) (r_v.more (by omega))).mono ?_
  rintro e w16 ⟨rfl, hb⟩
  have k16 : Below w.heap.size w w16 := ext_step k15 (by omega) hb
  have p16 := hb.size
  replace bx0_0 := ccell hb _ _ _ bx0_0
  replace bx0_1 := ccell hb _ _ _ bx0_1
  replace bx0_2 := ccell hb _ _ _ bx0_2
  replace bx0_3 := ccell hb _ _ _ bx0_3
  replace bx1_0 := ccell hb _ _ _ bx1_0
  replace bx1_1 := ccell hb _ _ _ bx1_1
  replace bx1_2 := ccell hb _ _ _ bx1_2
  replace bx1_3 := ccell hb _ _ _ bx1_3
  have bl0 := Nat.lt_of_lt_of_le bl0 hb.size
  have bl1 := Nat.lt_of_lt_of_le bl1 hb.size
  replace r_p := r_p.below (hb.mono (by omega))
  replace r_r := r_r.below (hb.mono (by omega))
  replace r_s := r_s.below (hb.mono (by omega))
  replace r_t := r_t.below (hb.mono (by omega))
  replace r_v := r_v.below (hb.mono (by omega))
  replace o_v := own_ext o_v hb
  replace r_g := r_g.below (hb.mono (by omega))
  replace o_g := own_ext o_g hb
  clear hb
  go_wp2_with fail
  refine (markPacketS_c _ _ _ _ _ _ _ o_g (by omega) (by omega) (by omega)).mono ?_
  rintro e w17 ⟨rfl, om, hg⟩
  have k17 : Below w.heap.size w w17 := below_app k16 (own_base o_g (by omega)) hg (by omega)
  have p17 := hg.size
  replace bx0_0 := cell_off hg bx0_0 (fun g h1 => by have := (o_g.lt g h1).1; have := u_g g h1; omega)
  replace bx0_1 := cell_off hg bx0_1 (fun g h1 => by have := (o_g.lt g h1).1; have := u_g g h1; omega)
  replace bx0_2 := cell_off hg bx0_2 (fun g h1 => by have := (o_g.lt g h1).1; have := u_g g h1; omega)
  replace bx0_3 := cell_off hg bx0_3 (fun g h1 => by have := (o_g.lt g h1).1; have := u_g g h1; omega)
  replace bx1_0 := cell_off hg bx1_0 (fun g h1 => by have := (o_g.lt g h1).1; have := u_g g h1; omega)
  replace bx1_1 := cell_off hg bx1_1 (fun g h1 => by have := (o_g.lt g h1).1; have := u_g g h1; omega)
  replace bx1_2 := cell_off hg bx1_2 (fun g h1 => by have := (o_g.lt g h1).1; have := u_g g h1; omega)
  replace bx1_3 := cell_off hg bx1_3 (fun g h1 => by have := (o_g.lt g h1).1; have := u_g g h1; omega)
  have bl0 := Nat.lt_of_lt_of_le bl0 hg.size
  have bl1 := Nat.lt_of_lt_of_le bl1 hg.size
  replace r_p := r_p.grown hg (by omega) (fun g hg => Nat.le_trans (by omega) (o_g.lt g hg).1)
  replace r_r := r_r.grown hg (by omega) (fun g hg => Nat.le_trans (by omega) (o_g.lt g hg).1)
  replace r_s := r_s.grown hg (by omega) (fun g hg => Nat.le_trans (by omega) (o_g.lt g hg).1)
  replace r_t := r_t.grown hg (by omega) (fun g hg => Nat.le_trans (by omega) (o_g.lt g hg).1)
  replace o_v := own_far o_v hg (fun g h1 h2 => by have := u_v g h1; have := (o_g.lt g h2).1; omega)
  replace r_v := (Reads.of_own o_v)
  replace o_g := om
  replace r_g := Reads.of_own o_g
  clear hg om
  go_wp2_with fail
  refine (heldPacketS_c _ _ _ _ _ (r_g.more (by omega)) (by omega) (by omega) (by omega)).mono ?_
  rintro e w18 ⟨rfl, hb⟩
  have k18 : Below w.heap.size w w18 := ext_step k17 (by omega) hb
  have p18 := hb.size
  replace bx0_0 := ccell hb _ _ _ bx0_0
  replace bx0_1 := ccell hb _ _ _ bx0_1
  replace bx0_2 := ccell hb _ _ _ bx0_2
  replace bx0_3 := ccell hb _ _ _ bx0_3
  replace bx1_0 := ccell hb _ _ _ bx1_0
  replace bx1_1 := ccell hb _ _ _ bx1_1
  replace bx1_2 := ccell hb _ _ _ bx1_2
  replace bx1_3 := ccell hb _ _ _ bx1_3
  have bl0 := Nat.lt_of_lt_of_le bl0 hb.size
  have bl1 := Nat.lt_of_lt_of_le bl1 hb.size
  replace r_p := r_p.below (hb.mono (by omega))
  replace r_r := r_r.below (hb.mono (by omega))
  replace r_s := r_s.below (hb.mono (by omega))
  replace r_t := r_t.below (hb.mono (by omega))
  replace r_v := r_v.below (hb.mono (by omega))
  replace o_v := own_ext o_v hb
  replace r_g := r_g.below (hb.mono (by omega))
  replace o_g := own_ext o_g hb
  clear hb
  go_wp2_with fail
  refine (hto _ (r_r.more (by omega)) (r_s.more (by omega)) (r_t.more (by omega))).mono ?_
  rintro e w19 ⟨v, rfl, ⟨A_i, c_i, A_j, c_j, A_k, c_k, rfl, o_i, o_j, o_k⟩, hb⟩
  have k19 : Below w.heap.size w w19 := ext_step k18 (by omega) hb
  have p19 := hb.size
  replace bx0_0 := ccell hb _ _ _ bx0_0
  replace bx0_1 := ccell hb _ _ _ bx0_1
  replace bx0_2 := ccell hb _ _ _ bx0_2
  replace bx0_3 := ccell hb _ _ _ bx0_3
  replace bx1_0 := ccell hb _ _ _ bx1_0
  replace bx1_1 := ccell hb _ _ _ bx1_1
  replace bx1_2 := ccell hb _ _ _ bx1_2
  replace bx1_3 := ccell hb _ _ _ bx1_3
  have bl0 := Nat.lt_of_lt_of_le bl0 hb.size
  have bl1 := Nat.lt_of_lt_of_le bl1 hb.size
  replace r_p := r_p.below (hb.mono (by omega))
  replace r_r := r_r.below (hb.mono (by omega))
  replace r_s := r_s.below (hb.mono (by omega))
  replace r_t := r_t.below (hb.mono (by omega))
  replace r_v := r_v.below (hb.mono (by omega))
  replace o_v := own_ext o_v hb
  replace r_g := r_g.below (hb.mono (by omega))
  replace o_g := own_ext o_g hb
  have r_i := Reads.of_own o_i
  have u_i := fun k hk => (o_i.lt k hk).2
  have r_j := Reads.of_own o_j
  have u_j := fun k hk => (o_j.lt k hk).2
  have r_k := Reads.of_own o_k
  have u_k := fun k hk => (o_k.lt k hk).2
  clear hb
  go_wp2_with fail
  refine (toPacketS_c _ _ _ lp _ hn_p hs_p (r_p.more (by omega))).mono ?_
  rintro e w20 ⟨g_q, rfl, hg_q, b_q, hb⟩
  have k20 : Below w.heap.size w w20 := ext_step k19 (by omega) hb
  have p20 := hb.size
  replace bx0_0 := ccell hb _ _ _ bx0_0
  replace bx0_1 := ccell hb _ _ _ bx0_1
  replace bx0_2 := ccell hb _ _ _ bx0_2
  replace bx0_3 := ccell hb _ _ _ bx0_3
  replace bx1_0 := ccell hb _ _ _ bx1_0
  replace bx1_1 := ccell hb _ _ _ bx1_1
  replace bx1_2 := ccell hb _ _ _ bx1_2
  replace bx1_3 := ccell hb _ _ _ bx1_3
  have bl0 := Nat.lt_of_lt_of_le bl0 hb.size
  have bl1 := Nat.lt_of_lt_of_le bl1 hb.size
  replace r_p := r_p.below (hb.mono (by omega))
  replace r_r := r_r.below (hb.mono (by omega))
  replace r_s := r_s.below (hb.mono (by omega))
  replace r_t := r_t.below (hb.mono (by omega))
  replace r_v := r_v.below (hb.mono (by omega))
  replace o_v := own_ext o_v hb
  replace r_g := r_g.below (hb.mono (by omega))
  replace o_g := own_ext o_g hb
  replace r_i := r_i.below (hb.mono (by omega))
  replace o_i := own_ext o_i hb
  replace r_j := r_j.below (hb.mono (by omega))
  replace o_j := own_ext o_j hb
  replace r_k := r_k.below (hb.mono (by omega))
  replace o_k := own_ext o_k hb
  have r_q := b_q.reads (size := 16) (n := np) (by rw [flatMap_len _ 16 (fun _ => rfl), hn_p])
  have o_q := b_q.own (base := w19.heap.size) (size := 16) (n := np) hg_q (by rw [flatMap_len _ 16 (fun _ => rfl), hn_p]) (by unfold maxLen; omega) rfl
  have u_q := fun k hk => (o_q.lt k hk).2
  clear hb
  go_wp2_with fail
  refine (himpl _ _ _ _ _ _ _ _ _ (r_i.more (by omega)) (r_j.more (by omega)) (r_k.more (by omega)) (r_q.more (by omega))).mono ?_
  rintro e w21 ⟨A_h, c_h, rfl, o_h, hb⟩
  have k21 : Below w.heap.size w w21 := ext_step k20 (by omega) hb
  have p21 := hb.size
  replace bx0_0 := ccell hb _ _ _ bx0_0
  replace bx0_1 := ccell hb _ _ _ bx0_1
  replace bx0_2 := ccell hb _ _ _ bx0_2
  replace bx0_3 := ccell hb _ _ _ bx0_3
  replace bx1_0 := ccell hb _ _ _ bx1_0
  replace bx1_1 := ccell hb _ _ _ bx1_1
  replace bx1_2 := ccell hb _ _ _ bx1_2
  replace bx1_3 := ccell hb _ _ _ bx1_3
  have bl0 := Nat.lt_of_lt_of_le bl0 hb.size
  have bl1 := Nat.lt_of_lt_of_le bl1 hb.size
  replace r_p := r_p.below (hb.mono (by omega))
  replace r_r := r_r.below (hb.mono (by omega))
  replace r_s := r_s.below (hb.mono (by omega))
  replace r_t := r_t.below (hb.mono (by omega))
  replace r_v := r_v.below (hb.mono (by omega))
  replace o_v := own_ext o_v hb
  replace r_g := r_g.below (hb.mono (by omega))
  replace o_g := own_ext o_g hb
  replace r_i := r_i.below (hb.mono (by omega))
  replace o_i := own_ext o_i hb
  replace r_j := r_j.below (hb.mono (by omega))
  replace o_j := own_ext o_j hb
  replace r_k := r_k.below (hb.mono (by omega))
  replace o_k := own_ext o_k hb
  replace r_q := r_q.below (hb.mono (by omega))
  replace o_q := own_ext o_q hb
  have r_h := Reads.of_own o_h
  have u_h := fun k hk => (o_h.lt k hk).2
  clear hb
  (try clear o_i)
  (try clear r_i)
  (try clear o_j)
  (try clear r_j)
  (try clear o_k)
  (try clear r_k)
  (try clear o_q)
  (try clear r_q)
  go_wp2_with fail
  refine (eqPacketS_c _ _ _ _ _ lw _ hn_v (by omega) (r_h.more (by omega)) (r_v.more (by omega))).mono ?_
  rintro e w22 ⟨rfl, hb⟩
  have k22 : Below w.heap.size w w22 := ext_step k21 (by omega) hb
  have p22 := hb.size
  replace bx0_0 := ccell hb _ _ _ bx0_0
  replace bx0_1 := ccell hb _ _ _ bx0_1
  replace bx0_2 := ccell hb _ _ _ bx0_2
  replace bx0_3 := ccell hb _ _ _ bx0_3
  replace bx1_0 := ccell hb _ _ _ bx1_0
  replace bx1_1 := ccell hb _ _ _ bx1_1
  replace bx1_2 := ccell hb _ _ _ bx1_2
  replace bx1_3 := ccell hb _ _ _ bx1_3
  have bl0 := Nat.lt_of_lt_of_le bl0 hb.size
  have bl1 := Nat.lt_of_lt_of_le bl1 hb.size
  replace r_p := r_p.below (hb.mono (by omega))
  replace r_r := r_r.below (hb.mono (by omega))
  replace r_s := r_s.below (hb.mono (by omega))
  replace r_t := r_t.below (hb.mono (by omega))
  replace r_v := r_v.below (hb.mono (by omega))
  replace o_v := own_ext o_v hb
  replace r_g := r_g.below (hb.mono (by omega))
  replace o_g := own_ext o_g hb
  replace r_h := r_h.below (hb.mono (by omega))
  replace o_h := own_ext o_h hb
  clear hb
  (try clear o_h)
  (try clear r_h)
  (try clear o_v)
  (try clear r_v)
  go_wp2_with fail
  refine (heldPacketS_c _ _ _ _ _ (r_g.more (by omega)) (by omega) (by omega) (by omega)).mono ?_
  rintro e w23 ⟨rfl, hb⟩
  have k23 : Below w.heap.size w w23 := ext_step k22 (by omega) hb
  have p23 := hb.size
  replace bx0_0 := ccell hb _ _ _ bx0_0
  replace bx0_1 := ccell hb _ _ _ bx0_1
  replace bx0_2 := ccell hb _ _ _ bx0_2
  replace bx0_3 := ccell hb _ _ _ bx0_3
  replace bx1_0 := ccell hb _ _ _ bx1_0
  replace bx1_1 := ccell hb _ _ _ bx1_1
  replace bx1_2 := ccell hb _ _ _ bx1_2
  replace bx1_3 := ccell hb _ _ _ bx1_3
  have bl0 := Nat.lt_of_lt_of_le bl0 hb.size
  have bl1 := Nat.lt_of_lt_of_le bl1 hb.size
  replace r_p := r_p.below (hb.mono (by omega))
  replace r_r := r_r.below (hb.mono (by omega))
  replace r_s := r_s.below (hb.mono (by omega))
  replace r_t := r_t.below (hb.mono (by omega))
  replace r_g := r_g.below (hb.mono (by omega))
  replace o_g := own_ext o_g hb
  clear hb
  go_wp2
  go_ret
  exact ⟨rfl, k23⟩
theorem qp_law (Ar : Option Addr) (cr : Nat) (rs : List Rule) (As : Option Addr) (cs : Nat) (l : List Slot) (key : ByteArray) (At : Option Addr) (ct : Nat) (tb : List Int) (q : Int) (Ap : Option Addr) (np cp : Nat) (lp : List Packet) (hn_p : lp.length = np) (qq : Int) (w : World) (r_r : Reads w w.heap.size 9 Ar rs.length (rs.flatMap Rule.cells)) (r_s : Reads w w.heap.size 7 As l.length (l.flatMap Slot.cells)) (r_t : Reads w w.heap.size 1 At tb.length (tb.flatMap fun x : Int => [Value.int .i64 x])) (r_p : Reads w w.heap.size 16 Ap np (lp.flatMap Packet.cells)) (hk : key.size ≤ maxLen) (hpb : ∀ p ∈ lp, p.seg_body.size ≤ maxLen) (hm1 : rs.length ≤ 9223372036854775807) (hm2 : l.length ≤ 9223372036854775807) (hm3 : tb.length ≤ 9223372036854775807) (hm4 : np ≤ 9223372036854775807) :
    Calls Try.prog 8 #[.agg #[.slice Ar rs.length cr, .slice As l.length cs, .string key, .slice At tb.length ct], .int .i64 q, .slice Ap np cp, .int .i64 qq] w fun e w' => e = .returned (.bool true) ∧ Below w.heap.size w w' := by
  by_cases h1 : (1048576 : Int) < (rs.length : Int) + l.length + key.size + tb.length
  · exact qpL_n Ar cr rs As cs l key At ct tb q Ap np cp lp hn_p qq w (fun u => szSteering_n Ar rs.length cr As l.length cs key At tb.length ct 1048576 u hk (by decide) h1 (by decide) hm1 hm2 hm3)
  · have hz1 := fun u => szSteering_p Ar rs.length cr As l.length cs key At tb.length ct 1048576 u hk (by omega) (by decide)
    have hz2 := fun u hr => szPacketS_c Ap np cp lp u hn_p hm4 hr hpb (1048576 - rs.length - l.length - key.size - tb.length) (by omega) (by omega)
    by_cases h2 : (1048576 : Int) - rs.length - l.length - key.size - tb.length - np < 0
    · simp only [if_pos h2] at hz2
      exact qpL_m Ar cr rs As cs l key At ct tb q Ap np cp lp hn_p qq w _ (by omega) hz1 hz2 r_p
    · simp only [if_neg h2] at hz2
      obtain ⟨L, hL⟩ : ∃ L, szPk lp ((1048576 : Int) - rs.length - l.length - key.size - tb.length - np) = L := ⟨_, rfl⟩
      have hle := szPk_le lp _ (Int.not_lt.1 h2)
      have hel := szPk_el (l := lp) (Int.not_lt.1 h2)
      rw [hL] at hle hel
      simp only [hL] at hz2
      by_cases h3 : L < 0
      · obtain rfl : L = -1 := by omega
        exact qpL_m Ar cr rs As cs l key At ct tb q Ap np cp lp hn_p qq w _ (by omega) hz1 hz2 r_p
      · have hzp : ∀ p ∈ lp, p.seg_body.size ≤ 1048576 := fun p hp => by have := hel (by omega) p hp; omega
        exact qpL_ok Ar cr rs As cs l key At ct tb q Ap np cp lp hn_p qq w _ _ (by omega) h3 hz1 hz2 (by omega) (by omega) (by omega) (by omega) hzp r_r r_s r_t r_p
theorem fnExactQueuePackets_walk (A1 : Option Addr) (n1 c1 : Nat) (l1 : List Rule) (A2 : Option Addr) (n2 c2 : Nat) (l2 : List Slot) (key : ByteArray) (A3 : Option Addr) (n3 c3 : Nat) (l3 : List Int) (q : Int) (A4 : Option Addr) (n4 c4 : Nat) (l4 : List Packet) (qq : Int) (w : World) (s1 : SlRule w A1 n1 c1 l1) (s2 : SlSlot w A2 n2 c2 l2) (hk : key.size ≤ maxLen) (s3 : SlInt w A3 n3 c3 l3) (hq : I64 q) (s4 : SlPacket w A4 n4 c4 l4) (hqq : I64 qq) :
    Calls Try.prog 8 #[.agg #[.slice A1 n1 c1, .slice A2 n2 c2, .string key, .slice A3 n3 c3], .int .i64 q, .slice A4 n4 c4, .int .i64 qq] w fun e w' => e = .returned (.bool true) ∧ Below w.heap.size w w' := by
  obtain ⟨⟨rfl, hnc1, hc1, r1⟩, _⟩ := s1
  obtain ⟨⟨rfl, hnc2, hc2, r2⟩, _⟩ := s2
  obtain ⟨⟨rfl, hnc3, hc3, r3⟩, _⟩ := s3
  obtain ⟨⟨hn4, hnc4, hc4, r4⟩, hok⟩ := s4
  exact qp_law A1 c1 l1 A2 c2 l2 key A3 c3 l3 q A4 n4 c4 l4 hn4 qq w r1 r2 r3 r4 hk (fun p hp => (hok p hp).2.2.2.2.2.2.2.2.2.2.2.2.2.2.2) (by omega) (by omega) (by omega) (by omega)
end Go.Proofs.Ytifbfmafogmemaa
