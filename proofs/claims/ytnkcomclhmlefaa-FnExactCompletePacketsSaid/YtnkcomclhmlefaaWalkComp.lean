/- The walk of laws.FnExactCompletePackets. -/
import Derived.Test.YtnkcomclhmlefaaTxG
import Derived.Test.YtnkcomclhmlefaaOpenT
namespace Go.Proofs.Ytnkcomclhmlefaa
set_option linter.unusedSimpArgs false
set_option linter.unusedVariables false
open Go.RowKit Go.ChangeShapes Go.WideShapes
set_option maxRecDepth 100000 in
set_option maxHeartbeats 4000000 in
theorem compL_n (H : TxH) (n : Int) (w : World) (r0 : TxR w w.heap.size H) (hz : ∀ u, Below w.heap.size w u → Calls Try.prog 5 #[.agg #[.int .i64 H.rb, .int .i64 H.rs, .int .i64 H.rh, .int .i64 H.rt, .int .i64 H.pb, .int .i64 H.ps, .int .i64 H.pc, .slice H.Ap H.np H.cp, .slice H.As H.ns H.cs, .int .i64 H.next], .int .i64 1048576] u fun e w' => e = .returned (.int .i64 (-1)) ∧ Below u.heap.size u w') :
    Calls Try.prog 4 #[.agg #[.int .i64 H.rb, .int .i64 H.rs, .int .i64 H.rh, .int .i64 H.rt, .int .i64 H.pb, .int .i64 H.ps, .int .i64 H.pc, .slice H.Ap H.np H.cp, .slice H.As H.ns H.cs, .int .i64 H.next], .int .i64 n] w fun e w' => e = .returned (.bool true) ∧ Below w.heap.size w w' := by
  have r_a := r0
  go_enter Try.func4, Try.ntmps4
  go_wp2_with fail
  have k0 : Below w.heap.size w (w.alloc (.cells #[.int .i64 H.rb, .int .i64 H.rs, .int .i64 H.rh, .int .i64 H.rt, .int .i64 H.pb, .int .i64 H.ps, .int .i64 H.pc, .slice H.Ap H.np H.cp, .slice H.As H.ns H.cs, .int .i64 H.next] 29)) := by go_grown
  have bx0_0 : (w.alloc (.cells #[.int .i64 H.rb, .int .i64 H.rs, .int .i64 H.rh, .int .i64 H.rt, .int .i64 H.pb, .int .i64 H.ps, .int .i64 H.pc, .slice H.Ap H.np H.cp, .slice H.As H.ns H.cs, .int .i64 H.next] 29)).cell? ⟨w.heap.size, 0, none⟩ = some (.int .i64 H.rb) := by simp [go_sem]
  have bx0_1 : (w.alloc (.cells #[.int .i64 H.rb, .int .i64 H.rs, .int .i64 H.rh, .int .i64 H.rt, .int .i64 H.pb, .int .i64 H.ps, .int .i64 H.pc, .slice H.Ap H.np H.cp, .slice H.As H.ns H.cs, .int .i64 H.next] 29)).cell? ⟨w.heap.size, 1, none⟩ = some (.int .i64 H.rs) := by simp [go_sem]
  have bx0_2 : (w.alloc (.cells #[.int .i64 H.rb, .int .i64 H.rs, .int .i64 H.rh, .int .i64 H.rt, .int .i64 H.pb, .int .i64 H.ps, .int .i64 H.pc, .slice H.Ap H.np H.cp, .slice H.As H.ns H.cs, .int .i64 H.next] 29)).cell? ⟨w.heap.size, 2, none⟩ = some (.int .i64 H.rh) := by simp [go_sem]
  have bx0_3 : (w.alloc (.cells #[.int .i64 H.rb, .int .i64 H.rs, .int .i64 H.rh, .int .i64 H.rt, .int .i64 H.pb, .int .i64 H.ps, .int .i64 H.pc, .slice H.Ap H.np H.cp, .slice H.As H.ns H.cs, .int .i64 H.next] 29)).cell? ⟨w.heap.size, 3, none⟩ = some (.int .i64 H.rt) := by simp [go_sem]
  have bx0_4 : (w.alloc (.cells #[.int .i64 H.rb, .int .i64 H.rs, .int .i64 H.rh, .int .i64 H.rt, .int .i64 H.pb, .int .i64 H.ps, .int .i64 H.pc, .slice H.Ap H.np H.cp, .slice H.As H.ns H.cs, .int .i64 H.next] 29)).cell? ⟨w.heap.size, 4, none⟩ = some (.int .i64 H.pb) := by simp [go_sem]
  have bx0_5 : (w.alloc (.cells #[.int .i64 H.rb, .int .i64 H.rs, .int .i64 H.rh, .int .i64 H.rt, .int .i64 H.pb, .int .i64 H.ps, .int .i64 H.pc, .slice H.Ap H.np H.cp, .slice H.As H.ns H.cs, .int .i64 H.next] 29)).cell? ⟨w.heap.size, 5, none⟩ = some (.int .i64 H.ps) := by simp [go_sem]
  have bx0_6 : (w.alloc (.cells #[.int .i64 H.rb, .int .i64 H.rs, .int .i64 H.rh, .int .i64 H.rt, .int .i64 H.pb, .int .i64 H.ps, .int .i64 H.pc, .slice H.Ap H.np H.cp, .slice H.As H.ns H.cs, .int .i64 H.next] 29)).cell? ⟨w.heap.size, 6, none⟩ = some (.int .i64 H.pc) := by simp [go_sem]
  have bx0_7 : (w.alloc (.cells #[.int .i64 H.rb, .int .i64 H.rs, .int .i64 H.rh, .int .i64 H.rt, .int .i64 H.pb, .int .i64 H.ps, .int .i64 H.pc, .slice H.Ap H.np H.cp, .slice H.As H.ns H.cs, .int .i64 H.next] 29)).cell? ⟨w.heap.size, 7, none⟩ = some (.slice H.Ap H.np H.cp) := by simp [go_sem]
  have bx0_8 : (w.alloc (.cells #[.int .i64 H.rb, .int .i64 H.rs, .int .i64 H.rh, .int .i64 H.rt, .int .i64 H.pb, .int .i64 H.ps, .int .i64 H.pc, .slice H.Ap H.np H.cp, .slice H.As H.ns H.cs, .int .i64 H.next] 29)).cell? ⟨w.heap.size, 8, none⟩ = some (.slice H.As H.ns H.cs) := by simp [go_sem]
  have bx0_9 : (w.alloc (.cells #[.int .i64 H.rb, .int .i64 H.rs, .int .i64 H.rh, .int .i64 H.rt, .int .i64 H.pb, .int .i64 H.ps, .int .i64 H.pc, .slice H.Ap H.np H.cp, .slice H.As H.ns H.cs, .int .i64 H.next] 29)).cell? ⟨w.heap.size, 9, none⟩ = some (.int .i64 H.next) := by simp [go_sem]
  have bl0 : w.heap.size < (w.alloc (.cells #[.int .i64 H.rb, .int .i64 H.rs, .int .i64 H.rh, .int .i64 H.rt, .int .i64 H.pb, .int .i64 H.ps, .int .i64 H.pc, .slice H.Ap H.np H.cp, .slice H.As H.ns H.cs, .int .i64 H.next] 29)).heap.size := by go_size
  have r_a := r_a.below k0
  have p0 := k0.size
  generalize hW0 : (w.alloc (.cells #[.int .i64 H.rb, .int .i64 H.rs, .int .i64 H.rh, .int .i64 H.rt, .int .i64 H.pb, .int .i64 H.ps, .int .i64 H.pc, .slice H.Ap H.np H.cp, .slice H.As H.ns H.cs, .int .i64 H.next] 29)) = w0 at *
  clear hW0
  refine (hz _ k0).mono ?_
  rintro e w1 ⟨rfl, hb⟩
  have k1 : Below w.heap.size w w1 := ext_step k0 (by omega) hb
  have p1 := hb.size
  replace bx0_0 := ccell hb _ _ _ bx0_0
  replace bx0_1 := ccell hb _ _ _ bx0_1
  replace bx0_2 := ccell hb _ _ _ bx0_2
  replace bx0_3 := ccell hb _ _ _ bx0_3
  replace bx0_4 := ccell hb _ _ _ bx0_4
  replace bx0_5 := ccell hb _ _ _ bx0_5
  replace bx0_6 := ccell hb _ _ _ bx0_6
  replace bx0_7 := ccell hb _ _ _ bx0_7
  replace bx0_8 := ccell hb _ _ _ bx0_8
  replace bx0_9 := ccell hb _ _ _ bx0_9
  have bl0 := Nat.lt_of_lt_of_le bl0 hb.size
  replace r_a := r_a.below (hb.mono (by omega))
  clear hb
  go_wp2
  go_ret
  exact ⟨rfl, k1⟩
set_option maxRecDepth 100000 in
set_option maxHeartbeats 16000000 in
theorem compL_ok (H : TxH) (n : Int) (q : TxV) (w : World) (lf : Int) (hl0 : ¬ lf < 0) (hvq : H.v = q) (hq : q.sz ≤ 1048576) (h1 : I64 q.rh) (h2 : I64 q.rt) (r0 : TxR w w.heap.size H) (hz : ∀ u, Below w.heap.size w u → Calls Try.prog 5 #[.agg #[.int .i64 H.rb, .int .i64 H.rs, .int .i64 H.rh, .int .i64 H.rt, .int .i64 H.pb, .int .i64 H.ps, .int .i64 H.pc, .slice H.Ap H.np H.cp, .slice H.As H.ns H.cs, .int .i64 H.next], .int .i64 1048576] u fun e w' => e = .returned (.int .i64 lf) ∧ Below u.heap.size u w') :
    Calls Try.prog 4 #[.agg #[.int .i64 H.rb, .int .i64 H.rs, .int .i64 H.rh, .int .i64 H.rt, .int .i64 H.pb, .int .i64 H.ps, .int .i64 H.pc, .slice H.Ap H.np H.cp, .slice H.As H.ns H.cs, .int .i64 H.next], .int .i64 n] w fun e w' => e = .returned (.bool true) ∧ Below w.heap.size w w' := by
  have hto := fun (u : World) r => toTx_c H q u hvq hq r
  have hspec := fun (H : TxH) (u : World) hv hc r => specComp_c H q n u hv hq h1 h2 hc r
  have himpl := fun (H : TxH) (u : World) hv hc r => implComp_c H q n u hv hq h1 h2 hc r
  have heq := fun (H H' : TxH) (u : World) hv hv' r' r => eqTx_c H H' q u hv hv' hq r r'
  have hqz := Nat.le_trans (compV_sz q n) hq
  have hcz := Nat.le_trans (compC_len q n) hq
  have heqz := fun (H H' : TxH) (u : World) hv hv' r r' => eqTx_c H H' (compV q n) u hv hv' hqz r r'
  generalize compV q n = qz at *
  generalize compC q n = cz at *
  obtain ⟨nz, hcn⟩ : ∃ m, cz.length = m := ⟨_, rfl⟩
  simp only [hcn] at hspec himpl hcz
  have r_a := r0
  go_enter Try.func4, Try.ntmps4
  go_wp2_with fail
  have k0 : Below w.heap.size w (w.alloc (.cells #[.int .i64 H.rb, .int .i64 H.rs, .int .i64 H.rh, .int .i64 H.rt, .int .i64 H.pb, .int .i64 H.ps, .int .i64 H.pc, .slice H.Ap H.np H.cp, .slice H.As H.ns H.cs, .int .i64 H.next] 29)) := by go_grown
  have bx0_0 : (w.alloc (.cells #[.int .i64 H.rb, .int .i64 H.rs, .int .i64 H.rh, .int .i64 H.rt, .int .i64 H.pb, .int .i64 H.ps, .int .i64 H.pc, .slice H.Ap H.np H.cp, .slice H.As H.ns H.cs, .int .i64 H.next] 29)).cell? ⟨w.heap.size, 0, none⟩ = some (.int .i64 H.rb) := by simp [go_sem]
  have bx0_1 : (w.alloc (.cells #[.int .i64 H.rb, .int .i64 H.rs, .int .i64 H.rh, .int .i64 H.rt, .int .i64 H.pb, .int .i64 H.ps, .int .i64 H.pc, .slice H.Ap H.np H.cp, .slice H.As H.ns H.cs, .int .i64 H.next] 29)).cell? ⟨w.heap.size, 1, none⟩ = some (.int .i64 H.rs) := by simp [go_sem]
  have bx0_2 : (w.alloc (.cells #[.int .i64 H.rb, .int .i64 H.rs, .int .i64 H.rh, .int .i64 H.rt, .int .i64 H.pb, .int .i64 H.ps, .int .i64 H.pc, .slice H.Ap H.np H.cp, .slice H.As H.ns H.cs, .int .i64 H.next] 29)).cell? ⟨w.heap.size, 2, none⟩ = some (.int .i64 H.rh) := by simp [go_sem]
  have bx0_3 : (w.alloc (.cells #[.int .i64 H.rb, .int .i64 H.rs, .int .i64 H.rh, .int .i64 H.rt, .int .i64 H.pb, .int .i64 H.ps, .int .i64 H.pc, .slice H.Ap H.np H.cp, .slice H.As H.ns H.cs, .int .i64 H.next] 29)).cell? ⟨w.heap.size, 3, none⟩ = some (.int .i64 H.rt) := by simp [go_sem]
  have bx0_4 : (w.alloc (.cells #[.int .i64 H.rb, .int .i64 H.rs, .int .i64 H.rh, .int .i64 H.rt, .int .i64 H.pb, .int .i64 H.ps, .int .i64 H.pc, .slice H.Ap H.np H.cp, .slice H.As H.ns H.cs, .int .i64 H.next] 29)).cell? ⟨w.heap.size, 4, none⟩ = some (.int .i64 H.pb) := by simp [go_sem]
  have bx0_5 : (w.alloc (.cells #[.int .i64 H.rb, .int .i64 H.rs, .int .i64 H.rh, .int .i64 H.rt, .int .i64 H.pb, .int .i64 H.ps, .int .i64 H.pc, .slice H.Ap H.np H.cp, .slice H.As H.ns H.cs, .int .i64 H.next] 29)).cell? ⟨w.heap.size, 5, none⟩ = some (.int .i64 H.ps) := by simp [go_sem]
  have bx0_6 : (w.alloc (.cells #[.int .i64 H.rb, .int .i64 H.rs, .int .i64 H.rh, .int .i64 H.rt, .int .i64 H.pb, .int .i64 H.ps, .int .i64 H.pc, .slice H.Ap H.np H.cp, .slice H.As H.ns H.cs, .int .i64 H.next] 29)).cell? ⟨w.heap.size, 6, none⟩ = some (.int .i64 H.pc) := by simp [go_sem]
  have bx0_7 : (w.alloc (.cells #[.int .i64 H.rb, .int .i64 H.rs, .int .i64 H.rh, .int .i64 H.rt, .int .i64 H.pb, .int .i64 H.ps, .int .i64 H.pc, .slice H.Ap H.np H.cp, .slice H.As H.ns H.cs, .int .i64 H.next] 29)).cell? ⟨w.heap.size, 7, none⟩ = some (.slice H.Ap H.np H.cp) := by simp [go_sem]
  have bx0_8 : (w.alloc (.cells #[.int .i64 H.rb, .int .i64 H.rs, .int .i64 H.rh, .int .i64 H.rt, .int .i64 H.pb, .int .i64 H.ps, .int .i64 H.pc, .slice H.Ap H.np H.cp, .slice H.As H.ns H.cs, .int .i64 H.next] 29)).cell? ⟨w.heap.size, 8, none⟩ = some (.slice H.As H.ns H.cs) := by simp [go_sem]
  have bx0_9 : (w.alloc (.cells #[.int .i64 H.rb, .int .i64 H.rs, .int .i64 H.rh, .int .i64 H.rt, .int .i64 H.pb, .int .i64 H.ps, .int .i64 H.pc, .slice H.Ap H.np H.cp, .slice H.As H.ns H.cs, .int .i64 H.next] 29)).cell? ⟨w.heap.size, 9, none⟩ = some (.int .i64 H.next) := by simp [go_sem]
  have bl0 : w.heap.size < (w.alloc (.cells #[.int .i64 H.rb, .int .i64 H.rs, .int .i64 H.rh, .int .i64 H.rt, .int .i64 H.pb, .int .i64 H.ps, .int .i64 H.pc, .slice H.Ap H.np H.cp, .slice H.As H.ns H.cs, .int .i64 H.next] 29)).heap.size := by go_size
  have r_a := r_a.below k0
  have p0 := k0.size
  generalize hW0 : (w.alloc (.cells #[.int .i64 H.rb, .int .i64 H.rs, .int .i64 H.rh, .int .i64 H.rt, .int .i64 H.pb, .int .i64 H.ps, .int .i64 H.pc, .slice H.Ap H.np H.cp, .slice H.As H.ns H.cs, .int .i64 H.next] 29)) = w0 at *
  clear hW0
  refine (hz _ k0).mono ?_
  rintro e w1 ⟨rfl, hb⟩
  have k1 : Below w.heap.size w w1 := ext_step k0 (by omega) hb
  have p1 := hb.size
  replace bx0_0 := ccell hb _ _ _ bx0_0
  replace bx0_1 := ccell hb _ _ _ bx0_1
  replace bx0_2 := ccell hb _ _ _ bx0_2
  replace bx0_3 := ccell hb _ _ _ bx0_3
  replace bx0_4 := ccell hb _ _ _ bx0_4
  replace bx0_5 := ccell hb _ _ _ bx0_5
  replace bx0_6 := ccell hb _ _ _ bx0_6
  replace bx0_7 := ccell hb _ _ _ bx0_7
  replace bx0_8 := ccell hb _ _ _ bx0_8
  replace bx0_9 := ccell hb _ _ _ bx0_9
  have bl0 := Nat.lt_of_lt_of_le bl0 hb.size
  replace r_a := r_a.below (hb.mono (by omega))
  clear hb
  go_wp2_with fail
  refine (hto _ (r_a.more (by omega))).mono ?_
  rintro e w2 ⟨v, rfl, ⟨H_t, rfl, hv_t, o_t⟩, hb⟩
  have k2 : Below w.heap.size w w2 := ext_step k1 (by omega) hb
  have p2 := hb.size
  replace bx0_0 := ccell hb _ _ _ bx0_0
  replace bx0_1 := ccell hb _ _ _ bx0_1
  replace bx0_2 := ccell hb _ _ _ bx0_2
  replace bx0_3 := ccell hb _ _ _ bx0_3
  replace bx0_4 := ccell hb _ _ _ bx0_4
  replace bx0_5 := ccell hb _ _ _ bx0_5
  replace bx0_6 := ccell hb _ _ _ bx0_6
  replace bx0_7 := ccell hb _ _ _ bx0_7
  replace bx0_8 := ccell hb _ _ _ bx0_8
  replace bx0_9 := ccell hb _ _ _ bx0_9
  have bl0 := Nat.lt_of_lt_of_le bl0 hb.size
  replace r_a := r_a.below (hb.mono (by omega))
  have r_t := TxO.rd o_t
  have lo_t := fun g hg => (TxO.lt o_t (g := g) hg).1
  have u_t := fun g hg => (TxO.lt o_t (g := g) hg).2
  clear hb
  go_wp2_with fail
  refine (hspec H_t _ hv_t (own_cap2 o_t) (r_t.more (by omega))).mono ?_
  rintro e w3 ⟨H_w, A_v, c_v, rfl, hv_w, r_w, r_v, hb⟩
  have k3 : Below w.heap.size w w3 := ext_step k2 (by omega) hb
  have p3 := hb.size
  replace o_t := o_t.ext hb
  replace bx0_0 := ccell hb _ _ _ bx0_0
  replace bx0_1 := ccell hb _ _ _ bx0_1
  replace bx0_2 := ccell hb _ _ _ bx0_2
  replace bx0_3 := ccell hb _ _ _ bx0_3
  replace bx0_4 := ccell hb _ _ _ bx0_4
  replace bx0_5 := ccell hb _ _ _ bx0_5
  replace bx0_6 := ccell hb _ _ _ bx0_6
  replace bx0_7 := ccell hb _ _ _ bx0_7
  replace bx0_8 := ccell hb _ _ _ bx0_8
  replace bx0_9 := ccell hb _ _ _ bx0_9
  have bl0 := Nat.lt_of_lt_of_le bl0 hb.size
  replace r_a := r_a.below (hb.mono (by omega))
  replace r_t := r_t.below (hb.mono (by omega))
  clear hb
  clear r_t o_t lo_t u_t
  go_wp2_with fail
  obtain ⟨w4, hW0⟩ : ∃ W, W = (w3.alloc (.cells #[.int .i64 H_w.rb, .int .i64 H_w.rs, .int .i64 H_w.rh, .int .i64 H_w.rt, .int .i64 H_w.pb, .int .i64 H_w.ps, .int .i64 H_w.pc, .slice H_w.Ap H_w.np H_w.cp, .slice H_w.As H_w.ns H_w.cs, .int .i64 H_w.next] 36)) := ⟨_, rfl⟩
  have hb : Below w3.heap.size w3 w4 := by rw [hW0]; go_grown
  have hkz : Blk w4 w3.heap.size 36 [.int .i64 H_w.rb, .int .i64 H_w.rs, .int .i64 H_w.rh, .int .i64 H_w.rt, .int .i64 H_w.pb, .int .i64 H_w.ps, .int .i64 H_w.pc, .slice H_w.Ap H_w.np H_w.cp, .slice H_w.As H_w.ns H_w.cs, .int .i64 H_w.next] := by rw [hW0]; exact Blk.new _ _ _
  rw [← hW0]
  clear hW0
  have bl1 := hkz.lt
  have k4 : Below w.heap.size w w4 := ext_step k3 (by omega) hb
  have p4 := hb.size
  replace bx0_0 := ccell hb _ _ _ bx0_0
  replace bx0_1 := ccell hb _ _ _ bx0_1
  replace bx0_2 := ccell hb _ _ _ bx0_2
  replace bx0_3 := ccell hb _ _ _ bx0_3
  replace bx0_4 := ccell hb _ _ _ bx0_4
  replace bx0_5 := ccell hb _ _ _ bx0_5
  replace bx0_6 := ccell hb _ _ _ bx0_6
  replace bx0_7 := ccell hb _ _ _ bx0_7
  replace bx0_8 := ccell hb _ _ _ bx0_8
  replace bx0_9 := ccell hb _ _ _ bx0_9
  have bl0 := Nat.lt_of_lt_of_le bl0 hb.size
  replace r_a := r_a.below (hb.mono (by omega))
  replace r_w := r_w.below (hb.mono (by omega))
  replace r_v := r_v.below (hb.mono (by omega))
  have bx1_0 := hkz.at_ 0 _ rfl
  have bx1_1 := hkz.at_ 1 _ rfl
  have bx1_2 := hkz.at_ 2 _ rfl
  have bx1_3 := hkz.at_ 3 _ rfl
  have bx1_4 := hkz.at_ 4 _ rfl
  have bx1_5 := hkz.at_ 5 _ rfl
  have bx1_6 := hkz.at_ 6 _ rfl
  have bx1_7 := hkz.at_ 7 _ rfl
  have bx1_8 := hkz.at_ 8 _ rfl
  have bx1_9 := hkz.at_ 9 _ rfl
  clear hb hkz
  refine (hto _ (r_a.more (by omega))).mono ?_
  rintro e w5 ⟨v, rfl, ⟨H_x, rfl, hv_x, o_x⟩, hb⟩
  have k5 : Below w.heap.size w w5 := ext_step k4 (by omega) hb
  have p5 := hb.size
  replace bx0_0 := ccell hb _ _ _ bx0_0
  replace bx0_1 := ccell hb _ _ _ bx0_1
  replace bx0_2 := ccell hb _ _ _ bx0_2
  replace bx0_3 := ccell hb _ _ _ bx0_3
  replace bx0_4 := ccell hb _ _ _ bx0_4
  replace bx0_5 := ccell hb _ _ _ bx0_5
  replace bx0_6 := ccell hb _ _ _ bx0_6
  replace bx0_7 := ccell hb _ _ _ bx0_7
  replace bx0_8 := ccell hb _ _ _ bx0_8
  replace bx0_9 := ccell hb _ _ _ bx0_9
  replace bx1_0 := ccell hb _ _ _ bx1_0
  replace bx1_1 := ccell hb _ _ _ bx1_1
  replace bx1_2 := ccell hb _ _ _ bx1_2
  replace bx1_3 := ccell hb _ _ _ bx1_3
  replace bx1_4 := ccell hb _ _ _ bx1_4
  replace bx1_5 := ccell hb _ _ _ bx1_5
  replace bx1_6 := ccell hb _ _ _ bx1_6
  replace bx1_7 := ccell hb _ _ _ bx1_7
  replace bx1_8 := ccell hb _ _ _ bx1_8
  replace bx1_9 := ccell hb _ _ _ bx1_9
  have bl0 := Nat.lt_of_lt_of_le bl0 hb.size
  have bl1 := Nat.lt_of_lt_of_le bl1 hb.size
  replace r_a := r_a.below (hb.mono (by omega))
  replace r_w := r_w.below (hb.mono (by omega))
  replace r_v := r_v.below (hb.mono (by omega))
  have r_x := TxO.rd o_x
  have lo_x := fun g hg => (TxO.lt o_x (g := g) hg).1
  have u_x := fun g hg => (TxO.lt o_x (g := g) hg).2
  clear hb
  go_wp2_with fail
  obtain ⟨w6, hW0⟩ : ∃ W, W = (w5.alloc (.cells #[.int .i64 H_x.rb, .int .i64 H_x.rs, .int .i64 H_x.rh, .int .i64 H_x.rt, .int .i64 H_x.pb, .int .i64 H_x.ps, .int .i64 H_x.pc, .slice H_x.Ap H_x.np H_x.cp, .slice H_x.As H_x.ns H_x.cs, .int .i64 H_x.next] 36)) := ⟨_, rfl⟩
  have hb : Below w5.heap.size w5 w6 := by rw [hW0]; go_grown
  have hkz : Blk w6 w5.heap.size 36 [.int .i64 H_x.rb, .int .i64 H_x.rs, .int .i64 H_x.rh, .int .i64 H_x.rt, .int .i64 H_x.pb, .int .i64 H_x.ps, .int .i64 H_x.pc, .slice H_x.Ap H_x.np H_x.cp, .slice H_x.As H_x.ns H_x.cs, .int .i64 H_x.next] := by rw [hW0]; exact Blk.new _ _ _
  rw [← hW0]
  clear hW0
  have bl2 := hkz.lt
  have k6 : Below w.heap.size w w6 := ext_step k5 (by omega) hb
  have p6 := hb.size
  replace o_x := o_x.ext hb
  replace bx0_0 := ccell hb _ _ _ bx0_0
  replace bx0_1 := ccell hb _ _ _ bx0_1
  replace bx0_2 := ccell hb _ _ _ bx0_2
  replace bx0_3 := ccell hb _ _ _ bx0_3
  replace bx0_4 := ccell hb _ _ _ bx0_4
  replace bx0_5 := ccell hb _ _ _ bx0_5
  replace bx0_6 := ccell hb _ _ _ bx0_6
  replace bx0_7 := ccell hb _ _ _ bx0_7
  replace bx0_8 := ccell hb _ _ _ bx0_8
  replace bx0_9 := ccell hb _ _ _ bx0_9
  replace bx1_0 := ccell hb _ _ _ bx1_0
  replace bx1_1 := ccell hb _ _ _ bx1_1
  replace bx1_2 := ccell hb _ _ _ bx1_2
  replace bx1_3 := ccell hb _ _ _ bx1_3
  replace bx1_4 := ccell hb _ _ _ bx1_4
  replace bx1_5 := ccell hb _ _ _ bx1_5
  replace bx1_6 := ccell hb _ _ _ bx1_6
  replace bx1_7 := ccell hb _ _ _ bx1_7
  replace bx1_8 := ccell hb _ _ _ bx1_8
  replace bx1_9 := ccell hb _ _ _ bx1_9
  have bl0 := Nat.lt_of_lt_of_le bl0 hb.size
  have bl1 := Nat.lt_of_lt_of_le bl1 hb.size
  replace r_a := r_a.below (hb.mono (by omega))
  replace r_w := r_w.below (hb.mono (by omega))
  replace r_v := r_v.below (hb.mono (by omega))
  replace r_x := r_x.below (hb.mono (by omega))
  have bx2_0 := hkz.at_ 0 _ rfl
  have bx2_1 := hkz.at_ 1 _ rfl
  have bx2_2 := hkz.at_ 2 _ rfl
  have bx2_3 := hkz.at_ 3 _ rfl
  have bx2_4 := hkz.at_ 4 _ rfl
  have bx2_5 := hkz.at_ 5 _ rfl
  have bx2_6 := hkz.at_ 6 _ rfl
  have bx2_7 := hkz.at_ 7 _ rfl
  have bx2_8 := hkz.at_ 8 _ rfl
  have bx2_9 := hkz.at_ 9 _ rfl
  clear hb hkz
  refine (himpl H_x _ hv_x (own_cap2 o_x) (r_x.more (by omega))).mono ?_
  rintro e w7 ⟨H_g, A_k, c_k, rfl, hv_g, o_g, o_k, hap_g, hb⟩
  have k7 : Below w.heap.size w w7 := ext_step k6 (by omega) hb
  have p7 := hb.size
  replace o_x := o_x.ext hb
  replace bx0_0 := ccell hb _ _ _ bx0_0
  replace bx0_1 := ccell hb _ _ _ bx0_1
  replace bx0_2 := ccell hb _ _ _ bx0_2
  replace bx0_3 := ccell hb _ _ _ bx0_3
  replace bx0_4 := ccell hb _ _ _ bx0_4
  replace bx0_5 := ccell hb _ _ _ bx0_5
  replace bx0_6 := ccell hb _ _ _ bx0_6
  replace bx0_7 := ccell hb _ _ _ bx0_7
  replace bx0_8 := ccell hb _ _ _ bx0_8
  replace bx0_9 := ccell hb _ _ _ bx0_9
  replace bx1_0 := ccell hb _ _ _ bx1_0
  replace bx1_1 := ccell hb _ _ _ bx1_1
  replace bx1_2 := ccell hb _ _ _ bx1_2
  replace bx1_3 := ccell hb _ _ _ bx1_3
  replace bx1_4 := ccell hb _ _ _ bx1_4
  replace bx1_5 := ccell hb _ _ _ bx1_5
  replace bx1_6 := ccell hb _ _ _ bx1_6
  replace bx1_7 := ccell hb _ _ _ bx1_7
  replace bx1_8 := ccell hb _ _ _ bx1_8
  replace bx1_9 := ccell hb _ _ _ bx1_9
  replace bx2_0 := ccell hb _ _ _ bx2_0
  replace bx2_1 := ccell hb _ _ _ bx2_1
  replace bx2_2 := ccell hb _ _ _ bx2_2
  replace bx2_3 := ccell hb _ _ _ bx2_3
  replace bx2_4 := ccell hb _ _ _ bx2_4
  replace bx2_5 := ccell hb _ _ _ bx2_5
  replace bx2_6 := ccell hb _ _ _ bx2_6
  replace bx2_7 := ccell hb _ _ _ bx2_7
  replace bx2_8 := ccell hb _ _ _ bx2_8
  replace bx2_9 := ccell hb _ _ _ bx2_9
  have bl0 := Nat.lt_of_lt_of_le bl0 hb.size
  have bl1 := Nat.lt_of_lt_of_le bl1 hb.size
  have bl2 := Nat.lt_of_lt_of_le bl2 hb.size
  replace r_a := r_a.below (hb.mono (by omega))
  replace r_w := r_w.below (hb.mono (by omega))
  replace r_v := r_v.below (hb.mono (by omega))
  replace r_x := r_x.below (hb.mono (by omega))
  have r_g := TxO.rd o_g
  have lo_g := fun g hg => (TxO.lt o_g (g := g) hg).1
  have u_g := fun g hg => (TxO.lt o_g (g := g) hg).2
  have r_k := Reads.of_own o_k
  have lo_k := fun g hg => (o_k.lt g hg).1
  have u_k := fun g hg => (o_k.lt g hg).2
  clear hb
  go_wp2_with fail
  obtain ⟨w8, hW0⟩ : ∃ W, W = (w7.alloc (.cells #[.int .i64 H_g.rb, .int .i64 H_g.rs, .int .i64 H_g.rh, .int .i64 H_g.rt, .int .i64 H_g.pb, .int .i64 H_g.ps, .int .i64 H_g.pc, .slice H_g.Ap H_g.np H_g.cp, .slice H_g.As H_g.ns H_g.cs, .int .i64 H_g.next] 36)) := ⟨_, rfl⟩
  have hb : Below w7.heap.size w7 w8 := by rw [hW0]; go_grown
  have hkz : Blk w8 w7.heap.size 36 [.int .i64 H_g.rb, .int .i64 H_g.rs, .int .i64 H_g.rh, .int .i64 H_g.rt, .int .i64 H_g.pb, .int .i64 H_g.ps, .int .i64 H_g.pc, .slice H_g.Ap H_g.np H_g.cp, .slice H_g.As H_g.ns H_g.cs, .int .i64 H_g.next] := by rw [hW0]; exact Blk.new _ _ _
  rw [← hW0]
  clear hW0
  have bl3 := hkz.lt
  have k8 : Below w.heap.size w w8 := ext_step k7 (by omega) hb
  have p8 := hb.size
  replace o_x := o_x.ext hb
  replace o_g := o_g.ext hb
  replace bx0_0 := ccell hb _ _ _ bx0_0
  replace bx0_1 := ccell hb _ _ _ bx0_1
  replace bx0_2 := ccell hb _ _ _ bx0_2
  replace bx0_3 := ccell hb _ _ _ bx0_3
  replace bx0_4 := ccell hb _ _ _ bx0_4
  replace bx0_5 := ccell hb _ _ _ bx0_5
  replace bx0_6 := ccell hb _ _ _ bx0_6
  replace bx0_7 := ccell hb _ _ _ bx0_7
  replace bx0_8 := ccell hb _ _ _ bx0_8
  replace bx0_9 := ccell hb _ _ _ bx0_9
  replace bx1_0 := ccell hb _ _ _ bx1_0
  replace bx1_1 := ccell hb _ _ _ bx1_1
  replace bx1_2 := ccell hb _ _ _ bx1_2
  replace bx1_3 := ccell hb _ _ _ bx1_3
  replace bx1_4 := ccell hb _ _ _ bx1_4
  replace bx1_5 := ccell hb _ _ _ bx1_5
  replace bx1_6 := ccell hb _ _ _ bx1_6
  replace bx1_7 := ccell hb _ _ _ bx1_7
  replace bx1_8 := ccell hb _ _ _ bx1_8
  replace bx1_9 := ccell hb _ _ _ bx1_9
  replace bx2_0 := ccell hb _ _ _ bx2_0
  replace bx2_1 := ccell hb _ _ _ bx2_1
  replace bx2_2 := ccell hb _ _ _ bx2_2
  replace bx2_3 := ccell hb _ _ _ bx2_3
  replace bx2_4 := ccell hb _ _ _ bx2_4
  replace bx2_5 := ccell hb _ _ _ bx2_5
  replace bx2_6 := ccell hb _ _ _ bx2_6
  replace bx2_7 := ccell hb _ _ _ bx2_7
  replace bx2_8 := ccell hb _ _ _ bx2_8
  replace bx2_9 := ccell hb _ _ _ bx2_9
  have bl0 := Nat.lt_of_lt_of_le bl0 hb.size
  have bl1 := Nat.lt_of_lt_of_le bl1 hb.size
  have bl2 := Nat.lt_of_lt_of_le bl2 hb.size
  replace r_a := r_a.below (hb.mono (by omega))
  replace r_w := r_w.below (hb.mono (by omega))
  replace r_v := r_v.below (hb.mono (by omega))
  replace r_x := r_x.below (hb.mono (by omega))
  replace r_g := r_g.below (hb.mono (by omega))
  replace r_k := r_k.below (hb.mono (by omega))
  replace o_k := own_ext o_k hb
  have bx3_0 := hkz.at_ 0 _ rfl
  have bx3_1 := hkz.at_ 1 _ rfl
  have bx3_2 := hkz.at_ 2 _ rfl
  have bx3_3 := hkz.at_ 3 _ rfl
  have bx3_4 := hkz.at_ 4 _ rfl
  have bx3_5 := hkz.at_ 5 _ rfl
  have bx3_6 := hkz.at_ 6 _ rfl
  have bx3_7 := hkz.at_ 7 _ rfl
  have bx3_8 := hkz.at_ 8 _ rfl
  have bx3_9 := hkz.at_ 9 _ rfl
  clear hb hkz
  refine (heqz H_g H_w _ hv_g hv_w (r_g.more (by omega)) (r_w.more (by omega))).mono ?_
  rintro e w9 ⟨rfl, hb⟩
  have k9 : Below w.heap.size w w9 := ext_step k8 (by omega) hb
  have p9 := hb.size
  replace o_x := o_x.ext hb
  replace o_g := o_g.ext hb
  replace bx0_0 := ccell hb _ _ _ bx0_0
  replace bx0_1 := ccell hb _ _ _ bx0_1
  replace bx0_2 := ccell hb _ _ _ bx0_2
  replace bx0_3 := ccell hb _ _ _ bx0_3
  replace bx0_4 := ccell hb _ _ _ bx0_4
  replace bx0_5 := ccell hb _ _ _ bx0_5
  replace bx0_6 := ccell hb _ _ _ bx0_6
  replace bx0_7 := ccell hb _ _ _ bx0_7
  replace bx0_8 := ccell hb _ _ _ bx0_8
  replace bx0_9 := ccell hb _ _ _ bx0_9
  replace bx1_0 := ccell hb _ _ _ bx1_0
  replace bx1_1 := ccell hb _ _ _ bx1_1
  replace bx1_2 := ccell hb _ _ _ bx1_2
  replace bx1_3 := ccell hb _ _ _ bx1_3
  replace bx1_4 := ccell hb _ _ _ bx1_4
  replace bx1_5 := ccell hb _ _ _ bx1_5
  replace bx1_6 := ccell hb _ _ _ bx1_6
  replace bx1_7 := ccell hb _ _ _ bx1_7
  replace bx1_8 := ccell hb _ _ _ bx1_8
  replace bx1_9 := ccell hb _ _ _ bx1_9
  replace bx2_0 := ccell hb _ _ _ bx2_0
  replace bx2_1 := ccell hb _ _ _ bx2_1
  replace bx2_2 := ccell hb _ _ _ bx2_2
  replace bx2_3 := ccell hb _ _ _ bx2_3
  replace bx2_4 := ccell hb _ _ _ bx2_4
  replace bx2_5 := ccell hb _ _ _ bx2_5
  replace bx2_6 := ccell hb _ _ _ bx2_6
  replace bx2_7 := ccell hb _ _ _ bx2_7
  replace bx2_8 := ccell hb _ _ _ bx2_8
  replace bx2_9 := ccell hb _ _ _ bx2_9
  replace bx3_0 := ccell hb _ _ _ bx3_0
  replace bx3_1 := ccell hb _ _ _ bx3_1
  replace bx3_2 := ccell hb _ _ _ bx3_2
  replace bx3_3 := ccell hb _ _ _ bx3_3
  replace bx3_4 := ccell hb _ _ _ bx3_4
  replace bx3_5 := ccell hb _ _ _ bx3_5
  replace bx3_6 := ccell hb _ _ _ bx3_6
  replace bx3_7 := ccell hb _ _ _ bx3_7
  replace bx3_8 := ccell hb _ _ _ bx3_8
  replace bx3_9 := ccell hb _ _ _ bx3_9
  have bl0 := Nat.lt_of_lt_of_le bl0 hb.size
  have bl1 := Nat.lt_of_lt_of_le bl1 hb.size
  have bl2 := Nat.lt_of_lt_of_le bl2 hb.size
  have bl3 := Nat.lt_of_lt_of_le bl3 hb.size
  replace r_a := r_a.below (hb.mono (by omega))
  replace r_w := r_w.below (hb.mono (by omega))
  replace r_v := r_v.below (hb.mono (by omega))
  replace r_x := r_x.below (hb.mono (by omega))
  replace r_g := r_g.below (hb.mono (by omega))
  replace r_k := r_k.below (hb.mono (by omega))
  replace o_k := own_ext o_k hb
  clear hb
  go_wp2_with fail
  refine (eqIntS_c _ _ nz _ _ cz _ hcn (by omega) (r_k.more (by omega)) (r_v.more (by omega))).mono ?_
  rintro e w10 ⟨rfl, hb⟩
  have k10 : Below w.heap.size w w10 := ext_step k9 (by omega) hb
  have p10 := hb.size
  replace o_x := o_x.ext hb
  replace o_g := o_g.ext hb
  replace bx0_0 := ccell hb _ _ _ bx0_0
  replace bx0_1 := ccell hb _ _ _ bx0_1
  replace bx0_2 := ccell hb _ _ _ bx0_2
  replace bx0_3 := ccell hb _ _ _ bx0_3
  replace bx0_4 := ccell hb _ _ _ bx0_4
  replace bx0_5 := ccell hb _ _ _ bx0_5
  replace bx0_6 := ccell hb _ _ _ bx0_6
  replace bx0_7 := ccell hb _ _ _ bx0_7
  replace bx0_8 := ccell hb _ _ _ bx0_8
  replace bx0_9 := ccell hb _ _ _ bx0_9
  replace bx1_0 := ccell hb _ _ _ bx1_0
  replace bx1_1 := ccell hb _ _ _ bx1_1
  replace bx1_2 := ccell hb _ _ _ bx1_2
  replace bx1_3 := ccell hb _ _ _ bx1_3
  replace bx1_4 := ccell hb _ _ _ bx1_4
  replace bx1_5 := ccell hb _ _ _ bx1_5
  replace bx1_6 := ccell hb _ _ _ bx1_6
  replace bx1_7 := ccell hb _ _ _ bx1_7
  replace bx1_8 := ccell hb _ _ _ bx1_8
  replace bx1_9 := ccell hb _ _ _ bx1_9
  replace bx2_0 := ccell hb _ _ _ bx2_0
  replace bx2_1 := ccell hb _ _ _ bx2_1
  replace bx2_2 := ccell hb _ _ _ bx2_2
  replace bx2_3 := ccell hb _ _ _ bx2_3
  replace bx2_4 := ccell hb _ _ _ bx2_4
  replace bx2_5 := ccell hb _ _ _ bx2_5
  replace bx2_6 := ccell hb _ _ _ bx2_6
  replace bx2_7 := ccell hb _ _ _ bx2_7
  replace bx2_8 := ccell hb _ _ _ bx2_8
  replace bx2_9 := ccell hb _ _ _ bx2_9
  replace bx3_0 := ccell hb _ _ _ bx3_0
  replace bx3_1 := ccell hb _ _ _ bx3_1
  replace bx3_2 := ccell hb _ _ _ bx3_2
  replace bx3_3 := ccell hb _ _ _ bx3_3
  replace bx3_4 := ccell hb _ _ _ bx3_4
  replace bx3_5 := ccell hb _ _ _ bx3_5
  replace bx3_6 := ccell hb _ _ _ bx3_6
  replace bx3_7 := ccell hb _ _ _ bx3_7
  replace bx3_8 := ccell hb _ _ _ bx3_8
  replace bx3_9 := ccell hb _ _ _ bx3_9
  have bl0 := Nat.lt_of_lt_of_le bl0 hb.size
  have bl1 := Nat.lt_of_lt_of_le bl1 hb.size
  have bl2 := Nat.lt_of_lt_of_le bl2 hb.size
  have bl3 := Nat.lt_of_lt_of_le bl3 hb.size
  replace r_a := r_a.below (hb.mono (by omega))
  replace r_w := r_w.below (hb.mono (by omega))
  replace r_v := r_v.below (hb.mono (by omega))
  replace r_x := r_x.below (hb.mono (by omega))
  replace r_g := r_g.below (hb.mono (by omega))
  replace r_k := r_k.below (hb.mono (by omega))
  replace o_k := own_ext o_k hb
  clear hb
  go_wp2_with fail
  have hBB : w10.heap.size ≤ w10.heap.size := by omega
  refine wp_region_slotsS (w10.heap.size) [(46, fun _ v => v = .agg #[.int .i64 H_x.rb, .int .i64 H_x.rs, .int .i64 H_x.rh, .int .i64 H_x.rt, .int .i64 H_x.pb, .int .i64 H_x.ps, .int .i64 H_x.pc, .slice H_x.Ap H_x.np H_x.cp, .slice H_x.As H_x.ns H_x.cs, .int .i64 H_x.next]), (47, fun _ v => v = .agg #[.int .i64 H.rb, .int .i64 H.rs, .int .i64 H.rh, .int .i64 H.rt, .int .i64 H.pb, .int .i64 H.ps, .int .i64 H.pc, .slice H.Ap H.np H.cp, .slice H.As H.ns H.cs, .int .i64 H.next]), (48, TxP w10.heap.size q), (49, fun _ v => v = .bool true), (50, fun _ v => v = .bool false)] [] (fun _ => True) (by kernel_rfl) hBB (by kernel_rfl) (by kernel_rfl) (by kernel_rfl) (by kernel_rfl) ?_ ?_ ?_ ?_ ?_ ?_ ?_
  · intro p hp
    simp only [List.mem_cons, List.not_mem_nil, or_false] at hp
    rcases hp with rfl | rfl | rfl | rfl | rfl
    all_goals (intro u u' v hb hv; first | exact hv | exact BoxP.keep hv hb | exact RowP.keep hv hb | exact TxP.keep hv hb)
  · intro s hs; cases hs
  · intro s hs; cases hs
  · exact trivial
  · intro u u' hb hj
    exact trivial
  · intro hGk hSk hJk
    refine allStep_cons (stepS_plain hGk hSk hBB hJk (by kernel_rfl) rfl ?_) ?_
    · intro a u hb hz hj hl hp K Q hK
      have e8 : a.tmps[8]?.getD undef = .pointer (some ⟨w5.heap.size, 0, none⟩) := gd (hl 8 (by kernel_rfl))
      have bx2_0 := ccell hb _ _ _ bx2_0
      have bx2_1 := ccell hb _ _ _ bx2_1
      have bx2_2 := ccell hb _ _ _ bx2_2
      have bx2_3 := ccell hb _ _ _ bx2_3
      have bx2_4 := ccell hb _ _ _ bx2_4
      have bx2_5 := ccell hb _ _ _ bx2_5
      have bx2_6 := ccell hb _ _ _ bx2_6
      have bx2_7 := ccell hb _ _ _ bx2_7
      have bx2_8 := ccell hb _ _ _ bx2_8
      have bx2_9 := ccell hb _ _ _ bx2_9
      go_simp
      exact hK _ _ (Below.refl _ _) (by intro d hd; cases hd; exact rfl)
    refine allStep_cons (stepS_plain hGk hSk hBB hJk (by kernel_rfl) rfl ?_) ?_
    · intro a u hb hz hj hl hp K Q hK
      have e2 : a.tmps[2]?.getD undef = .pointer (some ⟨w.heap.size, 0, none⟩) := gd (hl 2 (by kernel_rfl))
      have bx0_0 := ccell hb _ _ _ bx0_0
      have bx0_1 := ccell hb _ _ _ bx0_1
      have bx0_2 := ccell hb _ _ _ bx0_2
      have bx0_3 := ccell hb _ _ _ bx0_3
      have bx0_4 := ccell hb _ _ _ bx0_4
      have bx0_5 := ccell hb _ _ _ bx0_5
      have bx0_6 := ccell hb _ _ _ bx0_6
      have bx0_7 := ccell hb _ _ _ bx0_7
      have bx0_8 := ccell hb _ _ _ bx0_8
      have bx0_9 := ccell hb _ _ _ bx0_9
      go_simp
      exact hK _ _ (Below.refl _ _) (by intro d hd; cases hd; exact rfl)
    refine allStep_cons (stepS_plain hGk hSk hBB hJk (by kernel_rfl) rfl ?_) ?_
    · intro a u hb hz hj hl hp K Q hK
      have e47 : a.tmps[47]?.getD undef = .agg #[.int .i64 H.rb, .int .i64 H.rs, .int .i64 H.rh, .int .i64 H.rt, .int .i64 H.pb, .int .i64 H.ps, .int .i64 H.pc, .slice H.Ap H.np H.cp, .slice H.As H.ns H.cs, .int .i64 H.next] := gd (hl 47 (by kernel_rfl))
      go_simp
      refine (hto _ ((r_a.below (hb.mono (by omega))).more (by omega))).mono ?_
      rintro e u1 ⟨v, rfl, hS, hb1⟩
      exact hK _ _ hb1 (by intro d hd; cases hd; exact (hS.lower (by omega)))
    refine allStep_cons (stepS_plain hGk hSk hBB hJk (by kernel_rfl) rfl ?_) ?_
    · intro a u hb hz hj hl hp K Q hK
      have e46 : a.tmps[46]?.getD undef = .agg #[.int .i64 H_x.rb, .int .i64 H_x.rs, .int .i64 H_x.rh, .int .i64 H_x.rt, .int .i64 H_x.pb, .int .i64 H_x.ps, .int .i64 H_x.pc, .slice H_x.Ap H_x.np H_x.cp, .slice H_x.As H_x.ns H_x.cs, .int .i64 H_x.next] := gd (hl 46 (by kernel_rfl))
      obtain ⟨H2, ex48, hv2, ho2⟩ : (TxP w10.heap.size q) u (a.tmps.getD 48 undef) := hl 48 (by kernel_rfl)
      have e48 := gd ex48
      go_simp
      refine (heq H_x _ _ hv_x hv2 (TxO.rd ho2) ((r_x.below (hb.mono (by omega))).more (by omega))).mono ?_
      rintro e u1 ⟨rfl, hb1⟩
      exact hK _ _ hb1 (by intro d hd; cases hd; exact rfl)
    refine allStep_cons (stepS_plain hGk hSk hBB hJk (by kernel_rfl) rfl ?_) ?_
    · intro a u hb hz hj hl hp K Q hK
      have e49 : a.tmps[49]?.getD undef = .bool true := gd (hl 49 (by kernel_rfl))
      go_simp
      exact hK _ _ (Below.refl _ _) (by intro d hd; cases hd; exact rfl)
    exact allStep_nil
  intro xT w11 hb hz hj hL hSt
  have fx50 : xT 50 = .bool false := hL _ (List.mem_of_getElem? (i := 4) rfl)
  simp only [List.map, putAll, fx50]
  have k11 : Below w.heap.size w w11 := ext_step k10 (by omega) hb
  have p11 := hb.size
  replace o_x := o_x.ext hb
  replace o_g := o_g.ext hb
  replace bx0_0 := ccell hb _ _ _ bx0_0
  replace bx0_1 := ccell hb _ _ _ bx0_1
  replace bx0_2 := ccell hb _ _ _ bx0_2
  replace bx0_3 := ccell hb _ _ _ bx0_3
  replace bx0_4 := ccell hb _ _ _ bx0_4
  replace bx0_5 := ccell hb _ _ _ bx0_5
  replace bx0_6 := ccell hb _ _ _ bx0_6
  replace bx0_7 := ccell hb _ _ _ bx0_7
  replace bx0_8 := ccell hb _ _ _ bx0_8
  replace bx0_9 := ccell hb _ _ _ bx0_9
  replace bx1_0 := ccell hb _ _ _ bx1_0
  replace bx1_1 := ccell hb _ _ _ bx1_1
  replace bx1_2 := ccell hb _ _ _ bx1_2
  replace bx1_3 := ccell hb _ _ _ bx1_3
  replace bx1_4 := ccell hb _ _ _ bx1_4
  replace bx1_5 := ccell hb _ _ _ bx1_5
  replace bx1_6 := ccell hb _ _ _ bx1_6
  replace bx1_7 := ccell hb _ _ _ bx1_7
  replace bx1_8 := ccell hb _ _ _ bx1_8
  replace bx1_9 := ccell hb _ _ _ bx1_9
  replace bx2_0 := ccell hb _ _ _ bx2_0
  replace bx2_1 := ccell hb _ _ _ bx2_1
  replace bx2_2 := ccell hb _ _ _ bx2_2
  replace bx2_3 := ccell hb _ _ _ bx2_3
  replace bx2_4 := ccell hb _ _ _ bx2_4
  replace bx2_5 := ccell hb _ _ _ bx2_5
  replace bx2_6 := ccell hb _ _ _ bx2_6
  replace bx2_7 := ccell hb _ _ _ bx2_7
  replace bx2_8 := ccell hb _ _ _ bx2_8
  replace bx2_9 := ccell hb _ _ _ bx2_9
  replace bx3_0 := ccell hb _ _ _ bx3_0
  replace bx3_1 := ccell hb _ _ _ bx3_1
  replace bx3_2 := ccell hb _ _ _ bx3_2
  replace bx3_3 := ccell hb _ _ _ bx3_3
  replace bx3_4 := ccell hb _ _ _ bx3_4
  replace bx3_5 := ccell hb _ _ _ bx3_5
  replace bx3_6 := ccell hb _ _ _ bx3_6
  replace bx3_7 := ccell hb _ _ _ bx3_7
  replace bx3_8 := ccell hb _ _ _ bx3_8
  replace bx3_9 := ccell hb _ _ _ bx3_9
  have bl0 := Nat.lt_of_lt_of_le bl0 hb.size
  have bl1 := Nat.lt_of_lt_of_le bl1 hb.size
  have bl2 := Nat.lt_of_lt_of_le bl2 hb.size
  have bl3 := Nat.lt_of_lt_of_le bl3 hb.size
  replace r_a := r_a.below (hb.mono (by omega))
  replace r_w := r_w.below (hb.mono (by omega))
  replace r_v := r_v.below (hb.mono (by omega))
  replace r_x := r_x.below (hb.mono (by omega))
  replace r_g := r_g.below (hb.mono (by omega))
  replace r_k := r_k.below (hb.mono (by omega))
  replace o_k := own_ext o_k hb
  clear hL hSt hb hz fx50
  go_wp2_with fail
  have hm_x := TxR.sz r_x hv_x
  refine (markTx_c H_x _ 1 _ o_x (by decide) (by decide) (by omega)).mono ?_
  rintro e w12 ⟨rfl, om, hg⟩
  have k12 := GrownB.below k11 (by omega) hg (fun g h => by have h3 := lo_x _ h; have h4 := u_x _ h; omega)
  have p12 := hg.size
  replace bx0_0 := hg.cell bx0_0 (fun h => by have h3 := lo_x _ h; have h4 := u_x _ h; omega)
  replace bx0_1 := hg.cell bx0_1 (fun h => by have h3 := lo_x _ h; have h4 := u_x _ h; omega)
  replace bx0_2 := hg.cell bx0_2 (fun h => by have h3 := lo_x _ h; have h4 := u_x _ h; omega)
  replace bx0_3 := hg.cell bx0_3 (fun h => by have h3 := lo_x _ h; have h4 := u_x _ h; omega)
  replace bx0_4 := hg.cell bx0_4 (fun h => by have h3 := lo_x _ h; have h4 := u_x _ h; omega)
  replace bx0_5 := hg.cell bx0_5 (fun h => by have h3 := lo_x _ h; have h4 := u_x _ h; omega)
  replace bx0_6 := hg.cell bx0_6 (fun h => by have h3 := lo_x _ h; have h4 := u_x _ h; omega)
  replace bx0_7 := hg.cell bx0_7 (fun h => by have h3 := lo_x _ h; have h4 := u_x _ h; omega)
  replace bx0_8 := hg.cell bx0_8 (fun h => by have h3 := lo_x _ h; have h4 := u_x _ h; omega)
  replace bx0_9 := hg.cell bx0_9 (fun h => by have h3 := lo_x _ h; have h4 := u_x _ h; omega)
  replace bx1_0 := hg.cell bx1_0 (fun h => by have h3 := lo_x _ h; have h4 := u_x _ h; omega)
  replace bx1_1 := hg.cell bx1_1 (fun h => by have h3 := lo_x _ h; have h4 := u_x _ h; omega)
  replace bx1_2 := hg.cell bx1_2 (fun h => by have h3 := lo_x _ h; have h4 := u_x _ h; omega)
  replace bx1_3 := hg.cell bx1_3 (fun h => by have h3 := lo_x _ h; have h4 := u_x _ h; omega)
  replace bx1_4 := hg.cell bx1_4 (fun h => by have h3 := lo_x _ h; have h4 := u_x _ h; omega)
  replace bx1_5 := hg.cell bx1_5 (fun h => by have h3 := lo_x _ h; have h4 := u_x _ h; omega)
  replace bx1_6 := hg.cell bx1_6 (fun h => by have h3 := lo_x _ h; have h4 := u_x _ h; omega)
  replace bx1_7 := hg.cell bx1_7 (fun h => by have h3 := lo_x _ h; have h4 := u_x _ h; omega)
  replace bx1_8 := hg.cell bx1_8 (fun h => by have h3 := lo_x _ h; have h4 := u_x _ h; omega)
  replace bx1_9 := hg.cell bx1_9 (fun h => by have h3 := lo_x _ h; have h4 := u_x _ h; omega)
  replace bx2_0 := hg.cell bx2_0 (fun h => by have h3 := lo_x _ h; have h4 := u_x _ h; omega)
  replace bx2_1 := hg.cell bx2_1 (fun h => by have h3 := lo_x _ h; have h4 := u_x _ h; omega)
  replace bx2_2 := hg.cell bx2_2 (fun h => by have h3 := lo_x _ h; have h4 := u_x _ h; omega)
  replace bx2_3 := hg.cell bx2_3 (fun h => by have h3 := lo_x _ h; have h4 := u_x _ h; omega)
  replace bx2_4 := hg.cell bx2_4 (fun h => by have h3 := lo_x _ h; have h4 := u_x _ h; omega)
  replace bx2_5 := hg.cell bx2_5 (fun h => by have h3 := lo_x _ h; have h4 := u_x _ h; omega)
  replace bx2_6 := hg.cell bx2_6 (fun h => by have h3 := lo_x _ h; have h4 := u_x _ h; omega)
  replace bx2_7 := hg.cell bx2_7 (fun h => by have h3 := lo_x _ h; have h4 := u_x _ h; omega)
  replace bx2_8 := hg.cell bx2_8 (fun h => by have h3 := lo_x _ h; have h4 := u_x _ h; omega)
  replace bx2_9 := hg.cell bx2_9 (fun h => by have h3 := lo_x _ h; have h4 := u_x _ h; omega)
  replace bx3_0 := hg.cell bx3_0 (fun h => by have h3 := lo_x _ h; have h4 := u_x _ h; omega)
  replace bx3_1 := hg.cell bx3_1 (fun h => by have h3 := lo_x _ h; have h4 := u_x _ h; omega)
  replace bx3_2 := hg.cell bx3_2 (fun h => by have h3 := lo_x _ h; have h4 := u_x _ h; omega)
  replace bx3_3 := hg.cell bx3_3 (fun h => by have h3 := lo_x _ h; have h4 := u_x _ h; omega)
  replace bx3_4 := hg.cell bx3_4 (fun h => by have h3 := lo_x _ h; have h4 := u_x _ h; omega)
  replace bx3_5 := hg.cell bx3_5 (fun h => by have h3 := lo_x _ h; have h4 := u_x _ h; omega)
  replace bx3_6 := hg.cell bx3_6 (fun h => by have h3 := lo_x _ h; have h4 := u_x _ h; omega)
  replace bx3_7 := hg.cell bx3_7 (fun h => by have h3 := lo_x _ h; have h4 := u_x _ h; omega)
  replace bx3_8 := hg.cell bx3_8 (fun h => by have h3 := lo_x _ h; have h4 := u_x _ h; omega)
  replace bx3_9 := hg.cell bx3_9 (fun h => by have h3 := lo_x _ h; have h4 := u_x _ h; omega)
  have bl0 := Nat.lt_of_lt_of_le bl0 hg.size
  have bl1 := Nat.lt_of_lt_of_le bl1 hg.size
  have bl2 := Nat.lt_of_lt_of_le bl2 hg.size
  have bl3 := Nat.lt_of_lt_of_le bl3 hg.size
  replace o_g := GrownB.txO hg o_g (fun g h1 h => by have h5 := lo_g _ h1; have h6 := u_g _ h1; have h3 := lo_x _ h; have h4 := u_x _ h; omega)
  replace r_g := TxO.rd o_g
  replace o_k := GrownB.own hg o_k (fun g h1 h => by have h5 := lo_k _ h1; have h6 := u_k _ h1; have h3 := lo_x _ h; have h4 := u_x _ h; omega)
  replace r_k := Reads.of_own o_k
  replace r_a := r_a.below (GrownB.below (Below.refl _ _) (by omega) hg (fun g h => by have h3 := lo_x _ h; have h4 := u_x _ h; omega))
  replace r_w := r_w.below (GrownB.below (Below.refl _ _) (by omega) hg (fun g h => by have h3 := lo_x _ h; have h4 := u_x _ h; omega))
  replace r_v := r_v.below (GrownB.below (Below.refl _ _) (by omega) hg (fun g h => by have h3 := lo_x _ h; have h4 := u_x _ h; omega))
  replace o_x := om
  replace r_x := TxO.rd o_x
  clear hg om
  clear r_x o_x lo_x u_x
  go_wp2_with fail
  refine (heqz H_g H_w _ hv_g hv_w (r_g.more (by omega)) (r_w.more (by omega))).mono ?_
  rintro e w13 ⟨rfl, hb⟩
  have k13 : Below w.heap.size w w13 := ext_step k12 (by omega) hb
  have p13 := hb.size
  replace o_g := o_g.ext hb
  replace bx0_0 := ccell hb _ _ _ bx0_0
  replace bx0_1 := ccell hb _ _ _ bx0_1
  replace bx0_2 := ccell hb _ _ _ bx0_2
  replace bx0_3 := ccell hb _ _ _ bx0_3
  replace bx0_4 := ccell hb _ _ _ bx0_4
  replace bx0_5 := ccell hb _ _ _ bx0_5
  replace bx0_6 := ccell hb _ _ _ bx0_6
  replace bx0_7 := ccell hb _ _ _ bx0_7
  replace bx0_8 := ccell hb _ _ _ bx0_8
  replace bx0_9 := ccell hb _ _ _ bx0_9
  replace bx1_0 := ccell hb _ _ _ bx1_0
  replace bx1_1 := ccell hb _ _ _ bx1_1
  replace bx1_2 := ccell hb _ _ _ bx1_2
  replace bx1_3 := ccell hb _ _ _ bx1_3
  replace bx1_4 := ccell hb _ _ _ bx1_4
  replace bx1_5 := ccell hb _ _ _ bx1_5
  replace bx1_6 := ccell hb _ _ _ bx1_6
  replace bx1_7 := ccell hb _ _ _ bx1_7
  replace bx1_8 := ccell hb _ _ _ bx1_8
  replace bx1_9 := ccell hb _ _ _ bx1_9
  replace bx2_0 := ccell hb _ _ _ bx2_0
  replace bx2_1 := ccell hb _ _ _ bx2_1
  replace bx2_2 := ccell hb _ _ _ bx2_2
  replace bx2_3 := ccell hb _ _ _ bx2_3
  replace bx2_4 := ccell hb _ _ _ bx2_4
  replace bx2_5 := ccell hb _ _ _ bx2_5
  replace bx2_6 := ccell hb _ _ _ bx2_6
  replace bx2_7 := ccell hb _ _ _ bx2_7
  replace bx2_8 := ccell hb _ _ _ bx2_8
  replace bx2_9 := ccell hb _ _ _ bx2_9
  replace bx3_0 := ccell hb _ _ _ bx3_0
  replace bx3_1 := ccell hb _ _ _ bx3_1
  replace bx3_2 := ccell hb _ _ _ bx3_2
  replace bx3_3 := ccell hb _ _ _ bx3_3
  replace bx3_4 := ccell hb _ _ _ bx3_4
  replace bx3_5 := ccell hb _ _ _ bx3_5
  replace bx3_6 := ccell hb _ _ _ bx3_6
  replace bx3_7 := ccell hb _ _ _ bx3_7
  replace bx3_8 := ccell hb _ _ _ bx3_8
  replace bx3_9 := ccell hb _ _ _ bx3_9
  have bl0 := Nat.lt_of_lt_of_le bl0 hb.size
  have bl1 := Nat.lt_of_lt_of_le bl1 hb.size
  have bl2 := Nat.lt_of_lt_of_le bl2 hb.size
  have bl3 := Nat.lt_of_lt_of_le bl3 hb.size
  replace r_a := r_a.below (hb.mono (by omega))
  replace r_w := r_w.below (hb.mono (by omega))
  replace r_v := r_v.below (hb.mono (by omega))
  replace r_g := r_g.below (hb.mono (by omega))
  replace r_k := r_k.below (hb.mono (by omega))
  replace o_k := own_ext o_k hb
  clear hb
  go_wp2_with fail
  refine (eqIntS_c _ _ nz _ _ cz _ hcn (by omega) (r_k.more (by omega)) (r_v.more (by omega))).mono ?_
  rintro e w14 ⟨rfl, hb⟩
  have k14 : Below w.heap.size w w14 := ext_step k13 (by omega) hb
  have p14 := hb.size
  replace o_g := o_g.ext hb
  replace bx0_0 := ccell hb _ _ _ bx0_0
  replace bx0_1 := ccell hb _ _ _ bx0_1
  replace bx0_2 := ccell hb _ _ _ bx0_2
  replace bx0_3 := ccell hb _ _ _ bx0_3
  replace bx0_4 := ccell hb _ _ _ bx0_4
  replace bx0_5 := ccell hb _ _ _ bx0_5
  replace bx0_6 := ccell hb _ _ _ bx0_6
  replace bx0_7 := ccell hb _ _ _ bx0_7
  replace bx0_8 := ccell hb _ _ _ bx0_8
  replace bx0_9 := ccell hb _ _ _ bx0_9
  replace bx1_0 := ccell hb _ _ _ bx1_0
  replace bx1_1 := ccell hb _ _ _ bx1_1
  replace bx1_2 := ccell hb _ _ _ bx1_2
  replace bx1_3 := ccell hb _ _ _ bx1_3
  replace bx1_4 := ccell hb _ _ _ bx1_4
  replace bx1_5 := ccell hb _ _ _ bx1_5
  replace bx1_6 := ccell hb _ _ _ bx1_6
  replace bx1_7 := ccell hb _ _ _ bx1_7
  replace bx1_8 := ccell hb _ _ _ bx1_8
  replace bx1_9 := ccell hb _ _ _ bx1_9
  replace bx2_0 := ccell hb _ _ _ bx2_0
  replace bx2_1 := ccell hb _ _ _ bx2_1
  replace bx2_2 := ccell hb _ _ _ bx2_2
  replace bx2_3 := ccell hb _ _ _ bx2_3
  replace bx2_4 := ccell hb _ _ _ bx2_4
  replace bx2_5 := ccell hb _ _ _ bx2_5
  replace bx2_6 := ccell hb _ _ _ bx2_6
  replace bx2_7 := ccell hb _ _ _ bx2_7
  replace bx2_8 := ccell hb _ _ _ bx2_8
  replace bx2_9 := ccell hb _ _ _ bx2_9
  replace bx3_0 := ccell hb _ _ _ bx3_0
  replace bx3_1 := ccell hb _ _ _ bx3_1
  replace bx3_2 := ccell hb _ _ _ bx3_2
  replace bx3_3 := ccell hb _ _ _ bx3_3
  replace bx3_4 := ccell hb _ _ _ bx3_4
  replace bx3_5 := ccell hb _ _ _ bx3_5
  replace bx3_6 := ccell hb _ _ _ bx3_6
  replace bx3_7 := ccell hb _ _ _ bx3_7
  replace bx3_8 := ccell hb _ _ _ bx3_8
  replace bx3_9 := ccell hb _ _ _ bx3_9
  have bl0 := Nat.lt_of_lt_of_le bl0 hb.size
  have bl1 := Nat.lt_of_lt_of_le bl1 hb.size
  have bl2 := Nat.lt_of_lt_of_le bl2 hb.size
  have bl3 := Nat.lt_of_lt_of_le bl3 hb.size
  replace r_a := r_a.below (hb.mono (by omega))
  replace r_w := r_w.below (hb.mono (by omega))
  replace r_v := r_v.below (hb.mono (by omega))
  replace r_g := r_g.below (hb.mono (by omega))
  replace r_k := r_k.below (hb.mono (by omega))
  replace o_k := own_ext o_k hb
  clear hb
  have hn_g := o_g.2.1.1
  go_wp2_with fail
  have hm_g := TxR.sz r_g hv_g
  refine (markTx_c H_g _ 1 _ o_g (by decide) (by decide) (by omega)).mono ?_
  rintro e w15 ⟨rfl, om, hg⟩
  have k15 := GrownB.below k14 (by omega) hg (fun g h => by have h3 := lo_g _ h; have h4 := u_g _ h; omega)
  have p15 := hg.size
  replace bx0_0 := hg.cell bx0_0 (fun h => by have h3 := lo_g _ h; have h4 := u_g _ h; omega)
  replace bx0_1 := hg.cell bx0_1 (fun h => by have h3 := lo_g _ h; have h4 := u_g _ h; omega)
  replace bx0_2 := hg.cell bx0_2 (fun h => by have h3 := lo_g _ h; have h4 := u_g _ h; omega)
  replace bx0_3 := hg.cell bx0_3 (fun h => by have h3 := lo_g _ h; have h4 := u_g _ h; omega)
  replace bx0_4 := hg.cell bx0_4 (fun h => by have h3 := lo_g _ h; have h4 := u_g _ h; omega)
  replace bx0_5 := hg.cell bx0_5 (fun h => by have h3 := lo_g _ h; have h4 := u_g _ h; omega)
  replace bx0_6 := hg.cell bx0_6 (fun h => by have h3 := lo_g _ h; have h4 := u_g _ h; omega)
  replace bx0_7 := hg.cell bx0_7 (fun h => by have h3 := lo_g _ h; have h4 := u_g _ h; omega)
  replace bx0_8 := hg.cell bx0_8 (fun h => by have h3 := lo_g _ h; have h4 := u_g _ h; omega)
  replace bx0_9 := hg.cell bx0_9 (fun h => by have h3 := lo_g _ h; have h4 := u_g _ h; omega)
  replace bx1_0 := hg.cell bx1_0 (fun h => by have h3 := lo_g _ h; have h4 := u_g _ h; omega)
  replace bx1_1 := hg.cell bx1_1 (fun h => by have h3 := lo_g _ h; have h4 := u_g _ h; omega)
  replace bx1_2 := hg.cell bx1_2 (fun h => by have h3 := lo_g _ h; have h4 := u_g _ h; omega)
  replace bx1_3 := hg.cell bx1_3 (fun h => by have h3 := lo_g _ h; have h4 := u_g _ h; omega)
  replace bx1_4 := hg.cell bx1_4 (fun h => by have h3 := lo_g _ h; have h4 := u_g _ h; omega)
  replace bx1_5 := hg.cell bx1_5 (fun h => by have h3 := lo_g _ h; have h4 := u_g _ h; omega)
  replace bx1_6 := hg.cell bx1_6 (fun h => by have h3 := lo_g _ h; have h4 := u_g _ h; omega)
  replace bx1_7 := hg.cell bx1_7 (fun h => by have h3 := lo_g _ h; have h4 := u_g _ h; omega)
  replace bx1_8 := hg.cell bx1_8 (fun h => by have h3 := lo_g _ h; have h4 := u_g _ h; omega)
  replace bx1_9 := hg.cell bx1_9 (fun h => by have h3 := lo_g _ h; have h4 := u_g _ h; omega)
  replace bx2_0 := hg.cell bx2_0 (fun h => by have h3 := lo_g _ h; have h4 := u_g _ h; omega)
  replace bx2_1 := hg.cell bx2_1 (fun h => by have h3 := lo_g _ h; have h4 := u_g _ h; omega)
  replace bx2_2 := hg.cell bx2_2 (fun h => by have h3 := lo_g _ h; have h4 := u_g _ h; omega)
  replace bx2_3 := hg.cell bx2_3 (fun h => by have h3 := lo_g _ h; have h4 := u_g _ h; omega)
  replace bx2_4 := hg.cell bx2_4 (fun h => by have h3 := lo_g _ h; have h4 := u_g _ h; omega)
  replace bx2_5 := hg.cell bx2_5 (fun h => by have h3 := lo_g _ h; have h4 := u_g _ h; omega)
  replace bx2_6 := hg.cell bx2_6 (fun h => by have h3 := lo_g _ h; have h4 := u_g _ h; omega)
  replace bx2_7 := hg.cell bx2_7 (fun h => by have h3 := lo_g _ h; have h4 := u_g _ h; omega)
  replace bx2_8 := hg.cell bx2_8 (fun h => by have h3 := lo_g _ h; have h4 := u_g _ h; omega)
  replace bx2_9 := hg.cell bx2_9 (fun h => by have h3 := lo_g _ h; have h4 := u_g _ h; omega)
  replace bx3_0 := hg.cell bx3_0 (fun h => by have h3 := lo_g _ h; have h4 := u_g _ h; omega)
  replace bx3_1 := hg.cell bx3_1 (fun h => by have h3 := lo_g _ h; have h4 := u_g _ h; omega)
  replace bx3_2 := hg.cell bx3_2 (fun h => by have h3 := lo_g _ h; have h4 := u_g _ h; omega)
  replace bx3_3 := hg.cell bx3_3 (fun h => by have h3 := lo_g _ h; have h4 := u_g _ h; omega)
  replace bx3_4 := hg.cell bx3_4 (fun h => by have h3 := lo_g _ h; have h4 := u_g _ h; omega)
  replace bx3_5 := hg.cell bx3_5 (fun h => by have h3 := lo_g _ h; have h4 := u_g _ h; omega)
  replace bx3_6 := hg.cell bx3_6 (fun h => by have h3 := lo_g _ h; have h4 := u_g _ h; omega)
  replace bx3_7 := hg.cell bx3_7 (fun h => by have h3 := lo_g _ h; have h4 := u_g _ h; omega)
  replace bx3_8 := hg.cell bx3_8 (fun h => by have h3 := lo_g _ h; have h4 := u_g _ h; omega)
  replace bx3_9 := hg.cell bx3_9 (fun h => by have h3 := lo_g _ h; have h4 := u_g _ h; omega)
  have bl0 := Nat.lt_of_lt_of_le bl0 hg.size
  have bl1 := Nat.lt_of_lt_of_le bl1 hg.size
  have bl2 := Nat.lt_of_lt_of_le bl2 hg.size
  have bl3 := Nat.lt_of_lt_of_le bl3 hg.size
  replace o_k := GrownB.own hg o_k (fun g h1 h2 => hap_g g h2 h1)
  replace r_k := Reads.of_own o_k
  replace r_a := r_a.below (GrownB.below (Below.refl _ _) (by omega) hg (fun g h => by have h3 := lo_g _ h; have h4 := u_g _ h; omega))
  replace r_w := r_w.below (GrownB.below (Below.refl _ _) (by omega) hg (fun g h => by have h3 := lo_g _ h; have h4 := u_g _ h; omega))
  replace r_v := r_v.below (GrownB.below (Below.refl _ _) (by omega) hg (fun g h => by have h3 := lo_g _ h; have h4 := u_g _ h; omega))
  replace o_g := om
  replace r_g := TxO.rd o_g
  clear hg om
  go_wp2_with fail
  refine (markIntS_c _ _ _ _ _ (1 + (H_g.np : Int) + 2 * (H_g.ns : Int) + (totB H_g.L : Int)) _ o_k (by omega) (by omega) (by omega)).mono ?_
  rintro e w16 ⟨rfl, om, hg0⟩
  have hg := (GrownB.refl _ (fun g => (Value.slice A_k nz c_k).ownBlock = some g)).row hg0 (fun g h => h)
  have k16 := GrownB.below k15 (by omega) hg (fun g h => by have h3 := lo_k _ h; have h4 := u_k _ h; omega)
  have p16 := hg.size
  replace bx0_0 := hg.cell bx0_0 (fun h => by have h3 := lo_k _ h; have h4 := u_k _ h; omega)
  replace bx0_1 := hg.cell bx0_1 (fun h => by have h3 := lo_k _ h; have h4 := u_k _ h; omega)
  replace bx0_2 := hg.cell bx0_2 (fun h => by have h3 := lo_k _ h; have h4 := u_k _ h; omega)
  replace bx0_3 := hg.cell bx0_3 (fun h => by have h3 := lo_k _ h; have h4 := u_k _ h; omega)
  replace bx0_4 := hg.cell bx0_4 (fun h => by have h3 := lo_k _ h; have h4 := u_k _ h; omega)
  replace bx0_5 := hg.cell bx0_5 (fun h => by have h3 := lo_k _ h; have h4 := u_k _ h; omega)
  replace bx0_6 := hg.cell bx0_6 (fun h => by have h3 := lo_k _ h; have h4 := u_k _ h; omega)
  replace bx0_7 := hg.cell bx0_7 (fun h => by have h3 := lo_k _ h; have h4 := u_k _ h; omega)
  replace bx0_8 := hg.cell bx0_8 (fun h => by have h3 := lo_k _ h; have h4 := u_k _ h; omega)
  replace bx0_9 := hg.cell bx0_9 (fun h => by have h3 := lo_k _ h; have h4 := u_k _ h; omega)
  replace bx1_0 := hg.cell bx1_0 (fun h => by have h3 := lo_k _ h; have h4 := u_k _ h; omega)
  replace bx1_1 := hg.cell bx1_1 (fun h => by have h3 := lo_k _ h; have h4 := u_k _ h; omega)
  replace bx1_2 := hg.cell bx1_2 (fun h => by have h3 := lo_k _ h; have h4 := u_k _ h; omega)
  replace bx1_3 := hg.cell bx1_3 (fun h => by have h3 := lo_k _ h; have h4 := u_k _ h; omega)
  replace bx1_4 := hg.cell bx1_4 (fun h => by have h3 := lo_k _ h; have h4 := u_k _ h; omega)
  replace bx1_5 := hg.cell bx1_5 (fun h => by have h3 := lo_k _ h; have h4 := u_k _ h; omega)
  replace bx1_6 := hg.cell bx1_6 (fun h => by have h3 := lo_k _ h; have h4 := u_k _ h; omega)
  replace bx1_7 := hg.cell bx1_7 (fun h => by have h3 := lo_k _ h; have h4 := u_k _ h; omega)
  replace bx1_8 := hg.cell bx1_8 (fun h => by have h3 := lo_k _ h; have h4 := u_k _ h; omega)
  replace bx1_9 := hg.cell bx1_9 (fun h => by have h3 := lo_k _ h; have h4 := u_k _ h; omega)
  replace bx2_0 := hg.cell bx2_0 (fun h => by have h3 := lo_k _ h; have h4 := u_k _ h; omega)
  replace bx2_1 := hg.cell bx2_1 (fun h => by have h3 := lo_k _ h; have h4 := u_k _ h; omega)
  replace bx2_2 := hg.cell bx2_2 (fun h => by have h3 := lo_k _ h; have h4 := u_k _ h; omega)
  replace bx2_3 := hg.cell bx2_3 (fun h => by have h3 := lo_k _ h; have h4 := u_k _ h; omega)
  replace bx2_4 := hg.cell bx2_4 (fun h => by have h3 := lo_k _ h; have h4 := u_k _ h; omega)
  replace bx2_5 := hg.cell bx2_5 (fun h => by have h3 := lo_k _ h; have h4 := u_k _ h; omega)
  replace bx2_6 := hg.cell bx2_6 (fun h => by have h3 := lo_k _ h; have h4 := u_k _ h; omega)
  replace bx2_7 := hg.cell bx2_7 (fun h => by have h3 := lo_k _ h; have h4 := u_k _ h; omega)
  replace bx2_8 := hg.cell bx2_8 (fun h => by have h3 := lo_k _ h; have h4 := u_k _ h; omega)
  replace bx2_9 := hg.cell bx2_9 (fun h => by have h3 := lo_k _ h; have h4 := u_k _ h; omega)
  replace bx3_0 := hg.cell bx3_0 (fun h => by have h3 := lo_k _ h; have h4 := u_k _ h; omega)
  replace bx3_1 := hg.cell bx3_1 (fun h => by have h3 := lo_k _ h; have h4 := u_k _ h; omega)
  replace bx3_2 := hg.cell bx3_2 (fun h => by have h3 := lo_k _ h; have h4 := u_k _ h; omega)
  replace bx3_3 := hg.cell bx3_3 (fun h => by have h3 := lo_k _ h; have h4 := u_k _ h; omega)
  replace bx3_4 := hg.cell bx3_4 (fun h => by have h3 := lo_k _ h; have h4 := u_k _ h; omega)
  replace bx3_5 := hg.cell bx3_5 (fun h => by have h3 := lo_k _ h; have h4 := u_k _ h; omega)
  replace bx3_6 := hg.cell bx3_6 (fun h => by have h3 := lo_k _ h; have h4 := u_k _ h; omega)
  replace bx3_7 := hg.cell bx3_7 (fun h => by have h3 := lo_k _ h; have h4 := u_k _ h; omega)
  replace bx3_8 := hg.cell bx3_8 (fun h => by have h3 := lo_k _ h; have h4 := u_k _ h; omega)
  replace bx3_9 := hg.cell bx3_9 (fun h => by have h3 := lo_k _ h; have h4 := u_k _ h; omega)
  have bl0 := Nat.lt_of_lt_of_le bl0 hg.size
  have bl1 := Nat.lt_of_lt_of_le bl1 hg.size
  have bl2 := Nat.lt_of_lt_of_le bl2 hg.size
  have bl3 := Nat.lt_of_lt_of_le bl3 hg.size
  replace o_g := GrownB.txO hg o_g (fun g h1 h2 => hap_g g (markQ_blk h1) h2)
  replace r_g := TxO.rd o_g
  replace r_a := r_a.below (GrownB.below (Below.refl _ _) (by omega) hg (fun g h => by have h3 := lo_k _ h; have h4 := u_k _ h; omega))
  replace r_w := r_w.below (GrownB.below (Below.refl _ _) (by omega) hg (fun g h => by have h3 := lo_k _ h; have h4 := u_k _ h; omega))
  replace r_v := r_v.below (GrownB.below (Below.refl _ _) (by omega) hg (fun g h => by have h3 := lo_k _ h; have h4 := u_k _ h; omega))
  replace o_k := om
  replace r_k := Reads.of_own o_k
  clear hg om hg0
  go_wp2_with fail
  refine (heldTx_c H_g 1 _ (r_g.more (by omega)) hn_g (by decide) (by decide) (by omega)).mono ?_
  rintro e w17 ⟨rfl, hb⟩
  have k17 : Below w.heap.size w w17 := ext_step k16 (by omega) hb
  have p17 := hb.size
  replace o_g := o_g.ext hb
  replace bx0_0 := ccell hb _ _ _ bx0_0
  replace bx0_1 := ccell hb _ _ _ bx0_1
  replace bx0_2 := ccell hb _ _ _ bx0_2
  replace bx0_3 := ccell hb _ _ _ bx0_3
  replace bx0_4 := ccell hb _ _ _ bx0_4
  replace bx0_5 := ccell hb _ _ _ bx0_5
  replace bx0_6 := ccell hb _ _ _ bx0_6
  replace bx0_7 := ccell hb _ _ _ bx0_7
  replace bx0_8 := ccell hb _ _ _ bx0_8
  replace bx0_9 := ccell hb _ _ _ bx0_9
  replace bx1_0 := ccell hb _ _ _ bx1_0
  replace bx1_1 := ccell hb _ _ _ bx1_1
  replace bx1_2 := ccell hb _ _ _ bx1_2
  replace bx1_3 := ccell hb _ _ _ bx1_3
  replace bx1_4 := ccell hb _ _ _ bx1_4
  replace bx1_5 := ccell hb _ _ _ bx1_5
  replace bx1_6 := ccell hb _ _ _ bx1_6
  replace bx1_7 := ccell hb _ _ _ bx1_7
  replace bx1_8 := ccell hb _ _ _ bx1_8
  replace bx1_9 := ccell hb _ _ _ bx1_9
  replace bx2_0 := ccell hb _ _ _ bx2_0
  replace bx2_1 := ccell hb _ _ _ bx2_1
  replace bx2_2 := ccell hb _ _ _ bx2_2
  replace bx2_3 := ccell hb _ _ _ bx2_3
  replace bx2_4 := ccell hb _ _ _ bx2_4
  replace bx2_5 := ccell hb _ _ _ bx2_5
  replace bx2_6 := ccell hb _ _ _ bx2_6
  replace bx2_7 := ccell hb _ _ _ bx2_7
  replace bx2_8 := ccell hb _ _ _ bx2_8
  replace bx2_9 := ccell hb _ _ _ bx2_9
  replace bx3_0 := ccell hb _ _ _ bx3_0
  replace bx3_1 := ccell hb _ _ _ bx3_1
  replace bx3_2 := ccell hb _ _ _ bx3_2
  replace bx3_3 := ccell hb _ _ _ bx3_3
  replace bx3_4 := ccell hb _ _ _ bx3_4
  replace bx3_5 := ccell hb _ _ _ bx3_5
  replace bx3_6 := ccell hb _ _ _ bx3_6
  replace bx3_7 := ccell hb _ _ _ bx3_7
  replace bx3_8 := ccell hb _ _ _ bx3_8
  replace bx3_9 := ccell hb _ _ _ bx3_9
  have bl0 := Nat.lt_of_lt_of_le bl0 hb.size
  have bl1 := Nat.lt_of_lt_of_le bl1 hb.size
  have bl2 := Nat.lt_of_lt_of_le bl2 hb.size
  have bl3 := Nat.lt_of_lt_of_le bl3 hb.size
  replace r_a := r_a.below (hb.mono (by omega))
  replace r_w := r_w.below (hb.mono (by omega))
  replace r_v := r_v.below (hb.mono (by omega))
  replace r_g := r_g.below (hb.mono (by omega))
  replace r_k := r_k.below (hb.mono (by omega))
  replace o_k := own_ext o_k hb
  clear hb
  go_wp2_with fail
  refine (heldIntS_c _ _ _ (1 + (H_g.np : Int) + 2 * (H_g.ns : Int) + (totB H_g.L : Int)) _ (r_k.more (by omega)) (by omega) (by omega) (by omega)).mono ?_
  rintro e w18 ⟨rfl, hb⟩
  have k18 : Below w.heap.size w w18 := ext_step k17 (by omega) hb
  have p18 := hb.size
  replace o_g := o_g.ext hb
  replace bx0_0 := ccell hb _ _ _ bx0_0
  replace bx0_1 := ccell hb _ _ _ bx0_1
  replace bx0_2 := ccell hb _ _ _ bx0_2
  replace bx0_3 := ccell hb _ _ _ bx0_3
  replace bx0_4 := ccell hb _ _ _ bx0_4
  replace bx0_5 := ccell hb _ _ _ bx0_5
  replace bx0_6 := ccell hb _ _ _ bx0_6
  replace bx0_7 := ccell hb _ _ _ bx0_7
  replace bx0_8 := ccell hb _ _ _ bx0_8
  replace bx0_9 := ccell hb _ _ _ bx0_9
  replace bx1_0 := ccell hb _ _ _ bx1_0
  replace bx1_1 := ccell hb _ _ _ bx1_1
  replace bx1_2 := ccell hb _ _ _ bx1_2
  replace bx1_3 := ccell hb _ _ _ bx1_3
  replace bx1_4 := ccell hb _ _ _ bx1_4
  replace bx1_5 := ccell hb _ _ _ bx1_5
  replace bx1_6 := ccell hb _ _ _ bx1_6
  replace bx1_7 := ccell hb _ _ _ bx1_7
  replace bx1_8 := ccell hb _ _ _ bx1_8
  replace bx1_9 := ccell hb _ _ _ bx1_9
  replace bx2_0 := ccell hb _ _ _ bx2_0
  replace bx2_1 := ccell hb _ _ _ bx2_1
  replace bx2_2 := ccell hb _ _ _ bx2_2
  replace bx2_3 := ccell hb _ _ _ bx2_3
  replace bx2_4 := ccell hb _ _ _ bx2_4
  replace bx2_5 := ccell hb _ _ _ bx2_5
  replace bx2_6 := ccell hb _ _ _ bx2_6
  replace bx2_7 := ccell hb _ _ _ bx2_7
  replace bx2_8 := ccell hb _ _ _ bx2_8
  replace bx2_9 := ccell hb _ _ _ bx2_9
  replace bx3_0 := ccell hb _ _ _ bx3_0
  replace bx3_1 := ccell hb _ _ _ bx3_1
  replace bx3_2 := ccell hb _ _ _ bx3_2
  replace bx3_3 := ccell hb _ _ _ bx3_3
  replace bx3_4 := ccell hb _ _ _ bx3_4
  replace bx3_5 := ccell hb _ _ _ bx3_5
  replace bx3_6 := ccell hb _ _ _ bx3_6
  replace bx3_7 := ccell hb _ _ _ bx3_7
  replace bx3_8 := ccell hb _ _ _ bx3_8
  replace bx3_9 := ccell hb _ _ _ bx3_9
  have bl0 := Nat.lt_of_lt_of_le bl0 hb.size
  have bl1 := Nat.lt_of_lt_of_le bl1 hb.size
  have bl2 := Nat.lt_of_lt_of_le bl2 hb.size
  have bl3 := Nat.lt_of_lt_of_le bl3 hb.size
  replace r_a := r_a.below (hb.mono (by omega))
  replace r_w := r_w.below (hb.mono (by omega))
  replace r_v := r_v.below (hb.mono (by omega))
  replace r_g := r_g.below (hb.mono (by omega))
  replace r_k := r_k.below (hb.mono (by omega))
  replace o_k := own_ext o_k hb
  clear hb
  go_wp2_with fail
  refine (hto _ (r_a.more (by omega))).mono ?_
  rintro e w19 ⟨v, rfl, ⟨H_t, rfl, hv_t, o_t⟩, hb⟩
  have k19 : Below w.heap.size w w19 := ext_step k18 (by omega) hb
  have p19 := hb.size
  replace o_g := o_g.ext hb
  replace bx0_0 := ccell hb _ _ _ bx0_0
  replace bx0_1 := ccell hb _ _ _ bx0_1
  replace bx0_2 := ccell hb _ _ _ bx0_2
  replace bx0_3 := ccell hb _ _ _ bx0_3
  replace bx0_4 := ccell hb _ _ _ bx0_4
  replace bx0_5 := ccell hb _ _ _ bx0_5
  replace bx0_6 := ccell hb _ _ _ bx0_6
  replace bx0_7 := ccell hb _ _ _ bx0_7
  replace bx0_8 := ccell hb _ _ _ bx0_8
  replace bx0_9 := ccell hb _ _ _ bx0_9
  replace bx1_0 := ccell hb _ _ _ bx1_0
  replace bx1_1 := ccell hb _ _ _ bx1_1
  replace bx1_2 := ccell hb _ _ _ bx1_2
  replace bx1_3 := ccell hb _ _ _ bx1_3
  replace bx1_4 := ccell hb _ _ _ bx1_4
  replace bx1_5 := ccell hb _ _ _ bx1_5
  replace bx1_6 := ccell hb _ _ _ bx1_6
  replace bx1_7 := ccell hb _ _ _ bx1_7
  replace bx1_8 := ccell hb _ _ _ bx1_8
  replace bx1_9 := ccell hb _ _ _ bx1_9
  replace bx2_0 := ccell hb _ _ _ bx2_0
  replace bx2_1 := ccell hb _ _ _ bx2_1
  replace bx2_2 := ccell hb _ _ _ bx2_2
  replace bx2_3 := ccell hb _ _ _ bx2_3
  replace bx2_4 := ccell hb _ _ _ bx2_4
  replace bx2_5 := ccell hb _ _ _ bx2_5
  replace bx2_6 := ccell hb _ _ _ bx2_6
  replace bx2_7 := ccell hb _ _ _ bx2_7
  replace bx2_8 := ccell hb _ _ _ bx2_8
  replace bx2_9 := ccell hb _ _ _ bx2_9
  replace bx3_0 := ccell hb _ _ _ bx3_0
  replace bx3_1 := ccell hb _ _ _ bx3_1
  replace bx3_2 := ccell hb _ _ _ bx3_2
  replace bx3_3 := ccell hb _ _ _ bx3_3
  replace bx3_4 := ccell hb _ _ _ bx3_4
  replace bx3_5 := ccell hb _ _ _ bx3_5
  replace bx3_6 := ccell hb _ _ _ bx3_6
  replace bx3_7 := ccell hb _ _ _ bx3_7
  replace bx3_8 := ccell hb _ _ _ bx3_8
  replace bx3_9 := ccell hb _ _ _ bx3_9
  have bl0 := Nat.lt_of_lt_of_le bl0 hb.size
  have bl1 := Nat.lt_of_lt_of_le bl1 hb.size
  have bl2 := Nat.lt_of_lt_of_le bl2 hb.size
  have bl3 := Nat.lt_of_lt_of_le bl3 hb.size
  replace r_a := r_a.below (hb.mono (by omega))
  replace r_w := r_w.below (hb.mono (by omega))
  replace r_v := r_v.below (hb.mono (by omega))
  replace r_g := r_g.below (hb.mono (by omega))
  replace r_k := r_k.below (hb.mono (by omega))
  replace o_k := own_ext o_k hb
  have r_t := TxO.rd o_t
  have lo_t := fun g hg => (TxO.lt o_t (g := g) hg).1
  have u_t := fun g hg => (TxO.lt o_t (g := g) hg).2
  clear hb
  go_wp2_with fail
  refine (himpl H_t _ hv_t (own_cap2 o_t) (r_t.more (by omega))).mono ?_
  rintro e w20 ⟨H_h, A_y, c_y, rfl, hv_h, o_h, o_y, hap_h, hb⟩
  have k20 : Below w.heap.size w w20 := ext_step k19 (by omega) hb
  have p20 := hb.size
  replace o_g := o_g.ext hb
  replace o_t := o_t.ext hb
  replace bx0_0 := ccell hb _ _ _ bx0_0
  replace bx0_1 := ccell hb _ _ _ bx0_1
  replace bx0_2 := ccell hb _ _ _ bx0_2
  replace bx0_3 := ccell hb _ _ _ bx0_3
  replace bx0_4 := ccell hb _ _ _ bx0_4
  replace bx0_5 := ccell hb _ _ _ bx0_5
  replace bx0_6 := ccell hb _ _ _ bx0_6
  replace bx0_7 := ccell hb _ _ _ bx0_7
  replace bx0_8 := ccell hb _ _ _ bx0_8
  replace bx0_9 := ccell hb _ _ _ bx0_9
  replace bx1_0 := ccell hb _ _ _ bx1_0
  replace bx1_1 := ccell hb _ _ _ bx1_1
  replace bx1_2 := ccell hb _ _ _ bx1_2
  replace bx1_3 := ccell hb _ _ _ bx1_3
  replace bx1_4 := ccell hb _ _ _ bx1_4
  replace bx1_5 := ccell hb _ _ _ bx1_5
  replace bx1_6 := ccell hb _ _ _ bx1_6
  replace bx1_7 := ccell hb _ _ _ bx1_7
  replace bx1_8 := ccell hb _ _ _ bx1_8
  replace bx1_9 := ccell hb _ _ _ bx1_9
  replace bx2_0 := ccell hb _ _ _ bx2_0
  replace bx2_1 := ccell hb _ _ _ bx2_1
  replace bx2_2 := ccell hb _ _ _ bx2_2
  replace bx2_3 := ccell hb _ _ _ bx2_3
  replace bx2_4 := ccell hb _ _ _ bx2_4
  replace bx2_5 := ccell hb _ _ _ bx2_5
  replace bx2_6 := ccell hb _ _ _ bx2_6
  replace bx2_7 := ccell hb _ _ _ bx2_7
  replace bx2_8 := ccell hb _ _ _ bx2_8
  replace bx2_9 := ccell hb _ _ _ bx2_9
  replace bx3_0 := ccell hb _ _ _ bx3_0
  replace bx3_1 := ccell hb _ _ _ bx3_1
  replace bx3_2 := ccell hb _ _ _ bx3_2
  replace bx3_3 := ccell hb _ _ _ bx3_3
  replace bx3_4 := ccell hb _ _ _ bx3_4
  replace bx3_5 := ccell hb _ _ _ bx3_5
  replace bx3_6 := ccell hb _ _ _ bx3_6
  replace bx3_7 := ccell hb _ _ _ bx3_7
  replace bx3_8 := ccell hb _ _ _ bx3_8
  replace bx3_9 := ccell hb _ _ _ bx3_9
  have bl0 := Nat.lt_of_lt_of_le bl0 hb.size
  have bl1 := Nat.lt_of_lt_of_le bl1 hb.size
  have bl2 := Nat.lt_of_lt_of_le bl2 hb.size
  have bl3 := Nat.lt_of_lt_of_le bl3 hb.size
  replace r_a := r_a.below (hb.mono (by omega))
  replace r_w := r_w.below (hb.mono (by omega))
  replace r_v := r_v.below (hb.mono (by omega))
  replace r_g := r_g.below (hb.mono (by omega))
  replace r_k := r_k.below (hb.mono (by omega))
  replace o_k := own_ext o_k hb
  replace r_t := r_t.below (hb.mono (by omega))
  have r_h := TxO.rd o_h
  have lo_h := fun g hg => (TxO.lt o_h (g := g) hg).1
  have u_h := fun g hg => (TxO.lt o_h (g := g) hg).2
  have r_y := Reads.of_own o_y
  have lo_y := fun g hg => (o_y.lt g hg).1
  have u_y := fun g hg => (o_y.lt g hg).2
  clear hb
  go_wp2_with fail
  obtain ⟨w21, hW0⟩ : ∃ W, W = (w20.alloc (.cells #[.int .i64 H_h.rb, .int .i64 H_h.rs, .int .i64 H_h.rh, .int .i64 H_h.rt, .int .i64 H_h.pb, .int .i64 H_h.ps, .int .i64 H_h.pc, .slice H_h.Ap H_h.np H_h.cp, .slice H_h.As H_h.ns H_h.cs, .int .i64 H_h.next] 36)) := ⟨_, rfl⟩
  have hb : Below w20.heap.size w20 w21 := by rw [hW0]; go_grown
  have hkz : Blk w21 w20.heap.size 36 [.int .i64 H_h.rb, .int .i64 H_h.rs, .int .i64 H_h.rh, .int .i64 H_h.rt, .int .i64 H_h.pb, .int .i64 H_h.ps, .int .i64 H_h.pc, .slice H_h.Ap H_h.np H_h.cp, .slice H_h.As H_h.ns H_h.cs, .int .i64 H_h.next] := by rw [hW0]; exact Blk.new _ _ _
  rw [← hW0]
  clear hW0
  have bl4 := hkz.lt
  have k21 : Below w.heap.size w w21 := ext_step k20 (by omega) hb
  have p21 := hb.size
  replace o_g := o_g.ext hb
  replace o_t := o_t.ext hb
  replace o_h := o_h.ext hb
  replace bx0_0 := ccell hb _ _ _ bx0_0
  replace bx0_1 := ccell hb _ _ _ bx0_1
  replace bx0_2 := ccell hb _ _ _ bx0_2
  replace bx0_3 := ccell hb _ _ _ bx0_3
  replace bx0_4 := ccell hb _ _ _ bx0_4
  replace bx0_5 := ccell hb _ _ _ bx0_5
  replace bx0_6 := ccell hb _ _ _ bx0_6
  replace bx0_7 := ccell hb _ _ _ bx0_7
  replace bx0_8 := ccell hb _ _ _ bx0_8
  replace bx0_9 := ccell hb _ _ _ bx0_9
  replace bx1_0 := ccell hb _ _ _ bx1_0
  replace bx1_1 := ccell hb _ _ _ bx1_1
  replace bx1_2 := ccell hb _ _ _ bx1_2
  replace bx1_3 := ccell hb _ _ _ bx1_3
  replace bx1_4 := ccell hb _ _ _ bx1_4
  replace bx1_5 := ccell hb _ _ _ bx1_5
  replace bx1_6 := ccell hb _ _ _ bx1_6
  replace bx1_7 := ccell hb _ _ _ bx1_7
  replace bx1_8 := ccell hb _ _ _ bx1_8
  replace bx1_9 := ccell hb _ _ _ bx1_9
  replace bx2_0 := ccell hb _ _ _ bx2_0
  replace bx2_1 := ccell hb _ _ _ bx2_1
  replace bx2_2 := ccell hb _ _ _ bx2_2
  replace bx2_3 := ccell hb _ _ _ bx2_3
  replace bx2_4 := ccell hb _ _ _ bx2_4
  replace bx2_5 := ccell hb _ _ _ bx2_5
  replace bx2_6 := ccell hb _ _ _ bx2_6
  replace bx2_7 := ccell hb _ _ _ bx2_7
  replace bx2_8 := ccell hb _ _ _ bx2_8
  replace bx2_9 := ccell hb _ _ _ bx2_9
  replace bx3_0 := ccell hb _ _ _ bx3_0
  replace bx3_1 := ccell hb _ _ _ bx3_1
  replace bx3_2 := ccell hb _ _ _ bx3_2
  replace bx3_3 := ccell hb _ _ _ bx3_3
  replace bx3_4 := ccell hb _ _ _ bx3_4
  replace bx3_5 := ccell hb _ _ _ bx3_5
  replace bx3_6 := ccell hb _ _ _ bx3_6
  replace bx3_7 := ccell hb _ _ _ bx3_7
  replace bx3_8 := ccell hb _ _ _ bx3_8
  replace bx3_9 := ccell hb _ _ _ bx3_9
  have bl0 := Nat.lt_of_lt_of_le bl0 hb.size
  have bl1 := Nat.lt_of_lt_of_le bl1 hb.size
  have bl2 := Nat.lt_of_lt_of_le bl2 hb.size
  have bl3 := Nat.lt_of_lt_of_le bl3 hb.size
  replace r_a := r_a.below (hb.mono (by omega))
  replace r_w := r_w.below (hb.mono (by omega))
  replace r_v := r_v.below (hb.mono (by omega))
  replace r_g := r_g.below (hb.mono (by omega))
  replace r_k := r_k.below (hb.mono (by omega))
  replace o_k := own_ext o_k hb
  replace r_t := r_t.below (hb.mono (by omega))
  replace r_h := r_h.below (hb.mono (by omega))
  replace r_y := r_y.below (hb.mono (by omega))
  replace o_y := own_ext o_y hb
  have bx4_0 := hkz.at_ 0 _ rfl
  have bx4_1 := hkz.at_ 1 _ rfl
  have bx4_2 := hkz.at_ 2 _ rfl
  have bx4_3 := hkz.at_ 3 _ rfl
  have bx4_4 := hkz.at_ 4 _ rfl
  have bx4_5 := hkz.at_ 5 _ rfl
  have bx4_6 := hkz.at_ 6 _ rfl
  have bx4_7 := hkz.at_ 7 _ rfl
  have bx4_8 := hkz.at_ 8 _ rfl
  have bx4_9 := hkz.at_ 9 _ rfl
  clear hb hkz
  clear r_t o_t lo_t u_t
  refine (heqz H_h H_w _ hv_h hv_w (r_h.more (by omega)) (r_w.more (by omega))).mono ?_
  rintro e w22 ⟨rfl, hb⟩
  have k22 : Below w.heap.size w w22 := ext_step k21 (by omega) hb
  have p22 := hb.size
  replace o_g := o_g.ext hb
  replace o_h := o_h.ext hb
  replace bx0_0 := ccell hb _ _ _ bx0_0
  replace bx0_1 := ccell hb _ _ _ bx0_1
  replace bx0_2 := ccell hb _ _ _ bx0_2
  replace bx0_3 := ccell hb _ _ _ bx0_3
  replace bx0_4 := ccell hb _ _ _ bx0_4
  replace bx0_5 := ccell hb _ _ _ bx0_5
  replace bx0_6 := ccell hb _ _ _ bx0_6
  replace bx0_7 := ccell hb _ _ _ bx0_7
  replace bx0_8 := ccell hb _ _ _ bx0_8
  replace bx0_9 := ccell hb _ _ _ bx0_9
  replace bx1_0 := ccell hb _ _ _ bx1_0
  replace bx1_1 := ccell hb _ _ _ bx1_1
  replace bx1_2 := ccell hb _ _ _ bx1_2
  replace bx1_3 := ccell hb _ _ _ bx1_3
  replace bx1_4 := ccell hb _ _ _ bx1_4
  replace bx1_5 := ccell hb _ _ _ bx1_5
  replace bx1_6 := ccell hb _ _ _ bx1_6
  replace bx1_7 := ccell hb _ _ _ bx1_7
  replace bx1_8 := ccell hb _ _ _ bx1_8
  replace bx1_9 := ccell hb _ _ _ bx1_9
  replace bx2_0 := ccell hb _ _ _ bx2_0
  replace bx2_1 := ccell hb _ _ _ bx2_1
  replace bx2_2 := ccell hb _ _ _ bx2_2
  replace bx2_3 := ccell hb _ _ _ bx2_3
  replace bx2_4 := ccell hb _ _ _ bx2_4
  replace bx2_5 := ccell hb _ _ _ bx2_5
  replace bx2_6 := ccell hb _ _ _ bx2_6
  replace bx2_7 := ccell hb _ _ _ bx2_7
  replace bx2_8 := ccell hb _ _ _ bx2_8
  replace bx2_9 := ccell hb _ _ _ bx2_9
  replace bx3_0 := ccell hb _ _ _ bx3_0
  replace bx3_1 := ccell hb _ _ _ bx3_1
  replace bx3_2 := ccell hb _ _ _ bx3_2
  replace bx3_3 := ccell hb _ _ _ bx3_3
  replace bx3_4 := ccell hb _ _ _ bx3_4
  replace bx3_5 := ccell hb _ _ _ bx3_5
  replace bx3_6 := ccell hb _ _ _ bx3_6
  replace bx3_7 := ccell hb _ _ _ bx3_7
  replace bx3_8 := ccell hb _ _ _ bx3_8
  replace bx3_9 := ccell hb _ _ _ bx3_9
  replace bx4_0 := ccell hb _ _ _ bx4_0
  replace bx4_1 := ccell hb _ _ _ bx4_1
  replace bx4_2 := ccell hb _ _ _ bx4_2
  replace bx4_3 := ccell hb _ _ _ bx4_3
  replace bx4_4 := ccell hb _ _ _ bx4_4
  replace bx4_5 := ccell hb _ _ _ bx4_5
  replace bx4_6 := ccell hb _ _ _ bx4_6
  replace bx4_7 := ccell hb _ _ _ bx4_7
  replace bx4_8 := ccell hb _ _ _ bx4_8
  replace bx4_9 := ccell hb _ _ _ bx4_9
  have bl0 := Nat.lt_of_lt_of_le bl0 hb.size
  have bl1 := Nat.lt_of_lt_of_le bl1 hb.size
  have bl2 := Nat.lt_of_lt_of_le bl2 hb.size
  have bl3 := Nat.lt_of_lt_of_le bl3 hb.size
  have bl4 := Nat.lt_of_lt_of_le bl4 hb.size
  replace r_a := r_a.below (hb.mono (by omega))
  replace r_w := r_w.below (hb.mono (by omega))
  replace r_v := r_v.below (hb.mono (by omega))
  replace r_g := r_g.below (hb.mono (by omega))
  replace r_k := r_k.below (hb.mono (by omega))
  replace o_k := own_ext o_k hb
  replace r_h := r_h.below (hb.mono (by omega))
  replace r_y := r_y.below (hb.mono (by omega))
  replace o_y := own_ext o_y hb
  clear hb
  go_wp2_with fail
  refine (eqIntS_c _ _ nz _ _ cz _ hcn (by omega) (r_y.more (by omega)) (r_v.more (by omega))).mono ?_
  rintro e w23 ⟨rfl, hb⟩
  have k23 : Below w.heap.size w w23 := ext_step k22 (by omega) hb
  have p23 := hb.size
  replace o_g := o_g.ext hb
  replace o_h := o_h.ext hb
  replace bx0_0 := ccell hb _ _ _ bx0_0
  replace bx0_1 := ccell hb _ _ _ bx0_1
  replace bx0_2 := ccell hb _ _ _ bx0_2
  replace bx0_3 := ccell hb _ _ _ bx0_3
  replace bx0_4 := ccell hb _ _ _ bx0_4
  replace bx0_5 := ccell hb _ _ _ bx0_5
  replace bx0_6 := ccell hb _ _ _ bx0_6
  replace bx0_7 := ccell hb _ _ _ bx0_7
  replace bx0_8 := ccell hb _ _ _ bx0_8
  replace bx0_9 := ccell hb _ _ _ bx0_9
  replace bx1_0 := ccell hb _ _ _ bx1_0
  replace bx1_1 := ccell hb _ _ _ bx1_1
  replace bx1_2 := ccell hb _ _ _ bx1_2
  replace bx1_3 := ccell hb _ _ _ bx1_3
  replace bx1_4 := ccell hb _ _ _ bx1_4
  replace bx1_5 := ccell hb _ _ _ bx1_5
  replace bx1_6 := ccell hb _ _ _ bx1_6
  replace bx1_7 := ccell hb _ _ _ bx1_7
  replace bx1_8 := ccell hb _ _ _ bx1_8
  replace bx1_9 := ccell hb _ _ _ bx1_9
  replace bx2_0 := ccell hb _ _ _ bx2_0
  replace bx2_1 := ccell hb _ _ _ bx2_1
  replace bx2_2 := ccell hb _ _ _ bx2_2
  replace bx2_3 := ccell hb _ _ _ bx2_3
  replace bx2_4 := ccell hb _ _ _ bx2_4
  replace bx2_5 := ccell hb _ _ _ bx2_5
  replace bx2_6 := ccell hb _ _ _ bx2_6
  replace bx2_7 := ccell hb _ _ _ bx2_7
  replace bx2_8 := ccell hb _ _ _ bx2_8
  replace bx2_9 := ccell hb _ _ _ bx2_9
  replace bx3_0 := ccell hb _ _ _ bx3_0
  replace bx3_1 := ccell hb _ _ _ bx3_1
  replace bx3_2 := ccell hb _ _ _ bx3_2
  replace bx3_3 := ccell hb _ _ _ bx3_3
  replace bx3_4 := ccell hb _ _ _ bx3_4
  replace bx3_5 := ccell hb _ _ _ bx3_5
  replace bx3_6 := ccell hb _ _ _ bx3_6
  replace bx3_7 := ccell hb _ _ _ bx3_7
  replace bx3_8 := ccell hb _ _ _ bx3_8
  replace bx3_9 := ccell hb _ _ _ bx3_9
  replace bx4_0 := ccell hb _ _ _ bx4_0
  replace bx4_1 := ccell hb _ _ _ bx4_1
  replace bx4_2 := ccell hb _ _ _ bx4_2
  replace bx4_3 := ccell hb _ _ _ bx4_3
  replace bx4_4 := ccell hb _ _ _ bx4_4
  replace bx4_5 := ccell hb _ _ _ bx4_5
  replace bx4_6 := ccell hb _ _ _ bx4_6
  replace bx4_7 := ccell hb _ _ _ bx4_7
  replace bx4_8 := ccell hb _ _ _ bx4_8
  replace bx4_9 := ccell hb _ _ _ bx4_9
  have bl0 := Nat.lt_of_lt_of_le bl0 hb.size
  have bl1 := Nat.lt_of_lt_of_le bl1 hb.size
  have bl2 := Nat.lt_of_lt_of_le bl2 hb.size
  have bl3 := Nat.lt_of_lt_of_le bl3 hb.size
  have bl4 := Nat.lt_of_lt_of_le bl4 hb.size
  replace r_a := r_a.below (hb.mono (by omega))
  replace r_w := r_w.below (hb.mono (by omega))
  replace r_v := r_v.below (hb.mono (by omega))
  replace r_g := r_g.below (hb.mono (by omega))
  replace r_k := r_k.below (hb.mono (by omega))
  replace o_k := own_ext o_k hb
  replace r_h := r_h.below (hb.mono (by omega))
  replace r_y := r_y.below (hb.mono (by omega))
  replace o_y := own_ext o_y hb
  clear hb
  go_wp2_with fail
  refine (heldTx_c H_g 1 _ (r_g.more (by omega)) hn_g (by decide) (by decide) (by omega)).mono ?_
  rintro e w24 ⟨rfl, hb⟩
  have k24 : Below w.heap.size w w24 := ext_step k23 (by omega) hb
  have p24 := hb.size
  replace o_g := o_g.ext hb
  replace o_h := o_h.ext hb
  replace bx0_0 := ccell hb _ _ _ bx0_0
  replace bx0_1 := ccell hb _ _ _ bx0_1
  replace bx0_2 := ccell hb _ _ _ bx0_2
  replace bx0_3 := ccell hb _ _ _ bx0_3
  replace bx0_4 := ccell hb _ _ _ bx0_4
  replace bx0_5 := ccell hb _ _ _ bx0_5
  replace bx0_6 := ccell hb _ _ _ bx0_6
  replace bx0_7 := ccell hb _ _ _ bx0_7
  replace bx0_8 := ccell hb _ _ _ bx0_8
  replace bx0_9 := ccell hb _ _ _ bx0_9
  replace bx1_0 := ccell hb _ _ _ bx1_0
  replace bx1_1 := ccell hb _ _ _ bx1_1
  replace bx1_2 := ccell hb _ _ _ bx1_2
  replace bx1_3 := ccell hb _ _ _ bx1_3
  replace bx1_4 := ccell hb _ _ _ bx1_4
  replace bx1_5 := ccell hb _ _ _ bx1_5
  replace bx1_6 := ccell hb _ _ _ bx1_6
  replace bx1_7 := ccell hb _ _ _ bx1_7
  replace bx1_8 := ccell hb _ _ _ bx1_8
  replace bx1_9 := ccell hb _ _ _ bx1_9
  replace bx2_0 := ccell hb _ _ _ bx2_0
  replace bx2_1 := ccell hb _ _ _ bx2_1
  replace bx2_2 := ccell hb _ _ _ bx2_2
  replace bx2_3 := ccell hb _ _ _ bx2_3
  replace bx2_4 := ccell hb _ _ _ bx2_4
  replace bx2_5 := ccell hb _ _ _ bx2_5
  replace bx2_6 := ccell hb _ _ _ bx2_6
  replace bx2_7 := ccell hb _ _ _ bx2_7
  replace bx2_8 := ccell hb _ _ _ bx2_8
  replace bx2_9 := ccell hb _ _ _ bx2_9
  replace bx3_0 := ccell hb _ _ _ bx3_0
  replace bx3_1 := ccell hb _ _ _ bx3_1
  replace bx3_2 := ccell hb _ _ _ bx3_2
  replace bx3_3 := ccell hb _ _ _ bx3_3
  replace bx3_4 := ccell hb _ _ _ bx3_4
  replace bx3_5 := ccell hb _ _ _ bx3_5
  replace bx3_6 := ccell hb _ _ _ bx3_6
  replace bx3_7 := ccell hb _ _ _ bx3_7
  replace bx3_8 := ccell hb _ _ _ bx3_8
  replace bx3_9 := ccell hb _ _ _ bx3_9
  replace bx4_0 := ccell hb _ _ _ bx4_0
  replace bx4_1 := ccell hb _ _ _ bx4_1
  replace bx4_2 := ccell hb _ _ _ bx4_2
  replace bx4_3 := ccell hb _ _ _ bx4_3
  replace bx4_4 := ccell hb _ _ _ bx4_4
  replace bx4_5 := ccell hb _ _ _ bx4_5
  replace bx4_6 := ccell hb _ _ _ bx4_6
  replace bx4_7 := ccell hb _ _ _ bx4_7
  replace bx4_8 := ccell hb _ _ _ bx4_8
  replace bx4_9 := ccell hb _ _ _ bx4_9
  have bl0 := Nat.lt_of_lt_of_le bl0 hb.size
  have bl1 := Nat.lt_of_lt_of_le bl1 hb.size
  have bl2 := Nat.lt_of_lt_of_le bl2 hb.size
  have bl3 := Nat.lt_of_lt_of_le bl3 hb.size
  have bl4 := Nat.lt_of_lt_of_le bl4 hb.size
  replace r_a := r_a.below (hb.mono (by omega))
  replace r_w := r_w.below (hb.mono (by omega))
  replace r_v := r_v.below (hb.mono (by omega))
  replace r_g := r_g.below (hb.mono (by omega))
  replace r_k := r_k.below (hb.mono (by omega))
  replace o_k := own_ext o_k hb
  replace r_h := r_h.below (hb.mono (by omega))
  replace r_y := r_y.below (hb.mono (by omega))
  replace o_y := own_ext o_y hb
  clear hb
  go_wp2_with fail
  refine (heldIntS_c _ _ _ (1 + (H_g.np : Int) + 2 * (H_g.ns : Int) + (totB H_g.L : Int)) _ (r_k.more (by omega)) (by omega) (by omega) (by omega)).mono ?_
  rintro e w25 ⟨rfl, hb⟩
  have k25 : Below w.heap.size w w25 := ext_step k24 (by omega) hb
  have p25 := hb.size
  replace o_g := o_g.ext hb
  replace o_h := o_h.ext hb
  replace bx0_0 := ccell hb _ _ _ bx0_0
  replace bx0_1 := ccell hb _ _ _ bx0_1
  replace bx0_2 := ccell hb _ _ _ bx0_2
  replace bx0_3 := ccell hb _ _ _ bx0_3
  replace bx0_4 := ccell hb _ _ _ bx0_4
  replace bx0_5 := ccell hb _ _ _ bx0_5
  replace bx0_6 := ccell hb _ _ _ bx0_6
  replace bx0_7 := ccell hb _ _ _ bx0_7
  replace bx0_8 := ccell hb _ _ _ bx0_8
  replace bx0_9 := ccell hb _ _ _ bx0_9
  replace bx1_0 := ccell hb _ _ _ bx1_0
  replace bx1_1 := ccell hb _ _ _ bx1_1
  replace bx1_2 := ccell hb _ _ _ bx1_2
  replace bx1_3 := ccell hb _ _ _ bx1_3
  replace bx1_4 := ccell hb _ _ _ bx1_4
  replace bx1_5 := ccell hb _ _ _ bx1_5
  replace bx1_6 := ccell hb _ _ _ bx1_6
  replace bx1_7 := ccell hb _ _ _ bx1_7
  replace bx1_8 := ccell hb _ _ _ bx1_8
  replace bx1_9 := ccell hb _ _ _ bx1_9
  replace bx2_0 := ccell hb _ _ _ bx2_0
  replace bx2_1 := ccell hb _ _ _ bx2_1
  replace bx2_2 := ccell hb _ _ _ bx2_2
  replace bx2_3 := ccell hb _ _ _ bx2_3
  replace bx2_4 := ccell hb _ _ _ bx2_4
  replace bx2_5 := ccell hb _ _ _ bx2_5
  replace bx2_6 := ccell hb _ _ _ bx2_6
  replace bx2_7 := ccell hb _ _ _ bx2_7
  replace bx2_8 := ccell hb _ _ _ bx2_8
  replace bx2_9 := ccell hb _ _ _ bx2_9
  replace bx3_0 := ccell hb _ _ _ bx3_0
  replace bx3_1 := ccell hb _ _ _ bx3_1
  replace bx3_2 := ccell hb _ _ _ bx3_2
  replace bx3_3 := ccell hb _ _ _ bx3_3
  replace bx3_4 := ccell hb _ _ _ bx3_4
  replace bx3_5 := ccell hb _ _ _ bx3_5
  replace bx3_6 := ccell hb _ _ _ bx3_6
  replace bx3_7 := ccell hb _ _ _ bx3_7
  replace bx3_8 := ccell hb _ _ _ bx3_8
  replace bx3_9 := ccell hb _ _ _ bx3_9
  replace bx4_0 := ccell hb _ _ _ bx4_0
  replace bx4_1 := ccell hb _ _ _ bx4_1
  replace bx4_2 := ccell hb _ _ _ bx4_2
  replace bx4_3 := ccell hb _ _ _ bx4_3
  replace bx4_4 := ccell hb _ _ _ bx4_4
  replace bx4_5 := ccell hb _ _ _ bx4_5
  replace bx4_6 := ccell hb _ _ _ bx4_6
  replace bx4_7 := ccell hb _ _ _ bx4_7
  replace bx4_8 := ccell hb _ _ _ bx4_8
  replace bx4_9 := ccell hb _ _ _ bx4_9
  have bl0 := Nat.lt_of_lt_of_le bl0 hb.size
  have bl1 := Nat.lt_of_lt_of_le bl1 hb.size
  have bl2 := Nat.lt_of_lt_of_le bl2 hb.size
  have bl3 := Nat.lt_of_lt_of_le bl3 hb.size
  have bl4 := Nat.lt_of_lt_of_le bl4 hb.size
  replace r_a := r_a.below (hb.mono (by omega))
  replace r_w := r_w.below (hb.mono (by omega))
  replace r_v := r_v.below (hb.mono (by omega))
  replace r_g := r_g.below (hb.mono (by omega))
  replace r_k := r_k.below (hb.mono (by omega))
  replace o_k := own_ext o_k hb
  replace r_h := r_h.below (hb.mono (by omega))
  replace r_y := r_y.below (hb.mono (by omega))
  replace o_y := own_ext o_y hb
  clear hb
  go_wp2
  go_ret
  exact ⟨rfl, k25⟩
theorem fnExactCompletePackets_walk (rb rs rh rt pb ps pc : Int) (Ap : Option Addr) (np cp : Nat) (free : List Int) (As : Option Addr) (ns cs : Nat) (L : List SentH) (next : Int) (n : Int) (w : World) (f0 : I64 rb) (f1 : I64 rs) (f2 : I64 rh) (f3 : I64 rt) (f4 : I64 pb) (f5 : I64 ps) (f6 : I64 pc) (s1 : SlInt w Ap np cp free) (s2 : SlSent w As ns cs L) (f7 : I64 next) (f8 : I64 n) :
    Calls Try.prog 4 #[.agg #[.int .i64 rb, .int .i64 rs, .int .i64 rh, .int .i64 rt, .int .i64 pb, .int .i64 ps, .int .i64 pc, .slice Ap np cp, .slice As ns cs, .int .i64 next], .int .i64 n] w fun e w' => e = .returned (.bool true) ∧ Below w.heap.size w w' := by
  obtain ⟨⟨hn1, hnc1, hc1, r1⟩, _⟩ := s1
  obtain ⟨⟨hn2, hnc2, hc2, r2⟩, hok⟩ := s2
  have hi : InRd w w.heap.size L := fun x hx => ⟨(hok x hx).2.2.1.1, (hok x hx).2.2.1.2.2.2⟩
  have hx63 : ∀ x ∈ L, x.n ≤ 9223372036854775807 := fun x hx => by
    have h1 := (hok x hx).2.2.1.2.1
    have h2 := (hok x hx).2.2.1.2.2.1
    omega
  have r0 : TxR w w.heap.size ⟨rb, rs, rh, rt, pb, ps, pc, Ap, np, cp, free, As, ns, cs, L, next⟩ := ⟨⟨hn1, r1⟩, ⟨hn2, r2⟩, hi⟩
  have hsz : ∀ u, Below w.heap.size w u → _ := fun u hu => szTxQueue_c rb rs rh rt pb ps pc Ap np cp As ns cs L next 1048576 u (by decide) (by decide) (by omega) hn2 (by omega) (r2.to hu) hx63
  by_cases g : (1048576 : Int) - np - ns - totB L < 0
  · rw [szI_neg g] at hsz
    exact compL_n ⟨rb, rs, rh, rt, pb, ps, pc, Ap, np, cp, free, As, ns, cs, L, next⟩ n w r0 hsz
  · rw [szI_nn g] at hsz
    exact compL_ok ⟨rb, rs, rh, rt, pb, ps, pc, Ap, np, cp, free, As, ns, cs, L, next⟩ n _ w _ g rfl (by rw [← r0.sz rfl]; show np + ns + totB L ≤ _; omega) f2 f3 r0 hsz
end Go.Proofs.Ytnkcomclhmlefaa
