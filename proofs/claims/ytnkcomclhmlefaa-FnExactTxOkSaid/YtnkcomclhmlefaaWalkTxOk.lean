/- The walk of laws.FnExactTxOk. -/
import Derived.Test.YtnkcomclhmlefaaTxA2
import Derived.Test.YtnkcomclhmlefaaOpenT
namespace Go.Proofs.Ytnkcomclhmlefaa
set_option linter.unusedSimpArgs false
set_option linter.unusedVariables false
open Go.RowKit Go.ChangeShapes Go.WideShapes
set_option maxRecDepth 100000 in
set_option maxHeartbeats 4000000 in
theorem txL_n (H : TxH) (w : World) (r0 : TxR w w.heap.size H) (hz : ∀ u, Below w.heap.size w u → Calls Try.prog 5 #[.agg #[.int .i64 H.rb, .int .i64 H.rs, .int .i64 H.rh, .int .i64 H.rt, .int .i64 H.pb, .int .i64 H.ps, .int .i64 H.pc, .slice H.Ap H.np H.cp, .slice H.As H.ns H.cs, .int .i64 H.next], .int .i64 1048576] u fun e w' => e = .returned (.int .i64 (-1)) ∧ Below u.heap.size u w') :
    Calls Try.prog 3 #[.agg #[.int .i64 H.rb, .int .i64 H.rs, .int .i64 H.rh, .int .i64 H.rt, .int .i64 H.pb, .int .i64 H.ps, .int .i64 H.pc, .slice H.Ap H.np H.cp, .slice H.As H.ns H.cs, .int .i64 H.next]] w fun e w' => e = .returned (.bool true) ∧ Below w.heap.size w w' := by
  have r_a := r0
  go_enter Try.func3, Try.ntmps3
  go_wp2_with fail
  have k0 : Below w.heap.size w (w.alloc (.cells #[.int .i64 H.rb, .int .i64 H.rs, .int .i64 H.rh, .int .i64 H.rt, .int .i64 H.pb, .int .i64 H.ps, .int .i64 H.pc, .slice H.Ap H.np H.cp, .slice H.As H.ns H.cs, .int .i64 H.next] 29)) := by go_grown
  have bx0_0 : (w.alloc (.cells #[.int .i64 H.rb, .int .i64 H.rs, .int .i64 H.rh, .int .i64 H.rt, .int .i64 H.pb, .int .i64 H.ps, .int .i64 H.pc, .slice H.Ap H.np H.cp, .slice H.As H.ns H.cs, .int .i64 H.next] 29)).cell? ⟨w.heap.size, 0, none⟩ = some (.int .i64 H.rb) := by simp [go_sem]
  have bx0_1 : (w.alloc (.cells #[.int .i64 H.rb, .int .i64 H.rs, .int .i64 H.rh, .int .i64 H.rt, .int .i64 H.pb, .int .i64 H.ps, .int .i64 H.pc, .slice H.Ap H.np H.cp, .slice H.As H.ns H.cs, .int .i64 H.next] 29)).cell? ⟨w.heap.size, 1, none⟩ = some (.int .i64 H.rs) := by simp [go_sem]
  have bx0_2 : (w.alloc (.cells #[.int .i64 H.rb, .int .i64 H.rs, .int .i64 H.rh, .int .i64 H.rt, .int .i64 H.pb, .int .i64 H.ps, .int .i64 H.pc, .slice H.Ap H.np H.cp, .slice H.As H.ns H.cs, .int .i64 H.next] 29)).cell? ⟨w.heap.size, 2, none⟩ = some (.int .i64 H.rh) := by simp [go_sem]
  have bx0_3 : (w.alloc (.cells #[.int .i64 H.rb, .int .i64 H.rs, .int .i64 H.rh, .int .i64 H.rt, .int .i64 H.pb, .int .i64 H.ps, .int .i64 H.pc, .slice H.Ap H.np H.cp, .slice H.As H.ns H.cs, .int .i64 H.next] 29)).cell? ⟨w.heap.size, 3, none⟩ = some (.int .i64 H.rt) := by simp [go_sem]
  have bx0_4 : (w.alloc (.cells #[.int .i64 H.rb, .int .i64 H.rs, .int .i64 H.rh, .int .i64 H.rt, .int .i64 H.pb, .int .i64 H.ps, .int .i64 H.pc, .slice H.Ap H.np H.cp, .slice H.As H.ns H.cs, .int .i64 H.next] 29)).cell? ⟨w.heap.size, 4, none⟩ = some (.int .i64 H.pb) := by simp [go_sem]
  have bx0_5 : (w.alloc (.cells #[.int .i64 H.rb, .int .i64 H.rs, .int .i64 H.rh, .int .i64 H.rt, .int .i64 H.pb, .int .i64 H.ps, .int .i64 H.pc, .slice H.Ap H.np H.cp, .slice H.As H.ns H.cs, .int .i64 H.next] 29)).cell? ⟨w.heap.size, 5, none⟩ = some (.int .i64 H.ps) := by simp [go_sem]
  have bx0_6 : (w.alloc (.cells #[.int .i64 H.rb, .int .i64 H.rs, .int .i64 H.rh, .int .i64 H.rt, .int .i64 H.pb, .int .i64 H.ps, .int .i64 H.pc, .slice H.Ap H.np H.cp, .slice H.As H.ns H.cs, .int .i64 H.next] 29)).cell? ⟨w.heap.size, 6, none⟩ = some (.int .i64 H.pc) := by simp [go_sem]
  have bx0_7 : (w.alloc (.cells #[.int .i64 H.rb, .int .i64 H.rs, .int .i64 H.rh, .int .i64 H.rt, .int .i64 H.pb, .int .i64 H.ps, .int .i64 H.pc, .slice H.Ap H.np H.cp, .slice H.As H.ns H.cs, .int .i64 H.next] 29)).cell? ⟨w.heap.size, 7, none⟩ = some (.slice H.Ap H.np H.cp) := by simp [go_sem]
  have bx0_8 : (w.alloc (.cells #[.int .i64 H.rb, .int .i64 H.rs, .int .i64 H.rh, .int .i64 H.rt, .int .i64 H.pb, .int .i64 H.ps, .int .i64 H.pc, .slice H.Ap H.np H.cp, .slice H.As H.ns H.cs, .int .i64 H.next] 29)).cell? ⟨w.heap.size, 8, none⟩ = some (.slice H.As H.ns H.cs) := by simp [go_sem]
  have bx0_9 : (w.alloc (.cells #[.int .i64 H.rb, .int .i64 H.rs, .int .i64 H.rh, .int .i64 H.rt, .int .i64 H.pb, .int .i64 H.ps, .int .i64 H.pc, .slice H.Ap H.np H.cp, .slice H.As H.ns H.cs, .int .i64 H.next] 29)).cell? ⟨w.heap.size, 9, none⟩ = some (.int .i64 H.next) := by simp [go_sem]
  have bl0 : w.heap.size < (w.alloc (.cells #[.int .i64 H.rb, .int .i64 H.rs, .int .i64 H.rh, .int .i64 H.rt, .int .i64 H.pb, .int .i64 H.ps, .int .i64 H.pc, .slice H.Ap H.np H.cp, .slice H.As H.ns H.cs, .int .i64 H.next] 29)).heap.size := by go_size
  have r_a := r_a.below k0
  have p0 := k0.size
  generalize hW0 : (w.alloc (.cells #[.int .i64 H.rb, .int .i64 H.rs, .int .i64 H.rh, .int .i64 H.rt, .int .i64 H.pb, .int .i64 H.ps, .int .i64 H.pc, .slice H.Ap H.np H.cp, .slice H.As H.ns H.cs, .int .i64 H.next] 29)) = w0 at *
  clear hW0
  refine (hz _ k0).mono ?_
  rintro e w1 ⟨rfl, hb⟩
  have k1 : Below w.heap.size w w1 := ext_step k0 (by omega) hb
  have p1 := hb.size
  replace bx0_0 := ccell hb _ _ _ bx0_0
  replace bx0_1 := ccell hb _ _ _ bx0_1
  replace bx0_2 := ccell hb _ _ _ bx0_2
  replace bx0_3 := ccell hb _ _ _ bx0_3
  replace bx0_4 := ccell hb _ _ _ bx0_4
  replace bx0_5 := ccell hb _ _ _ bx0_5
  replace bx0_6 := ccell hb _ _ _ bx0_6
  replace bx0_7 := ccell hb _ _ _ bx0_7
  replace bx0_8 := ccell hb _ _ _ bx0_8
  replace bx0_9 := ccell hb _ _ _ bx0_9
  have bl0 := Nat.lt_of_lt_of_le bl0 hb.size
  replace r_a := r_a.below (hb.mono (by omega))
  clear hb
  go_wp2
  go_ret
  exact ⟨rfl, k1⟩
set_option maxRecDepth 100000 in
set_option maxHeartbeats 8000000 in
theorem txL_ok (H : TxH) (q : TxV) (w : World) (lf : Int) (hl0 : ¬ lf < 0) (hvq : H.v = q) (hq : q.sz ≤ 1048576) (h1 : I64 q.rh) (h2 : I64 q.rt) (r0 : TxR w w.heap.size H) (hz : ∀ u, Below w.heap.size w u → Calls Try.prog 5 #[.agg #[.int .i64 H.rb, .int .i64 H.rs, .int .i64 H.rh, .int .i64 H.rt, .int .i64 H.pb, .int .i64 H.ps, .int .i64 H.pc, .slice H.Ap H.np H.cp, .slice H.As H.ns H.cs, .int .i64 H.next], .int .i64 1048576] u fun e w' => e = .returned (.int .i64 lf) ∧ Below u.heap.size u w') :
    Calls Try.prog 3 #[.agg #[.int .i64 H.rb, .int .i64 H.rs, .int .i64 H.rh, .int .i64 H.rt, .int .i64 H.pb, .int .i64 H.ps, .int .i64 H.pc, .slice H.Ap H.np H.cp, .slice H.As H.ns H.cs, .int .i64 H.next]] w fun e w' => e = .returned (.bool true) ∧ Below w.heap.size w w' := by
  have hto := fun (u : World) r => toTx_c H q u hvq hq r
  have hspec := fun (H : TxH) (u : World) hv r => specTx_c H q u hv hq h1 h2 r
  have himpl := fun (H : TxH) (u : World) hv r => implTx_c H q u hv hq h1 h2 r
  have heq := fun (H H' : TxH) (u : World) hv hv' r' r => eqTx_c H H' q u hv hv' hq r r'
  generalize txB q = ok at *
  have r_a := r0
  go_enter Try.func3, Try.ntmps3
  go_wp2_with fail
  have k0 : Below w.heap.size w (w.alloc (.cells #[.int .i64 H.rb, .int .i64 H.rs, .int .i64 H.rh, .int .i64 H.rt, .int .i64 H.pb, .int .i64 H.ps, .int .i64 H.pc, .slice H.Ap H.np H.cp, .slice H.As H.ns H.cs, .int .i64 H.next] 29)) := by go_grown
  have bx0_0 : (w.alloc (.cells #[.int .i64 H.rb, .int .i64 H.rs, .int .i64 H.rh, .int .i64 H.rt, .int .i64 H.pb, .int .i64 H.ps, .int .i64 H.pc, .slice H.Ap H.np H.cp, .slice H.As H.ns H.cs, .int .i64 H.next] 29)).cell? ⟨w.heap.size, 0, none⟩ = some (.int .i64 H.rb) := by simp [go_sem]
  have bx0_1 : (w.alloc (.cells #[.int .i64 H.rb, .int .i64 H.rs, .int .i64 H.rh, .int .i64 H.rt, .int .i64 H.pb, .int .i64 H.ps, .int .i64 H.pc, .slice H.Ap H.np H.cp, .slice H.As H.ns H.cs, .int .i64 H.next] 29)).cell? ⟨w.heap.size, 1, none⟩ = some (.int .i64 H.rs) := by simp [go_sem]
  have bx0_2 : (w.alloc (.cells #[.int .i64 H.rb, .int .i64 H.rs, .int .i64 H.rh, .int .i64 H.rt, .int .i64 H.pb, .int .i64 H.ps, .int .i64 H.pc, .slice H.Ap H.np H.cp, .slice H.As H.ns H.cs, .int .i64 H.next] 29)).cell? ⟨w.heap.size, 2, none⟩ = some (.int .i64 H.rh) := by simp [go_sem]
  have bx0_3 : (w.alloc (.cells #[.int .i64 H.rb, .int .i64 H.rs, .int .i64 H.rh, .int .i64 H.rt, .int .i64 H.pb, .int .i64 H.ps, .int .i64 H.pc, .slice H.Ap H.np H.cp, .slice H.As H.ns H.cs, .int .i64 H.next] 29)).cell? ⟨w.heap.size, 3, none⟩ = some (.int .i64 H.rt) := by simp [go_sem]
  have bx0_4 : (w.alloc (.cells #[.int .i64 H.rb, .int .i64 H.rs, .int .i64 H.rh, .int .i64 H.rt, .int .i64 H.pb, .int .i64 H.ps, .int .i64 H.pc, .slice H.Ap H.np H.cp, .slice H.As H.ns H.cs, .int .i64 H.next] 29)).cell? ⟨w.heap.size, 4, none⟩ = some (.int .i64 H.pb) := by simp [go_sem]
  have bx0_5 : (w.alloc (.cells #[.int .i64 H.rb, .int .i64 H.rs, .int .i64 H.rh, .int .i64 H.rt, .int .i64 H.pb, .int .i64 H.ps, .int .i64 H.pc, .slice H.Ap H.np H.cp, .slice H.As H.ns H.cs, .int .i64 H.next] 29)).cell? ⟨w.heap.size, 5, none⟩ = some (.int .i64 H.ps) := by simp [go_sem]
  have bx0_6 : (w.alloc (.cells #[.int .i64 H.rb, .int .i64 H.rs, .int .i64 H.rh, .int .i64 H.rt, .int .i64 H.pb, .int .i64 H.ps, .int .i64 H.pc, .slice H.Ap H.np H.cp, .slice H.As H.ns H.cs, .int .i64 H.next] 29)).cell? ⟨w.heap.size, 6, none⟩ = some (.int .i64 H.pc) := by simp [go_sem]
  have bx0_7 : (w.alloc (.cells #[.int .i64 H.rb, .int .i64 H.rs, .int .i64 H.rh, .int .i64 H.rt, .int .i64 H.pb, .int .i64 H.ps, .int .i64 H.pc, .slice H.Ap H.np H.cp, .slice H.As H.ns H.cs, .int .i64 H.next] 29)).cell? ⟨w.heap.size, 7, none⟩ = some (.slice H.Ap H.np H.cp) := by simp [go_sem]
  have bx0_8 : (w.alloc (.cells #[.int .i64 H.rb, .int .i64 H.rs, .int .i64 H.rh, .int .i64 H.rt, .int .i64 H.pb, .int .i64 H.ps, .int .i64 H.pc, .slice H.Ap H.np H.cp, .slice H.As H.ns H.cs, .int .i64 H.next] 29)).cell? ⟨w.heap.size, 8, none⟩ = some (.slice H.As H.ns H.cs) := by simp [go_sem]
  have bx0_9 : (w.alloc (.cells #[.int .i64 H.rb, .int .i64 H.rs, .int .i64 H.rh, .int .i64 H.rt, .int .i64 H.pb, .int .i64 H.ps, .int .i64 H.pc, .slice H.Ap H.np H.cp, .slice H.As H.ns H.cs, .int .i64 H.next] 29)).cell? ⟨w.heap.size, 9, none⟩ = some (.int .i64 H.next) := by simp [go_sem]
  have bl0 : w.heap.size < (w.alloc (.cells #[.int .i64 H.rb, .int .i64 H.rs, .int .i64 H.rh, .int .i64 H.rt, .int .i64 H.pb, .int .i64 H.ps, .int .i64 H.pc, .slice H.Ap H.np H.cp, .slice H.As H.ns H.cs, .int .i64 H.next] 29)).heap.size := by go_size
  have r_a := r_a.below k0
  have p0 := k0.size
  generalize hW0 : (w.alloc (.cells #[.int .i64 H.rb, .int .i64 H.rs, .int .i64 H.rh, .int .i64 H.rt, .int .i64 H.pb, .int .i64 H.ps, .int .i64 H.pc, .slice H.Ap H.np H.cp, .slice H.As H.ns H.cs, .int .i64 H.next] 29)) = w0 at *
  clear hW0
  refine (hz _ k0).mono ?_
  rintro e w1 ⟨rfl, hb⟩
  have k1 : Below w.heap.size w w1 := ext_step k0 (by omega) hb
  have p1 := hb.size
  replace bx0_0 := ccell hb _ _ _ bx0_0
  replace bx0_1 := ccell hb _ _ _ bx0_1
  replace bx0_2 := ccell hb _ _ _ bx0_2
  replace bx0_3 := ccell hb _ _ _ bx0_3
  replace bx0_4 := ccell hb _ _ _ bx0_4
  replace bx0_5 := ccell hb _ _ _ bx0_5
  replace bx0_6 := ccell hb _ _ _ bx0_6
  replace bx0_7 := ccell hb _ _ _ bx0_7
  replace bx0_8 := ccell hb _ _ _ bx0_8
  replace bx0_9 := ccell hb _ _ _ bx0_9
  have bl0 := Nat.lt_of_lt_of_le bl0 hb.size
  replace r_a := r_a.below (hb.mono (by omega))
  clear hb
  go_wp2_with fail
  refine (hto _ (r_a.more (by omega))).mono ?_
  rintro e w2 ⟨v, rfl, ⟨H_t, rfl, hv_t, o_t⟩, hb⟩
  have k2 : Below w.heap.size w w2 := ext_step k1 (by omega) hb
  have p2 := hb.size
  replace bx0_0 := ccell hb _ _ _ bx0_0
  replace bx0_1 := ccell hb _ _ _ bx0_1
  replace bx0_2 := ccell hb _ _ _ bx0_2
  replace bx0_3 := ccell hb _ _ _ bx0_3
  replace bx0_4 := ccell hb _ _ _ bx0_4
  replace bx0_5 := ccell hb _ _ _ bx0_5
  replace bx0_6 := ccell hb _ _ _ bx0_6
  replace bx0_7 := ccell hb _ _ _ bx0_7
  replace bx0_8 := ccell hb _ _ _ bx0_8
  replace bx0_9 := ccell hb _ _ _ bx0_9
  have bl0 := Nat.lt_of_lt_of_le bl0 hb.size
  replace r_a := r_a.below (hb.mono (by omega))
  have r_t := TxO.rd o_t
  clear hb
  go_wp2_with fail
  refine (hspec H_t _ hv_t (r_t.more (by omega))).mono ?_
  rintro e w3 ⟨rfl, hb⟩
  have k3 : Below w.heap.size w w3 := ext_step k2 (by omega) hb
  have p3 := hb.size
  replace bx0_0 := ccell hb _ _ _ bx0_0
  replace bx0_1 := ccell hb _ _ _ bx0_1
  replace bx0_2 := ccell hb _ _ _ bx0_2
  replace bx0_3 := ccell hb _ _ _ bx0_3
  replace bx0_4 := ccell hb _ _ _ bx0_4
  replace bx0_5 := ccell hb _ _ _ bx0_5
  replace bx0_6 := ccell hb _ _ _ bx0_6
  replace bx0_7 := ccell hb _ _ _ bx0_7
  replace bx0_8 := ccell hb _ _ _ bx0_8
  replace bx0_9 := ccell hb _ _ _ bx0_9
  have bl0 := Nat.lt_of_lt_of_le bl0 hb.size
  replace r_a := r_a.below (hb.mono (by omega))
  replace r_t := r_t.below (hb.mono (by omega))
  clear hb
  clear r_t o_t
  go_wp2_with fail
  refine (hto _ (r_a.more (by omega))).mono ?_
  rintro e w4 ⟨v, rfl, ⟨H_x, rfl, hv_x, o_x⟩, hb⟩
  have k4 : Below w.heap.size w w4 := ext_step k3 (by omega) hb
  have p4 := hb.size
  replace bx0_0 := ccell hb _ _ _ bx0_0
  replace bx0_1 := ccell hb _ _ _ bx0_1
  replace bx0_2 := ccell hb _ _ _ bx0_2
  replace bx0_3 := ccell hb _ _ _ bx0_3
  replace bx0_4 := ccell hb _ _ _ bx0_4
  replace bx0_5 := ccell hb _ _ _ bx0_5
  replace bx0_6 := ccell hb _ _ _ bx0_6
  replace bx0_7 := ccell hb _ _ _ bx0_7
  replace bx0_8 := ccell hb _ _ _ bx0_8
  replace bx0_9 := ccell hb _ _ _ bx0_9
  have bl0 := Nat.lt_of_lt_of_le bl0 hb.size
  replace r_a := r_a.below (hb.mono (by omega))
  have r_x := TxO.rd o_x
  clear hb
  clear o_x
  go_wp2_with fail
  obtain ⟨w5, hW0⟩ : ∃ W, W = (w4.alloc (.cells #[.int .i64 H_x.rb, .int .i64 H_x.rs, .int .i64 H_x.rh, .int .i64 H_x.rt, .int .i64 H_x.pb, .int .i64 H_x.ps, .int .i64 H_x.pc, .slice H_x.Ap H_x.np H_x.cp, .slice H_x.As H_x.ns H_x.cs, .int .i64 H_x.next] 36)) := ⟨_, rfl⟩
  have hb : Below w4.heap.size w4 w5 := by rw [hW0]; go_grown
  have hkz : Blk w5 w4.heap.size 36 [.int .i64 H_x.rb, .int .i64 H_x.rs, .int .i64 H_x.rh, .int .i64 H_x.rt, .int .i64 H_x.pb, .int .i64 H_x.ps, .int .i64 H_x.pc, .slice H_x.Ap H_x.np H_x.cp, .slice H_x.As H_x.ns H_x.cs, .int .i64 H_x.next] := by rw [hW0]; exact Blk.new _ _ _
  rw [← hW0]
  clear hW0
  have bl1 := hkz.lt
  have k5 : Below w.heap.size w w5 := ext_step k4 (by omega) hb
  have p5 := hb.size
  replace bx0_0 := ccell hb _ _ _ bx0_0
  replace bx0_1 := ccell hb _ _ _ bx0_1
  replace bx0_2 := ccell hb _ _ _ bx0_2
  replace bx0_3 := ccell hb _ _ _ bx0_3
  replace bx0_4 := ccell hb _ _ _ bx0_4
  replace bx0_5 := ccell hb _ _ _ bx0_5
  replace bx0_6 := ccell hb _ _ _ bx0_6
  replace bx0_7 := ccell hb _ _ _ bx0_7
  replace bx0_8 := ccell hb _ _ _ bx0_8
  replace bx0_9 := ccell hb _ _ _ bx0_9
  have bl0 := Nat.lt_of_lt_of_le bl0 hb.size
  replace r_a := r_a.below (hb.mono (by omega))
  replace r_x := r_x.below (hb.mono (by omega))
  have bx1_0 := hkz.at_ 0 _ rfl
  have bx1_1 := hkz.at_ 1 _ rfl
  have bx1_2 := hkz.at_ 2 _ rfl
  have bx1_3 := hkz.at_ 3 _ rfl
  have bx1_4 := hkz.at_ 4 _ rfl
  have bx1_5 := hkz.at_ 5 _ rfl
  have bx1_6 := hkz.at_ 6 _ rfl
  have bx1_7 := hkz.at_ 7 _ rfl
  have bx1_8 := hkz.at_ 8 _ rfl
  have bx1_9 := hkz.at_ 9 _ rfl
  clear hb hkz
  refine (himpl H_x _ hv_x (r_x.more (by omega))).mono ?_
  rintro e w6 ⟨rfl, hb⟩
  have k6 : Below w.heap.size w w6 := ext_step k5 (by omega) hb
  have p6 := hb.size
  replace bx0_0 := ccell hb _ _ _ bx0_0
  replace bx0_1 := ccell hb _ _ _ bx0_1
  replace bx0_2 := ccell hb _ _ _ bx0_2
  replace bx0_3 := ccell hb _ _ _ bx0_3
  replace bx0_4 := ccell hb _ _ _ bx0_4
  replace bx0_5 := ccell hb _ _ _ bx0_5
  replace bx0_6 := ccell hb _ _ _ bx0_6
  replace bx0_7 := ccell hb _ _ _ bx0_7
  replace bx0_8 := ccell hb _ _ _ bx0_8
  replace bx0_9 := ccell hb _ _ _ bx0_9
  replace bx1_0 := ccell hb _ _ _ bx1_0
  replace bx1_1 := ccell hb _ _ _ bx1_1
  replace bx1_2 := ccell hb _ _ _ bx1_2
  replace bx1_3 := ccell hb _ _ _ bx1_3
  replace bx1_4 := ccell hb _ _ _ bx1_4
  replace bx1_5 := ccell hb _ _ _ bx1_5
  replace bx1_6 := ccell hb _ _ _ bx1_6
  replace bx1_7 := ccell hb _ _ _ bx1_7
  replace bx1_8 := ccell hb _ _ _ bx1_8
  replace bx1_9 := ccell hb _ _ _ bx1_9
  have bl0 := Nat.lt_of_lt_of_le bl0 hb.size
  have bl1 := Nat.lt_of_lt_of_le bl1 hb.size
  replace r_a := r_a.below (hb.mono (by omega))
  replace r_x := r_x.below (hb.mono (by omega))
  clear hb
  go_wp2_with fail
  have hBB : w6.heap.size ≤ w6.heap.size := by omega
  refine wp_region_slotsS (w6.heap.size) [(22, fun _ v => v = .agg #[.int .i64 H_x.rb, .int .i64 H_x.rs, .int .i64 H_x.rh, .int .i64 H_x.rt, .int .i64 H_x.pb, .int .i64 H_x.ps, .int .i64 H_x.pc, .slice H_x.Ap H_x.np H_x.cp, .slice H_x.As H_x.ns H_x.cs, .int .i64 H_x.next]), (23, fun _ v => v = .agg #[.int .i64 H.rb, .int .i64 H.rs, .int .i64 H.rh, .int .i64 H.rt, .int .i64 H.pb, .int .i64 H.ps, .int .i64 H.pc, .slice H.Ap H.np H.cp, .slice H.As H.ns H.cs, .int .i64 H.next]), (24, TxP w6.heap.size q), (25, fun _ v => v = .bool true), (26, fun _ v => v = .bool false)] [] (fun _ => True) (by kernel_rfl) hBB (by kernel_rfl) (by kernel_rfl) (by kernel_rfl) (by kernel_rfl) ?_ ?_ ?_ ?_ ?_ ?_ ?_
  · intro p hp
    simp only [List.mem_cons, List.not_mem_nil, or_false] at hp
    rcases hp with rfl | rfl | rfl | rfl | rfl
    all_goals (intro u u' v hb hv; first | exact hv | exact BoxP.keep hv hb | exact RowP.keep hv hb | exact TxP.keep hv hb)
  · intro s hs; cases hs
  · intro s hs; cases hs
  · exact trivial
  · intro u u' hb hj
    exact trivial
  · intro hGk hSk hJk
    refine allStep_cons (stepS_plain hGk hSk hBB hJk (by kernel_rfl) rfl ?_) ?_
    · intro a u hb hz hj hl hp K Q hK
      have e5 : a.tmps[5]?.getD undef = .pointer (some ⟨w4.heap.size, 0, none⟩) := gd (hl 5 (by kernel_rfl))
      have bx1_0 := ccell hb _ _ _ bx1_0
      have bx1_1 := ccell hb _ _ _ bx1_1
      have bx1_2 := ccell hb _ _ _ bx1_2
      have bx1_3 := ccell hb _ _ _ bx1_3
      have bx1_4 := ccell hb _ _ _ bx1_4
      have bx1_5 := ccell hb _ _ _ bx1_5
      have bx1_6 := ccell hb _ _ _ bx1_6
      have bx1_7 := ccell hb _ _ _ bx1_7
      have bx1_8 := ccell hb _ _ _ bx1_8
      have bx1_9 := ccell hb _ _ _ bx1_9
      go_simp
      exact hK _ _ (Below.refl _ _) (by intro d hd; cases hd; exact rfl)
    refine allStep_cons (stepS_plain hGk hSk hBB hJk (by kernel_rfl) rfl ?_) ?_
    · intro a u hb hz hj hl hp K Q hK
      have e1 : a.tmps[1]?.getD undef = .pointer (some ⟨w.heap.size, 0, none⟩) := gd (hl 1 (by kernel_rfl))
      have bx0_0 := ccell hb _ _ _ bx0_0
      have bx0_1 := ccell hb _ _ _ bx0_1
      have bx0_2 := ccell hb _ _ _ bx0_2
      have bx0_3 := ccell hb _ _ _ bx0_3
      have bx0_4 := ccell hb _ _ _ bx0_4
      have bx0_5 := ccell hb _ _ _ bx0_5
      have bx0_6 := ccell hb _ _ _ bx0_6
      have bx0_7 := ccell hb _ _ _ bx0_7
      have bx0_8 := ccell hb _ _ _ bx0_8
      have bx0_9 := ccell hb _ _ _ bx0_9
      go_simp
      exact hK _ _ (Below.refl _ _) (by intro d hd; cases hd; exact rfl)
    refine allStep_cons (stepS_plain hGk hSk hBB hJk (by kernel_rfl) rfl ?_) ?_
    · intro a u hb hz hj hl hp K Q hK
      have e23 : a.tmps[23]?.getD undef = .agg #[.int .i64 H.rb, .int .i64 H.rs, .int .i64 H.rh, .int .i64 H.rt, .int .i64 H.pb, .int .i64 H.ps, .int .i64 H.pc, .slice H.Ap H.np H.cp, .slice H.As H.ns H.cs, .int .i64 H.next] := gd (hl 23 (by kernel_rfl))
      go_simp
      refine (hto _ ((r_a.below (hb.mono (by omega))).more (by omega))).mono ?_
      rintro e u1 ⟨v, rfl, hS, hb1⟩
      exact hK _ _ hb1 (by intro d hd; cases hd; exact (hS.lower (by omega)))
    refine allStep_cons (stepS_plain hGk hSk hBB hJk (by kernel_rfl) rfl ?_) ?_
    · intro a u hb hz hj hl hp K Q hK
      have e22 : a.tmps[22]?.getD undef = .agg #[.int .i64 H_x.rb, .int .i64 H_x.rs, .int .i64 H_x.rh, .int .i64 H_x.rt, .int .i64 H_x.pb, .int .i64 H_x.ps, .int .i64 H_x.pc, .slice H_x.Ap H_x.np H_x.cp, .slice H_x.As H_x.ns H_x.cs, .int .i64 H_x.next] := gd (hl 22 (by kernel_rfl))
      obtain ⟨H2, ex24, hv2, ho2⟩ : (TxP w6.heap.size q) u (a.tmps.getD 24 undef) := hl 24 (by kernel_rfl)
      have e24 := gd ex24
      go_simp
      refine (heq H_x _ _ hv_x hv2 (TxO.rd ho2) ((r_x.below (hb.mono (by omega))).more (by omega))).mono ?_
      rintro e u1 ⟨rfl, hb1⟩
      exact hK _ _ hb1 (by intro d hd; cases hd; exact rfl)
    refine allStep_cons (stepS_plain hGk hSk hBB hJk (by kernel_rfl) rfl ?_) ?_
    · intro a u hb hz hj hl hp K Q hK
      have e25 : a.tmps[25]?.getD undef = .bool true := gd (hl 25 (by kernel_rfl))
      go_simp
      exact hK _ _ (Below.refl _ _) (by intro d hd; cases hd; exact rfl)
    exact allStep_nil
  intro xT w7 hb hz hj hL hSt
  have fx26 : xT 26 = .bool false := hL _ (List.mem_of_getElem? (i := 4) rfl)
  simp only [List.map, putAll, fx26]
  have k7 : Below w.heap.size w w7 := ext_step k6 (by omega) hb
  have p7 := hb.size
  replace bx0_0 := ccell hb _ _ _ bx0_0
  replace bx0_1 := ccell hb _ _ _ bx0_1
  replace bx0_2 := ccell hb _ _ _ bx0_2
  replace bx0_3 := ccell hb _ _ _ bx0_3
  replace bx0_4 := ccell hb _ _ _ bx0_4
  replace bx0_5 := ccell hb _ _ _ bx0_5
  replace bx0_6 := ccell hb _ _ _ bx0_6
  replace bx0_7 := ccell hb _ _ _ bx0_7
  replace bx0_8 := ccell hb _ _ _ bx0_8
  replace bx0_9 := ccell hb _ _ _ bx0_9
  replace bx1_0 := ccell hb _ _ _ bx1_0
  replace bx1_1 := ccell hb _ _ _ bx1_1
  replace bx1_2 := ccell hb _ _ _ bx1_2
  replace bx1_3 := ccell hb _ _ _ bx1_3
  replace bx1_4 := ccell hb _ _ _ bx1_4
  replace bx1_5 := ccell hb _ _ _ bx1_5
  replace bx1_6 := ccell hb _ _ _ bx1_6
  replace bx1_7 := ccell hb _ _ _ bx1_7
  replace bx1_8 := ccell hb _ _ _ bx1_8
  replace bx1_9 := ccell hb _ _ _ bx1_9
  have bl0 := Nat.lt_of_lt_of_le bl0 hb.size
  have bl1 := Nat.lt_of_lt_of_le bl1 hb.size
  replace r_a := r_a.below (hb.mono (by omega))
  replace r_x := r_x.below (hb.mono (by omega))
  clear hL hSt hb hz fx26
  go_wp2
  go_ret
  exact ⟨rfl, k7⟩
theorem fnExactTxOk_walk (rb rs rh rt pb ps pc : Int) (Ap : Option Addr) (np cp : Nat) (free : List Int) (As : Option Addr) (ns cs : Nat) (L : List SentH) (next : Int) (w : World) (f0 : I64 rb) (f1 : I64 rs) (f2 : I64 rh) (f3 : I64 rt) (f4 : I64 pb) (f5 : I64 ps) (f6 : I64 pc) (s1 : SlInt w Ap np cp free) (s2 : SlSent w As ns cs L) (f7 : I64 next) :
    Calls Try.prog 3 #[.agg #[.int .i64 rb, .int .i64 rs, .int .i64 rh, .int .i64 rt, .int .i64 pb, .int .i64 ps, .int .i64 pc, .slice Ap np cp, .slice As ns cs, .int .i64 next]] w fun e w' => e = .returned (.bool true) ∧ Below w.heap.size w w' := by
  obtain ⟨⟨hn1, hnc1, hc1, r1⟩, _⟩ := s1
  obtain ⟨⟨hn2, hnc2, hc2, r2⟩, hok⟩ := s2
  have hi : InRd w w.heap.size L := fun x hx => ⟨(hok x hx).2.2.1.1, (hok x hx).2.2.1.2.2.2⟩
  have hx63 : ∀ x ∈ L, x.n ≤ 9223372036854775807 := fun x hx => by
    have h1 := (hok x hx).2.2.1.2.1
    have h2 := (hok x hx).2.2.1.2.2.1
    omega
  have r0 : TxR w w.heap.size ⟨rb, rs, rh, rt, pb, ps, pc, Ap, np, cp, free, As, ns, cs, L, next⟩ := ⟨⟨hn1, r1⟩, ⟨hn2, r2⟩, hi⟩
  have hsz : ∀ u, Below w.heap.size w u → _ := fun u hu => szTxQueue_c rb rs rh rt pb ps pc Ap np cp As ns cs L next 1048576 u (by decide) (by decide) (by omega) hn2 (by omega) (r2.to hu) hx63
  by_cases g : (1048576 : Int) - np - ns - totB L < 0
  · rw [szI_neg g] at hsz
    exact txL_n ⟨rb, rs, rh, rt, pb, ps, pc, Ap, np, cp, free, As, ns, cs, L, next⟩ w r0 hsz
  · rw [szI_nn g] at hsz
    exact txL_ok ⟨rb, rs, rh, rt, pb, ps, pc, Ap, np, cp, free, As, ns, cs, L, next⟩ _ w _ g rfl (by rw [← r0.sz rfl]; show np + ns + totB L ≤ _; omega) f2 f3 r0 hsz
end Go.Proofs.Ytnkcomclhmlefaa
