/- Contracts: PutFlow: impl and spec. -/
import Derived.Test.YtkfekgmdjemkbaaStPut
import Derived.Deep.RegionWith
namespace Go.Proofs.Ytkfekgmdjemkbaa
set_option linter.unusedSimpArgs false
set_option linter.unusedVariables false
open Go.RowKit Go.ChangeShapes Go.WideShapes
theorem ret_int0 {a b : Int} (h : a = b) : Value.int .i64 a = Value.int .i64 b := by rw [h]
theorem frG_yes {l : List Slot} {f : Flow} {k : Nat} {x : Slot} {F : Int} (hx : slt l (way f k) = x) (hst : frG l f (8 - k) k = F) (hk : k < 8) (h : ¬ x.state = 1) : F = (way f k : Nat) := by
  rw [← hst, show 8 - k = (7 - k) + 1 by omega, frG, hx, if_neg h]
theorem frG_no {l : List Slot} {f : Flow} {k : Nat} {x : Slot} {F : Int} (hx : slt l (way f k) = x) (hst : frG l f (8 - k) k = F) (hk : k < 8) (h : x.state = 1) : frG l f (8 - (k + 1)) (k + 1) = F := by
  rw [← hst, show 8 - k = (7 - k) + 1 by omega, frG, hx, if_pos h, show 8 - (k + 1) = 7 - k by omega]
theorem frG_end {l : List Slot} {f : Flow} {F : Int} (hst : frG l f (8 - 8) 8 = F) : F = -1 := by rw [← hst]; rfl
theorem there7 {w : World} {g o : Nat} {t : TypeId} {cs : List Value} (h : Blk w g t cs) (ho : o + 7 ≤ cs.length) (f : Flow) (q : Int) : w.there g o (#[.int .i64 1, .int .i64 f.kind, .int .i64 f.sip, .int .i64 f.dip, .int .i64 f.sport, .int .i64 f.dport, .int .i64 q] : Array Value).size := by
  rw [show (#[.int .i64 1, .int .i64 f.kind, .int .i64 f.sip, .int .i64 f.dip, .int .i64 f.sport, .int .i64 f.dport, .int .i64 q] : Array Value).size = 7 from rfl]
  exact h.there_at o 7 ho
theorem infoZ7 : (Try.prog.info? 61).map (·.size) = some 7 := by kernel_rfl
theorem infoS7 (f : Flow) (q : Int) : (Try.prog.info? 61).map (·.size) = some (#[.int .i64 1, .int .i64 f.kind, .int .i64 f.sip, .int .i64 f.dip, .int .i64 f.sport, .int .i64 f.dport, .int .i64 q] : Array Value).size := by
  rw [show (#[.int .i64 1, .int .i64 f.kind, .int .i64 f.sip, .int .i64 f.dip, .int .i64 f.sport, .int .i64 f.dport, .int .i64 q] : Array Value).size = 7 from rfl]
  exact infoZ7
theorem one7 (f : Flow) (q : Int) : (#[.int .i64 1, .int .i64 f.kind, .int .i64 f.sip, .int .i64 f.dip, .int .i64 f.sport, .int .i64 f.dport, .int .i64 q] : Array Value).all (·.oneCell') = true := by simp [Value.oneCell']
set_option maxRecDepth 100000 in
set_option maxHeartbeats 4000000 in
theorem implPF_a {A : Option Addr} {n c : Nat} {l : List Slot} {f : Flow} {q : Int} (w : World) (hn : l.length = n) (hm : n ≤ 1048576) (r_a : Reads w w.heap.size 7 A n (l.flatMap Slot.cells)) (hcp : ∀ u : World, Reads u u.heap.size 7 A n (l.flatMap Slot.cells) → Calls Try.prog 54 #[.agg #[.slice A n c]] u fun e w' => ∃ A' c', e = .returned (.agg #[.slice A' n c']) ∧ w'.ownsRow u.heap.size 61 7 (.slice A' n c') n (l.flatMap Slot.cells) ∧ Below u.heap.size u w') (hok : ∀ u : World, Reads u u.heap.size 7 A n (l.flatMap Slot.cells) → Calls Try.prog 25 #[.agg #[.slice A n c]] u fun e w' => e = .returned (.bool false) ∧ Below u.heap.size u w') :
    Calls Try.prog 29 #[.agg #[.slice A n c], .agg #[.int .i64 f.kind, .int .i64 f.sip, .int .i64 f.dip, .int .i64 f.sport, .int .i64 f.dport], .int .i64 q] w fun e w' => ∃ A' c', e = .returned (.tuple #[.agg #[.slice A' n c'], .bool false]) ∧ w'.ownsRow w.heap.size 61 7 (.slice A' n c') n (l.flatMap Slot.cells) ∧ Below w.heap.size w w' := by
  go_enter Try.func29, Try.ntmps29
  go_wp2_with fail
  have k0 : Below w.heap.size w (((w.alloc (.cells #[.slice A n c] 27)).alloc (.cells #[.int .i64 f.kind, .int .i64 f.sip, .int .i64 f.dip, .int .i64 f.sport, .int .i64 f.dport] 44)).alloc (.cells #[.slice none 0 0] 27)) := by go_grown
  have bl0 : w.heap.size < (((w.alloc (.cells #[.slice A n c] 27)).alloc (.cells #[.int .i64 f.kind, .int .i64 f.sip, .int .i64 f.dip, .int .i64 f.sport, .int .i64 f.dport] 44)).alloc (.cells #[.slice none 0 0] 27)).heap.size := by go_size
  have hk0 : Blk (((w.alloc (.cells #[.slice A n c] 27)).alloc (.cells #[.int .i64 f.kind, .int .i64 f.sip, .int .i64 f.dip, .int .i64 f.sport, .int .i64 f.dport] 44)).alloc (.cells #[.slice none 0 0] 27)) (w.heap.size) 27 [.slice A n c] := by simpa using ((Blk.new w 27 [.slice A n c]).alloc (.cells #[.int .i64 f.kind, .int .i64 f.sip, .int .i64 f.dip, .int .i64 f.sport, .int .i64 f.dport] 44)).alloc (.cells #[.slice none 0 0] 27)
  have bl1 : w.heap.size + 1 < (((w.alloc (.cells #[.slice A n c] 27)).alloc (.cells #[.int .i64 f.kind, .int .i64 f.sip, .int .i64 f.dip, .int .i64 f.sport, .int .i64 f.dport] 44)).alloc (.cells #[.slice none 0 0] 27)).heap.size := by go_size
  have hk1 : Blk (((w.alloc (.cells #[.slice A n c] 27)).alloc (.cells #[.int .i64 f.kind, .int .i64 f.sip, .int .i64 f.dip, .int .i64 f.sport, .int .i64 f.dport] 44)).alloc (.cells #[.slice none 0 0] 27)) (w.heap.size + 1) 44 [.int .i64 f.kind, .int .i64 f.sip, .int .i64 f.dip, .int .i64 f.sport, .int .i64 f.dport] := by simpa using (Blk.new (w.alloc (.cells #[.slice A n c] 27)) 44 [.int .i64 f.kind, .int .i64 f.sip, .int .i64 f.dip, .int .i64 f.sport, .int .i64 f.dport]).alloc (.cells #[.slice none 0 0] 27)
  have bl2 : w.heap.size + 1 + 1 < (((w.alloc (.cells #[.slice A n c] 27)).alloc (.cells #[.int .i64 f.kind, .int .i64 f.sip, .int .i64 f.dip, .int .i64 f.sport, .int .i64 f.dport] 44)).alloc (.cells #[.slice none 0 0] 27)).heap.size := by go_size
  have hk2 : Blk (((w.alloc (.cells #[.slice A n c] 27)).alloc (.cells #[.int .i64 f.kind, .int .i64 f.sip, .int .i64 f.dip, .int .i64 f.sport, .int .i64 f.dport] 44)).alloc (.cells #[.slice none 0 0] 27)) (w.heap.size + 1 + 1) 27 [.slice none 0 0] := by simpa using Blk.new ((w.alloc (.cells #[.slice A n c] 27)).alloc (.cells #[.int .i64 f.kind, .int .i64 f.sip, .int .i64 f.dip, .int .i64 f.sport, .int .i64 f.dport] 44)) 27 [.slice none 0 0]
  have r_a := r_a.below k0
  have p0 := k0.size
  generalize hW0 : (((w.alloc (.cells #[.slice A n c] 27)).alloc (.cells #[.int .i64 f.kind, .int .i64 f.sip, .int .i64 f.dip, .int .i64 f.sport, .int .i64 f.dport] 44)).alloc (.cells #[.slice none 0 0] 27)) = w0 at *
  clear hW0
  refine (hcp _ (r_a.more (by omega))).mono ?_
  rintro e w1 ⟨A_o, c_o, rfl, o_o, hb⟩
  have k1 : Below w.heap.size w w1 := ext_step k0 (by omega) hb
  have p1 := hb.size
  replace hk0 := hk0.ext hb
  replace hk1 := hk1.ext hb
  replace hk2 := hk2.ext hb
  have bl0 := Nat.lt_of_lt_of_le bl0 hb.size
  have bl1 := Nat.lt_of_lt_of_le bl1 hb.size
  have bl2 := Nat.lt_of_lt_of_le bl2 hb.size
  replace r_a := r_a.below (hb.mono (by omega))
  have r_o := Reads.of_own o_o
  have u_o := fun k hk => (o_o.lt k hk).2
  clear hb
  have bx0_0 := hk0.at_ 0 _ rfl
  go_wp2_with fail
  obtain ⟨w2, hW0⟩ : ∃ W, W = (w1.alloc (.cells #[.slice A_o n c_o] 27)) := ⟨_, rfl⟩
  have hb : Below w1.heap.size w1 w2 := by rw [hW0]; go_grown
  have bl3 : w1.heap.size < w2.heap.size := by rw [hW0]; go_size
  have hk3 : Blk w2 (w1.heap.size) 27 [.slice A_o n c_o] := by rw [hW0]; exact Blk.new _ _ _
  have hzb3 : Hid (w2.heap.size = w1.heap.size + 1) := by rw [hW0]; simp [Hid]
  rw [← hW0]
  clear hW0
  have k2 := ext_step k1 (by omega) hb
  have p2 := hb.size
  replace hk0 := hk0.ext hb
  replace hk1 := hk1.ext hb
  replace hk2 := hk2.ext hb
  clear bx0_0
  have bl0 := Nat.lt_of_lt_of_le bl0 hb.size
  have bl1 := Nat.lt_of_lt_of_le bl1 hb.size
  have bl2 := Nat.lt_of_lt_of_le bl2 hb.size
  replace r_a := r_a.below (hb.mono (by omega))
  replace r_o := r_o.below (hb.mono (by omega))
  replace o_o := own_ext o_o hb
  clear hb
  refine (hok _ (r_a.more (by omega))).mono ?_
  rintro e w3 ⟨rfl, hb⟩
  have k3 : Below w.heap.size w w3 := ext_step k2 (by omega) hb
  have p3 := hb.size
  replace hk0 := hk0.ext hb
  replace hk1 := hk1.ext hb
  replace hk2 := hk2.ext hb
  replace hk3 := hk3.ext hb
  have bl0 := Nat.lt_of_lt_of_le bl0 hb.size
  have bl1 := Nat.lt_of_lt_of_le bl1 hb.size
  have bl2 := Nat.lt_of_lt_of_le bl2 hb.size
  have bl3 := Nat.lt_of_lt_of_le bl3 hb.size
  replace r_a := r_a.below (hb.mono (by omega))
  replace r_o := r_o.below (hb.mono (by omega))
  replace o_o := own_ext o_o hb
  clear hb
  have bx3_0 := hk3.at_ 0 _ rfl
  have bx2_0 := hk2.at_ 0 _ rfl
  have fz2_0 := hk2.frozen 0
  go_wp2_with fail
  have hko := hk2
  have hcc := ChgA.refl (w.heap.size + 1 + 1) w3
  obtain ⟨w4, hW0⟩ : ∃ W, W = w3.setCell ⟨w.heap.size + 1 + 1, 0, none⟩ (.slice A_o n c_o) := ⟨_, rfl⟩
  replace hcc : ChgA (w.heap.size + 1 + 1) w3 w4 := by rw [hW0]; exact hcc.set _ _
  replace hk2 : Blk w4 (w.heap.size + 1 + 1) 27 [.slice A_o n c_o] := by rw [hW0]; exact hk2.set_ 0 _
  rw [← hW0]
  clear hW0
  have hc := hcc
  replace o_o := own_chgA o_o hc (own_ty o_o hko (by decide))
  replace hk0 := hk0.chgA hc (by omega)
  replace hk1 := hk1.chgA hc (by omega)
  replace hk3 := hk3.chgA hc (by omega)
  have k4 := hc.below (by omega) k3
  have p4 := hc.size
  replace bl0 := Nat.lt_of_lt_of_le bl0 (Nat.le_of_eq p4.symm)
  replace bl1 := Nat.lt_of_lt_of_le bl1 (Nat.le_of_eq p4.symm)
  replace bl2 := Nat.lt_of_lt_of_le bl2 (Nat.le_of_eq p4.symm)
  replace bl3 := Nat.lt_of_lt_of_le bl3 (Nat.le_of_eq p4.symm)
  clear hc hcc
  clear bx3_0 bx2_0 fz2_0
  have hv := loadVar_blk (P := Try.prog) hk2 (n := 1) rfl (by simp [go_sem]) (by simp [go_sem])
  refine bodyPost_ret (v := .tuple #[.agg #[.slice A_o n c_o], .bool false]) (by simp [results, Try.results29, asAddr, Result.andThen, hv]) rfl ?_
  exact ⟨A_o, c_o, rfl, own_base o_o (by omega), k4⟩
set_option maxRecDepth 100000 in
set_option maxHeartbeats 4000000 in
theorem implPF_b {A : Option Addr} {n c : Nat} {l : List Slot} {f : Flow} {q : Int} (w : World) (hn : l.length = n) (hm : n ≤ 1048576) (r_a : Reads w w.heap.size 7 A n (l.flatMap Slot.cells)) (hcp : ∀ u : World, Reads u u.heap.size 7 A n (l.flatMap Slot.cells) → Calls Try.prog 54 #[.agg #[.slice A n c]] u fun e w' => ∃ A' c', e = .returned (.agg #[.slice A' n c']) ∧ w'.ownsRow u.heap.size 61 7 (.slice A' n c') n (l.flatMap Slot.cells) ∧ Below u.heap.size u w') (hok : ∀ u : World, Reads u u.heap.size 7 A n (l.flatMap Slot.cells) → Calls Try.prog 25 #[.agg #[.slice A n c]] u fun e w' => e = .returned (.bool true) ∧ Below u.heap.size u w') (hbt : ∀ u : World, Calls Try.prog 28 #[.int .i64 q, .int .i64 0, .int .i64 3] u fun e w' => e = .returned (.bool false) ∧ u = w') :
    Calls Try.prog 29 #[.agg #[.slice A n c], .agg #[.int .i64 f.kind, .int .i64 f.sip, .int .i64 f.dip, .int .i64 f.sport, .int .i64 f.dport], .int .i64 q] w fun e w' => ∃ A' c', e = .returned (.tuple #[.agg #[.slice A' n c'], .bool false]) ∧ w'.ownsRow w.heap.size 61 7 (.slice A' n c') n (l.flatMap Slot.cells) ∧ Below w.heap.size w w' := by
  go_enter Try.func29, Try.ntmps29
  go_wp2_with fail
  have k0 : Below w.heap.size w (((w.alloc (.cells #[.slice A n c] 27)).alloc (.cells #[.int .i64 f.kind, .int .i64 f.sip, .int .i64 f.dip, .int .i64 f.sport, .int .i64 f.dport] 44)).alloc (.cells #[.slice none 0 0] 27)) := by go_grown
  have bl0 : w.heap.size < (((w.alloc (.cells #[.slice A n c] 27)).alloc (.cells #[.int .i64 f.kind, .int .i64 f.sip, .int .i64 f.dip, .int .i64 f.sport, .int .i64 f.dport] 44)).alloc (.cells #[.slice none 0 0] 27)).heap.size := by go_size
  have hk0 : Blk (((w.alloc (.cells #[.slice A n c] 27)).alloc (.cells #[.int .i64 f.kind, .int .i64 f.sip, .int .i64 f.dip, .int .i64 f.sport, .int .i64 f.dport] 44)).alloc (.cells #[.slice none 0 0] 27)) (w.heap.size) 27 [.slice A n c] := by simpa using ((Blk.new w 27 [.slice A n c]).alloc (.cells #[.int .i64 f.kind, .int .i64 f.sip, .int .i64 f.dip, .int .i64 f.sport, .int .i64 f.dport] 44)).alloc (.cells #[.slice none 0 0] 27)
  have bl1 : w.heap.size + 1 < (((w.alloc (.cells #[.slice A n c] 27)).alloc (.cells #[.int .i64 f.kind, .int .i64 f.sip, .int .i64 f.dip, .int .i64 f.sport, .int .i64 f.dport] 44)).alloc (.cells #[.slice none 0 0] 27)).heap.size := by go_size
  have hk1 : Blk (((w.alloc (.cells #[.slice A n c] 27)).alloc (.cells #[.int .i64 f.kind, .int .i64 f.sip, .int .i64 f.dip, .int .i64 f.sport, .int .i64 f.dport] 44)).alloc (.cells #[.slice none 0 0] 27)) (w.heap.size + 1) 44 [.int .i64 f.kind, .int .i64 f.sip, .int .i64 f.dip, .int .i64 f.sport, .int .i64 f.dport] := by simpa using (Blk.new (w.alloc (.cells #[.slice A n c] 27)) 44 [.int .i64 f.kind, .int .i64 f.sip, .int .i64 f.dip, .int .i64 f.sport, .int .i64 f.dport]).alloc (.cells #[.slice none 0 0] 27)
  have bl2 : w.heap.size + 1 + 1 < (((w.alloc (.cells #[.slice A n c] 27)).alloc (.cells #[.int .i64 f.kind, .int .i64 f.sip, .int .i64 f.dip, .int .i64 f.sport, .int .i64 f.dport] 44)).alloc (.cells #[.slice none 0 0] 27)).heap.size := by go_size
  have hk2 : Blk (((w.alloc (.cells #[.slice A n c] 27)).alloc (.cells #[.int .i64 f.kind, .int .i64 f.sip, .int .i64 f.dip, .int .i64 f.sport, .int .i64 f.dport] 44)).alloc (.cells #[.slice none 0 0] 27)) (w.heap.size + 1 + 1) 27 [.slice none 0 0] := by simpa using Blk.new ((w.alloc (.cells #[.slice A n c] 27)).alloc (.cells #[.int .i64 f.kind, .int .i64 f.sip, .int .i64 f.dip, .int .i64 f.sport, .int .i64 f.dport] 44)) 27 [.slice none 0 0]
  have r_a := r_a.below k0
  have p0 := k0.size
  generalize hW0 : (((w.alloc (.cells #[.slice A n c] 27)).alloc (.cells #[.int .i64 f.kind, .int .i64 f.sip, .int .i64 f.dip, .int .i64 f.sport, .int .i64 f.dport] 44)).alloc (.cells #[.slice none 0 0] 27)) = w0 at *
  clear hW0
  refine (hcp _ (r_a.more (by omega))).mono ?_
  rintro e w1 ⟨A_o, c_o, rfl, o_o, hb⟩
  have k1 : Below w.heap.size w w1 := ext_step k0 (by omega) hb
  have p1 := hb.size
  replace hk0 := hk0.ext hb
  replace hk1 := hk1.ext hb
  replace hk2 := hk2.ext hb
  have bl0 := Nat.lt_of_lt_of_le bl0 hb.size
  have bl1 := Nat.lt_of_lt_of_le bl1 hb.size
  have bl2 := Nat.lt_of_lt_of_le bl2 hb.size
  replace r_a := r_a.below (hb.mono (by omega))
  have r_o := Reads.of_own o_o
  have u_o := fun k hk => (o_o.lt k hk).2
  clear hb
  have bx0_0 := hk0.at_ 0 _ rfl
  go_wp2_with fail
  obtain ⟨w2, hW0⟩ : ∃ W, W = (w1.alloc (.cells #[.slice A_o n c_o] 27)) := ⟨_, rfl⟩
  have hb : Below w1.heap.size w1 w2 := by rw [hW0]; go_grown
  have bl3 : w1.heap.size < w2.heap.size := by rw [hW0]; go_size
  have hk3 : Blk w2 (w1.heap.size) 27 [.slice A_o n c_o] := by rw [hW0]; exact Blk.new _ _ _
  have hzb3 : Hid (w2.heap.size = w1.heap.size + 1) := by rw [hW0]; simp [Hid]
  rw [← hW0]
  clear hW0
  have k2 := ext_step k1 (by omega) hb
  have p2 := hb.size
  replace hk0 := hk0.ext hb
  replace hk1 := hk1.ext hb
  replace hk2 := hk2.ext hb
  clear bx0_0
  have bl0 := Nat.lt_of_lt_of_le bl0 hb.size
  have bl1 := Nat.lt_of_lt_of_le bl1 hb.size
  have bl2 := Nat.lt_of_lt_of_le bl2 hb.size
  replace r_a := r_a.below (hb.mono (by omega))
  replace r_o := r_o.below (hb.mono (by omega))
  replace o_o := own_ext o_o hb
  clear hb
  refine (hok _ (r_a.more (by omega))).mono ?_
  rintro e w3 ⟨rfl, hb⟩
  have k3 : Below w.heap.size w w3 := ext_step k2 (by omega) hb
  have p3 := hb.size
  replace hk0 := hk0.ext hb
  replace hk1 := hk1.ext hb
  replace hk2 := hk2.ext hb
  replace hk3 := hk3.ext hb
  have bl0 := Nat.lt_of_lt_of_le bl0 hb.size
  have bl1 := Nat.lt_of_lt_of_le bl1 hb.size
  have bl2 := Nat.lt_of_lt_of_le bl2 hb.size
  have bl3 := Nat.lt_of_lt_of_le bl3 hb.size
  replace r_a := r_a.below (hb.mono (by omega))
  replace r_o := r_o.below (hb.mono (by omega))
  replace o_o := own_ext o_o hb
  clear hb
  go_wp2_with fail
  refine (hbt _).mono ?_
  rintro e w_ ⟨rfl, rfl⟩
  have bx3_0 := hk3.at_ 0 _ rfl
  have bx2_0 := hk2.at_ 0 _ rfl
  have fz2_0 := hk2.frozen 0
  go_wp2_with fail
  have hko := hk2
  have hcc := ChgA.refl (w.heap.size + 1 + 1) w3
  obtain ⟨w4, hW0⟩ : ∃ W, W = w3.setCell ⟨w.heap.size + 1 + 1, 0, none⟩ (.slice A_o n c_o) := ⟨_, rfl⟩
  replace hcc : ChgA (w.heap.size + 1 + 1) w3 w4 := by rw [hW0]; exact hcc.set _ _
  replace hk2 : Blk w4 (w.heap.size + 1 + 1) 27 [.slice A_o n c_o] := by rw [hW0]; exact hk2.set_ 0 _
  rw [← hW0]
  clear hW0
  have hc := hcc
  replace o_o := own_chgA o_o hc (own_ty o_o hko (by decide))
  replace hk0 := hk0.chgA hc (by omega)
  replace hk1 := hk1.chgA hc (by omega)
  replace hk3 := hk3.chgA hc (by omega)
  have k4 := hc.below (by omega) k3
  have p4 := hc.size
  replace bl0 := Nat.lt_of_lt_of_le bl0 (Nat.le_of_eq p4.symm)
  replace bl1 := Nat.lt_of_lt_of_le bl1 (Nat.le_of_eq p4.symm)
  replace bl2 := Nat.lt_of_lt_of_le bl2 (Nat.le_of_eq p4.symm)
  replace bl3 := Nat.lt_of_lt_of_le bl3 (Nat.le_of_eq p4.symm)
  clear hc hcc
  clear bx3_0 bx2_0 fz2_0
  have hv := loadVar_blk (P := Try.prog) hk2 (n := 1) rfl (by simp [go_sem]) (by simp [go_sem])
  refine bodyPost_ret (v := .tuple #[.agg #[.slice A_o n c_o], .bool false]) (by simp [results, Try.results29, asAddr, Result.andThen, hv]) rfl ?_
  exact ⟨A_o, c_o, rfl, own_base o_o (by omega), k4⟩
set_option maxRecDepth 100000 in
set_option maxHeartbeats 4000000 in
theorem specPF_a {A : Option Addr} {n c : Nat} {l : List Slot} {f : Flow} {q : Int} (w : World) (hn : l.length = n) (hm : n ≤ 1048576) (r_a : Reads w w.heap.size 7 A n (l.flatMap Slot.cells)) (hcp : ∀ u : World, Reads u u.heap.size 7 A n (l.flatMap Slot.cells) → Calls Try.prog 67 #[.agg #[.slice A n c]] u fun e w' => ∃ A' c', e = .returned (.agg #[.slice A' n c']) ∧ w'.ownsRow u.heap.size 61 7 (.slice A' n c') n (l.flatMap Slot.cells) ∧ Below u.heap.size u w') (hok : ∀ u : World, Reads u u.heap.size 7 A n (l.flatMap Slot.cells) → Calls Try.prog 58 #[.agg #[.slice A n c]] u fun e w' => e = .returned (.bool false) ∧ Below u.heap.size u w') :
    Calls Try.prog 41 #[.agg #[.slice A n c], .agg #[.int .i64 f.kind, .int .i64 f.sip, .int .i64 f.dip, .int .i64 f.sport, .int .i64 f.dport], .int .i64 q] w fun e w' => ∃ A' c', e = .returned (.tuple #[.agg #[.slice A' n c'], .bool false]) ∧ w'.ownsRow w.heap.size 61 7 (.slice A' n c') n (l.flatMap Slot.cells) ∧ Below w.heap.size w w' := by
  go_enter Try.func41, Try.ntmps41
  go_wp2_with fail
  have k0 : Below w.heap.size w (((w.alloc (.cells #[.slice A n c] 27)).alloc (.cells #[.int .i64 f.kind, .int .i64 f.sip, .int .i64 f.dip, .int .i64 f.sport, .int .i64 f.dport] 44)).alloc (.cells #[.slice none 0 0] 27)) := by go_grown
  have bl0 : w.heap.size < (((w.alloc (.cells #[.slice A n c] 27)).alloc (.cells #[.int .i64 f.kind, .int .i64 f.sip, .int .i64 f.dip, .int .i64 f.sport, .int .i64 f.dport] 44)).alloc (.cells #[.slice none 0 0] 27)).heap.size := by go_size
  have hk0 : Blk (((w.alloc (.cells #[.slice A n c] 27)).alloc (.cells #[.int .i64 f.kind, .int .i64 f.sip, .int .i64 f.dip, .int .i64 f.sport, .int .i64 f.dport] 44)).alloc (.cells #[.slice none 0 0] 27)) (w.heap.size) 27 [.slice A n c] := by simpa using ((Blk.new w 27 [.slice A n c]).alloc (.cells #[.int .i64 f.kind, .int .i64 f.sip, .int .i64 f.dip, .int .i64 f.sport, .int .i64 f.dport] 44)).alloc (.cells #[.slice none 0 0] 27)
  have bl1 : w.heap.size + 1 < (((w.alloc (.cells #[.slice A n c] 27)).alloc (.cells #[.int .i64 f.kind, .int .i64 f.sip, .int .i64 f.dip, .int .i64 f.sport, .int .i64 f.dport] 44)).alloc (.cells #[.slice none 0 0] 27)).heap.size := by go_size
  have hk1 : Blk (((w.alloc (.cells #[.slice A n c] 27)).alloc (.cells #[.int .i64 f.kind, .int .i64 f.sip, .int .i64 f.dip, .int .i64 f.sport, .int .i64 f.dport] 44)).alloc (.cells #[.slice none 0 0] 27)) (w.heap.size + 1) 44 [.int .i64 f.kind, .int .i64 f.sip, .int .i64 f.dip, .int .i64 f.sport, .int .i64 f.dport] := by simpa using (Blk.new (w.alloc (.cells #[.slice A n c] 27)) 44 [.int .i64 f.kind, .int .i64 f.sip, .int .i64 f.dip, .int .i64 f.sport, .int .i64 f.dport]).alloc (.cells #[.slice none 0 0] 27)
  have bl2 : w.heap.size + 1 + 1 < (((w.alloc (.cells #[.slice A n c] 27)).alloc (.cells #[.int .i64 f.kind, .int .i64 f.sip, .int .i64 f.dip, .int .i64 f.sport, .int .i64 f.dport] 44)).alloc (.cells #[.slice none 0 0] 27)).heap.size := by go_size
  have hk2 : Blk (((w.alloc (.cells #[.slice A n c] 27)).alloc (.cells #[.int .i64 f.kind, .int .i64 f.sip, .int .i64 f.dip, .int .i64 f.sport, .int .i64 f.dport] 44)).alloc (.cells #[.slice none 0 0] 27)) (w.heap.size + 1 + 1) 27 [.slice none 0 0] := by simpa using Blk.new ((w.alloc (.cells #[.slice A n c] 27)).alloc (.cells #[.int .i64 f.kind, .int .i64 f.sip, .int .i64 f.dip, .int .i64 f.sport, .int .i64 f.dport] 44)) 27 [.slice none 0 0]
  have r_a := r_a.below k0
  have p0 := k0.size
  generalize hW0 : (((w.alloc (.cells #[.slice A n c] 27)).alloc (.cells #[.int .i64 f.kind, .int .i64 f.sip, .int .i64 f.dip, .int .i64 f.sport, .int .i64 f.dport] 44)).alloc (.cells #[.slice none 0 0] 27)) = w0 at *
  clear hW0
  refine (hcp _ (r_a.more (by omega))).mono ?_
  rintro e w1 ⟨A_o, c_o, rfl, o_o, hb⟩
  have k1 : Below w.heap.size w w1 := ext_step k0 (by omega) hb
  have p1 := hb.size
  replace hk0 := hk0.ext hb
  replace hk1 := hk1.ext hb
  replace hk2 := hk2.ext hb
  have bl0 := Nat.lt_of_lt_of_le bl0 hb.size
  have bl1 := Nat.lt_of_lt_of_le bl1 hb.size
  have bl2 := Nat.lt_of_lt_of_le bl2 hb.size
  replace r_a := r_a.below (hb.mono (by omega))
  have r_o := Reads.of_own o_o
  have u_o := fun k hk => (o_o.lt k hk).2
  clear hb
  have bx0_0 := hk0.at_ 0 _ rfl
  go_wp2_with fail
  obtain ⟨w2, hW0⟩ : ∃ W, W = (w1.alloc (.cells #[.slice A_o n c_o] 27)) := ⟨_, rfl⟩
  have hb : Below w1.heap.size w1 w2 := by rw [hW0]; go_grown
  have bl3 : w1.heap.size < w2.heap.size := by rw [hW0]; go_size
  have hk3 : Blk w2 (w1.heap.size) 27 [.slice A_o n c_o] := by rw [hW0]; exact Blk.new _ _ _
  have hzb3 : Hid (w2.heap.size = w1.heap.size + 1) := by rw [hW0]; simp [Hid]
  rw [← hW0]
  clear hW0
  have k2 := ext_step k1 (by omega) hb
  have p2 := hb.size
  replace hk0 := hk0.ext hb
  replace hk1 := hk1.ext hb
  replace hk2 := hk2.ext hb
  clear bx0_0
  have bl0 := Nat.lt_of_lt_of_le bl0 hb.size
  have bl1 := Nat.lt_of_lt_of_le bl1 hb.size
  have bl2 := Nat.lt_of_lt_of_le bl2 hb.size
  replace r_a := r_a.below (hb.mono (by omega))
  replace r_o := r_o.below (hb.mono (by omega))
  replace o_o := own_ext o_o hb
  clear hb
  refine (hok _ (r_a.more (by omega))).mono ?_
  rintro e w3 ⟨rfl, hb⟩
  have k3 : Below w.heap.size w w3 := ext_step k2 (by omega) hb
  have p3 := hb.size
  replace hk0 := hk0.ext hb
  replace hk1 := hk1.ext hb
  replace hk2 := hk2.ext hb
  replace hk3 := hk3.ext hb
  have bl0 := Nat.lt_of_lt_of_le bl0 hb.size
  have bl1 := Nat.lt_of_lt_of_le bl1 hb.size
  have bl2 := Nat.lt_of_lt_of_le bl2 hb.size
  have bl3 := Nat.lt_of_lt_of_le bl3 hb.size
  replace r_a := r_a.below (hb.mono (by omega))
  replace r_o := r_o.below (hb.mono (by omega))
  replace o_o := own_ext o_o hb
  clear hb
  have bx3_0 := hk3.at_ 0 _ rfl
  have bx2_0 := hk2.at_ 0 _ rfl
  have fz2_0 := hk2.frozen 0
  go_wp2_with fail
  have hko := hk2
  have hcc := ChgA.refl (w.heap.size + 1 + 1) w3
  obtain ⟨w4, hW0⟩ : ∃ W, W = w3.setCell ⟨w.heap.size + 1 + 1, 0, none⟩ (.slice A_o n c_o) := ⟨_, rfl⟩
  replace hcc : ChgA (w.heap.size + 1 + 1) w3 w4 := by rw [hW0]; exact hcc.set _ _
  replace hk2 : Blk w4 (w.heap.size + 1 + 1) 27 [.slice A_o n c_o] := by rw [hW0]; exact hk2.set_ 0 _
  rw [← hW0]
  clear hW0
  have hc := hcc
  replace o_o := own_chgA o_o hc (own_ty o_o hko (by decide))
  replace hk0 := hk0.chgA hc (by omega)
  replace hk1 := hk1.chgA hc (by omega)
  replace hk3 := hk3.chgA hc (by omega)
  have k4 := hc.below (by omega) k3
  have p4 := hc.size
  replace bl0 := Nat.lt_of_lt_of_le bl0 (Nat.le_of_eq p4.symm)
  replace bl1 := Nat.lt_of_lt_of_le bl1 (Nat.le_of_eq p4.symm)
  replace bl2 := Nat.lt_of_lt_of_le bl2 (Nat.le_of_eq p4.symm)
  replace bl3 := Nat.lt_of_lt_of_le bl3 (Nat.le_of_eq p4.symm)
  clear hc hcc
  clear bx3_0 bx2_0 fz2_0
  have hv := loadVar_blk (P := Try.prog) hk2 (n := 1) rfl (by simp [go_sem]) (by simp [go_sem])
  refine bodyPost_ret (v := .tuple #[.agg #[.slice A_o n c_o], .bool false]) (by simp [results, Try.results41, asAddr, Result.andThen, hv]) rfl ?_
  exact ⟨A_o, c_o, rfl, own_base o_o (by omega), k4⟩
set_option maxRecDepth 100000 in
set_option maxHeartbeats 4000000 in
theorem specPF_b {A : Option Addr} {n c : Nat} {l : List Slot} {f : Flow} {q : Int} (w : World) (hn : l.length = n) (hm : n ≤ 1048576) (r_a : Reads w w.heap.size 7 A n (l.flatMap Slot.cells)) (hcp : ∀ u : World, Reads u u.heap.size 7 A n (l.flatMap Slot.cells) → Calls Try.prog 67 #[.agg #[.slice A n c]] u fun e w' => ∃ A' c', e = .returned (.agg #[.slice A' n c']) ∧ w'.ownsRow u.heap.size 61 7 (.slice A' n c') n (l.flatMap Slot.cells) ∧ Below u.heap.size u w') (hok : ∀ u : World, Reads u u.heap.size 7 A n (l.flatMap Slot.cells) → Calls Try.prog 58 #[.agg #[.slice A n c]] u fun e w' => e = .returned (.bool true) ∧ Below u.heap.size u w') (hbt : ∀ u : World, Calls Try.prog 60 #[.int .i64 q, .int .i64 0, .int .i64 3] u fun e w' => e = .returned (.bool false) ∧ u = w') :
    Calls Try.prog 41 #[.agg #[.slice A n c], .agg #[.int .i64 f.kind, .int .i64 f.sip, .int .i64 f.dip, .int .i64 f.sport, .int .i64 f.dport], .int .i64 q] w fun e w' => ∃ A' c', e = .returned (.tuple #[.agg #[.slice A' n c'], .bool false]) ∧ w'.ownsRow w.heap.size 61 7 (.slice A' n c') n (l.flatMap Slot.cells) ∧ Below w.heap.size w w' := by
  go_enter Try.func41, Try.ntmps41
  go_wp2_with fail
  have k0 : Below w.heap.size w (((w.alloc (.cells #[.slice A n c] 27)).alloc (.cells #[.int .i64 f.kind, .int .i64 f.sip, .int .i64 f.dip, .int .i64 f.sport, .int .i64 f.dport] 44)).alloc (.cells #[.slice none 0 0] 27)) := by go_grown
  have bl0 : w.heap.size < (((w.alloc (.cells #[.slice A n c] 27)).alloc (.cells #[.int .i64 f.kind, .int .i64 f.sip, .int .i64 f.dip, .int .i64 f.sport, .int .i64 f.dport] 44)).alloc (.cells #[.slice none 0 0] 27)).heap.size := by go_size
  have hk0 : Blk (((w.alloc (.cells #[.slice A n c] 27)).alloc (.cells #[.int .i64 f.kind, .int .i64 f.sip, .int .i64 f.dip, .int .i64 f.sport, .int .i64 f.dport] 44)).alloc (.cells #[.slice none 0 0] 27)) (w.heap.size) 27 [.slice A n c] := by simpa using ((Blk.new w 27 [.slice A n c]).alloc (.cells #[.int .i64 f.kind, .int .i64 f.sip, .int .i64 f.dip, .int .i64 f.sport, .int .i64 f.dport] 44)).alloc (.cells #[.slice none 0 0] 27)
  have bl1 : w.heap.size + 1 < (((w.alloc (.cells #[.slice A n c] 27)).alloc (.cells #[.int .i64 f.kind, .int .i64 f.sip, .int .i64 f.dip, .int .i64 f.sport, .int .i64 f.dport] 44)).alloc (.cells #[.slice none 0 0] 27)).heap.size := by go_size
  have hk1 : Blk (((w.alloc (.cells #[.slice A n c] 27)).alloc (.cells #[.int .i64 f.kind, .int .i64 f.sip, .int .i64 f.dip, .int .i64 f.sport, .int .i64 f.dport] 44)).alloc (.cells #[.slice none 0 0] 27)) (w.heap.size + 1) 44 [.int .i64 f.kind, .int .i64 f.sip, .int .i64 f.dip, .int .i64 f.sport, .int .i64 f.dport] := by simpa using (Blk.new (w.alloc (.cells #[.slice A n c] 27)) 44 [.int .i64 f.kind, .int .i64 f.sip, .int .i64 f.dip, .int .i64 f.sport, .int .i64 f.dport]).alloc (.cells #[.slice none 0 0] 27)
  have bl2 : w.heap.size + 1 + 1 < (((w.alloc (.cells #[.slice A n c] 27)).alloc (.cells #[.int .i64 f.kind, .int .i64 f.sip, .int .i64 f.dip, .int .i64 f.sport, .int .i64 f.dport] 44)).alloc (.cells #[.slice none 0 0] 27)).heap.size := by go_size
  have hk2 : Blk (((w.alloc (.cells #[.slice A n c] 27)).alloc (.cells #[.int .i64 f.kind, .int .i64 f.sip, .int .i64 f.dip, .int .i64 f.sport, .int .i64 f.dport] 44)).alloc (.cells #[.slice none 0 0] 27)) (w.heap.size + 1 + 1) 27 [.slice none 0 0] := by simpa using Blk.new ((w.alloc (.cells #[.slice A n c] 27)).alloc (.cells #[.int .i64 f.kind, .int .i64 f.sip, .int .i64 f.dip, .int .i64 f.sport, .int .i64 f.dport] 44)) 27 [.slice none 0 0]
  have r_a := r_a.below k0
  have p0 := k0.size
  generalize hW0 : (((w.alloc (.cells #[.slice A n c] 27)).alloc (.cells #[.int .i64 f.kind, .int .i64 f.sip, .int .i64 f.dip, .int .i64 f.sport, .int .i64 f.dport] 44)).alloc (.cells #[.slice none 0 0] 27)) = w0 at *
  clear hW0
  refine (hcp _ (r_a.more (by omega))).mono ?_
  rintro e w1 ⟨A_o, c_o, rfl, o_o, hb⟩
  have k1 : Below w.heap.size w w1 := ext_step k0 (by omega) hb
  have p1 := hb.size
  replace hk0 := hk0.ext hb
  replace hk1 := hk1.ext hb
  replace hk2 := hk2.ext hb
  have bl0 := Nat.lt_of_lt_of_le bl0 hb.size
  have bl1 := Nat.lt_of_lt_of_le bl1 hb.size
  have bl2 := Nat.lt_of_lt_of_le bl2 hb.size
  replace r_a := r_a.below (hb.mono (by omega))
  have r_o := Reads.of_own o_o
  have u_o := fun k hk => (o_o.lt k hk).2
  clear hb
  have bx0_0 := hk0.at_ 0 _ rfl
  go_wp2_with fail
  obtain ⟨w2, hW0⟩ : ∃ W, W = (w1.alloc (.cells #[.slice A_o n c_o] 27)) := ⟨_, rfl⟩
  have hb : Below w1.heap.size w1 w2 := by rw [hW0]; go_grown
  have bl3 : w1.heap.size < w2.heap.size := by rw [hW0]; go_size
  have hk3 : Blk w2 (w1.heap.size) 27 [.slice A_o n c_o] := by rw [hW0]; exact Blk.new _ _ _
  have hzb3 : Hid (w2.heap.size = w1.heap.size + 1) := by rw [hW0]; simp [Hid]
  rw [← hW0]
  clear hW0
  have k2 := ext_step k1 (by omega) hb
  have p2 := hb.size
  replace hk0 := hk0.ext hb
  replace hk1 := hk1.ext hb
  replace hk2 := hk2.ext hb
  clear bx0_0
  have bl0 := Nat.lt_of_lt_of_le bl0 hb.size
  have bl1 := Nat.lt_of_lt_of_le bl1 hb.size
  have bl2 := Nat.lt_of_lt_of_le bl2 hb.size
  replace r_a := r_a.below (hb.mono (by omega))
  replace r_o := r_o.below (hb.mono (by omega))
  replace o_o := own_ext o_o hb
  clear hb
  refine (hok _ (r_a.more (by omega))).mono ?_
  rintro e w3 ⟨rfl, hb⟩
  have k3 : Below w.heap.size w w3 := ext_step k2 (by omega) hb
  have p3 := hb.size
  replace hk0 := hk0.ext hb
  replace hk1 := hk1.ext hb
  replace hk2 := hk2.ext hb
  replace hk3 := hk3.ext hb
  have bl0 := Nat.lt_of_lt_of_le bl0 hb.size
  have bl1 := Nat.lt_of_lt_of_le bl1 hb.size
  have bl2 := Nat.lt_of_lt_of_le bl2 hb.size
  have bl3 := Nat.lt_of_lt_of_le bl3 hb.size
  replace r_a := r_a.below (hb.mono (by omega))
  replace r_o := r_o.below (hb.mono (by omega))
  replace o_o := own_ext o_o hb
  clear hb
  go_wp2_with fail
  refine (hbt _).mono ?_
  rintro e w_ ⟨rfl, rfl⟩
  have bx3_0 := hk3.at_ 0 _ rfl
  have bx2_0 := hk2.at_ 0 _ rfl
  have fz2_0 := hk2.frozen 0
  go_wp2_with fail
  have hko := hk2
  have hcc := ChgA.refl (w.heap.size + 1 + 1) w3
  obtain ⟨w4, hW0⟩ : ∃ W, W = w3.setCell ⟨w.heap.size + 1 + 1, 0, none⟩ (.slice A_o n c_o) := ⟨_, rfl⟩
  replace hcc : ChgA (w.heap.size + 1 + 1) w3 w4 := by rw [hW0]; exact hcc.set _ _
  replace hk2 : Blk w4 (w.heap.size + 1 + 1) 27 [.slice A_o n c_o] := by rw [hW0]; exact hk2.set_ 0 _
  rw [← hW0]
  clear hW0
  have hc := hcc
  replace o_o := own_chgA o_o hc (own_ty o_o hko (by decide))
  replace hk0 := hk0.chgA hc (by omega)
  replace hk1 := hk1.chgA hc (by omega)
  replace hk3 := hk3.chgA hc (by omega)
  have k4 := hc.below (by omega) k3
  have p4 := hc.size
  replace bl0 := Nat.lt_of_lt_of_le bl0 (Nat.le_of_eq p4.symm)
  replace bl1 := Nat.lt_of_lt_of_le bl1 (Nat.le_of_eq p4.symm)
  replace bl2 := Nat.lt_of_lt_of_le bl2 (Nat.le_of_eq p4.symm)
  replace bl3 := Nat.lt_of_lt_of_le bl3 (Nat.le_of_eq p4.symm)
  clear hc hcc
  clear bx3_0 bx2_0 fz2_0
  have hv := loadVar_blk (P := Try.prog) hk2 (n := 1) rfl (by simp [go_sem]) (by simp [go_sem])
  refine bodyPost_ret (v := .tuple #[.agg #[.slice A_o n c_o], .bool false]) (by simp [results, Try.results41, asAddr, Result.andThen, hv]) rfl ?_
  exact ⟨A_o, c_o, rfl, own_base o_o (by omega), k4⟩
set_option maxRecDepth 100000 in
set_option maxHeartbeats 4000000 in
theorem implPF_c {A : Option Addr} {c : Nat} {l : List Slot} {f : Flow} {q : Int} (w : World) (hn : l.length = (8 : Nat)) (hm : (8 : Nat) ≤ 1048576) (r_a : Reads w w.heap.size 7 A (8 : Nat) (l.flatMap Slot.cells)) (hcp : ∀ u : World, Reads u u.heap.size 7 A (8 : Nat) (l.flatMap Slot.cells) → Calls Try.prog 54 #[.agg #[.slice A (8 : Nat) c]] u fun e w' => ∃ A' c', e = .returned (.agg #[.slice A' (8 : Nat) c']) ∧ w'.ownsRow u.heap.size 61 7 (.slice A' (8 : Nat) c') (8 : Nat) (l.flatMap Slot.cells) ∧ Below u.heap.size u w') (hok : ∀ u : World, Reads u u.heap.size 7 A (8 : Nat) (l.flatMap Slot.cells) → Calls Try.prog 25 #[.agg #[.slice A (8 : Nat) c]] u fun e w' => e = .returned (.bool true) ∧ Below u.heap.size u w') (hbt : ∀ u : World, Calls Try.prog 28 #[.int .i64 q, .int .i64 0, .int .i64 3] u fun e w' => e = .returned (.bool true) ∧ u = w') {i : Nat} {x : Slot} (hi : i < 8) (hx : l[i]? = some x) (hxc : (slotF f q).cells = x.cells.set 6 (.int .i64 q)) (hso : ∀ u : World, Reads u u.heap.size 7 A (8 : Nat) (l.flatMap Slot.cells) → Calls Try.prog 49 #[.agg #[.slice A (8 : Nat) c], .agg #[.int .i64 f.kind, .int .i64 f.sip, .int .i64 f.dip, .int .i64 f.sport, .int .i64 f.dport]] u fun e w' => e = .returned (.int .i64 (i : Nat)) ∧ Below u.heap.size u w') :
    Calls Try.prog 29 #[.agg #[.slice A (8 : Nat) c], .agg #[.int .i64 f.kind, .int .i64 f.sip, .int .i64 f.dip, .int .i64 f.sport, .int .i64 f.dport], .int .i64 q] w fun e w' => ∃ A' c', e = .returned (.tuple #[.agg #[.slice A' (8 : Nat) c'], .bool true]) ∧ w'.ownsRow w.heap.size 61 7 (.slice A' (8 : Nat) c') (8 : Nat) ((l.set i (slotF f q)).flatMap Slot.cells) ∧ Below w.heap.size w w' := by
  go_enter Try.func29, Try.ntmps29
  go_wp2_with fail
  have k0 : Below w.heap.size w (((w.alloc (.cells #[.slice A (8 : Nat) c] 27)).alloc (.cells #[.int .i64 f.kind, .int .i64 f.sip, .int .i64 f.dip, .int .i64 f.sport, .int .i64 f.dport] 44)).alloc (.cells #[.slice none 0 0] 27)) := by go_grown
  have bl0 : w.heap.size < (((w.alloc (.cells #[.slice A (8 : Nat) c] 27)).alloc (.cells #[.int .i64 f.kind, .int .i64 f.sip, .int .i64 f.dip, .int .i64 f.sport, .int .i64 f.dport] 44)).alloc (.cells #[.slice none 0 0] 27)).heap.size := by go_size
  have hk0 : Blk (((w.alloc (.cells #[.slice A (8 : Nat) c] 27)).alloc (.cells #[.int .i64 f.kind, .int .i64 f.sip, .int .i64 f.dip, .int .i64 f.sport, .int .i64 f.dport] 44)).alloc (.cells #[.slice none 0 0] 27)) (w.heap.size) 27 [.slice A (8 : Nat) c] := by simpa using ((Blk.new w 27 [.slice A (8 : Nat) c]).alloc (.cells #[.int .i64 f.kind, .int .i64 f.sip, .int .i64 f.dip, .int .i64 f.sport, .int .i64 f.dport] 44)).alloc (.cells #[.slice none 0 0] 27)
  have bl1 : w.heap.size + 1 < (((w.alloc (.cells #[.slice A (8 : Nat) c] 27)).alloc (.cells #[.int .i64 f.kind, .int .i64 f.sip, .int .i64 f.dip, .int .i64 f.sport, .int .i64 f.dport] 44)).alloc (.cells #[.slice none 0 0] 27)).heap.size := by go_size
  have hk1 : Blk (((w.alloc (.cells #[.slice A (8 : Nat) c] 27)).alloc (.cells #[.int .i64 f.kind, .int .i64 f.sip, .int .i64 f.dip, .int .i64 f.sport, .int .i64 f.dport] 44)).alloc (.cells #[.slice none 0 0] 27)) (w.heap.size + 1) 44 [.int .i64 f.kind, .int .i64 f.sip, .int .i64 f.dip, .int .i64 f.sport, .int .i64 f.dport] := by simpa using (Blk.new (w.alloc (.cells #[.slice A (8 : Nat) c] 27)) 44 [.int .i64 f.kind, .int .i64 f.sip, .int .i64 f.dip, .int .i64 f.sport, .int .i64 f.dport]).alloc (.cells #[.slice none 0 0] 27)
  have bl2 : w.heap.size + 1 + 1 < (((w.alloc (.cells #[.slice A (8 : Nat) c] 27)).alloc (.cells #[.int .i64 f.kind, .int .i64 f.sip, .int .i64 f.dip, .int .i64 f.sport, .int .i64 f.dport] 44)).alloc (.cells #[.slice none 0 0] 27)).heap.size := by go_size
  have hk2 : Blk (((w.alloc (.cells #[.slice A (8 : Nat) c] 27)).alloc (.cells #[.int .i64 f.kind, .int .i64 f.sip, .int .i64 f.dip, .int .i64 f.sport, .int .i64 f.dport] 44)).alloc (.cells #[.slice none 0 0] 27)) (w.heap.size + 1 + 1) 27 [.slice none 0 0] := by simpa using Blk.new ((w.alloc (.cells #[.slice A (8 : Nat) c] 27)).alloc (.cells #[.int .i64 f.kind, .int .i64 f.sip, .int .i64 f.dip, .int .i64 f.sport, .int .i64 f.dport] 44)) 27 [.slice none 0 0]
  have r_a := r_a.below k0
  have p0 := k0.size
  generalize hW0 : (((w.alloc (.cells #[.slice A (8 : Nat) c] 27)).alloc (.cells #[.int .i64 f.kind, .int .i64 f.sip, .int .i64 f.dip, .int .i64 f.sport, .int .i64 f.dport] 44)).alloc (.cells #[.slice none 0 0] 27)) = w0 at *
  clear hW0
  refine (hcp _ (r_a.more (by omega))).mono ?_
  rintro e w1 ⟨A_o, c_o, rfl, o_o, hb⟩
  have k1 : Below w.heap.size w w1 := ext_step k0 (by omega) hb
  have p1 := hb.size
  replace hk0 := hk0.ext hb
  replace hk1 := hk1.ext hb
  replace hk2 := hk2.ext hb
  have bl0 := Nat.lt_of_lt_of_le bl0 hb.size
  have bl1 := Nat.lt_of_lt_of_le bl1 hb.size
  have bl2 := Nat.lt_of_lt_of_le bl2 hb.size
  replace r_a := r_a.below (hb.mono (by omega))
  have r_o := Reads.of_own o_o
  have u_o := fun k hk => (o_o.lt k hk).2
  clear hb
  have bx0_0 := hk0.at_ 0 _ rfl
  go_wp2_with fail
  obtain ⟨w2, hW0⟩ : ∃ W, W = (w1.alloc (.cells #[.slice A_o (8 : Nat) c_o] 27)) := ⟨_, rfl⟩
  have hb : Below w1.heap.size w1 w2 := by rw [hW0]; go_grown
  have bl3 : w1.heap.size < w2.heap.size := by rw [hW0]; go_size
  have hk3 : Blk w2 (w1.heap.size) 27 [.slice A_o (8 : Nat) c_o] := by rw [hW0]; exact Blk.new _ _ _
  have hzb3 : Hid (w2.heap.size = w1.heap.size + 1) := by rw [hW0]; simp [Hid]
  rw [← hW0]
  clear hW0
  have k2 := ext_step k1 (by omega) hb
  have p2 := hb.size
  replace hk0 := hk0.ext hb
  replace hk1 := hk1.ext hb
  replace hk2 := hk2.ext hb
  clear bx0_0
  have bl0 := Nat.lt_of_lt_of_le bl0 hb.size
  have bl1 := Nat.lt_of_lt_of_le bl1 hb.size
  have bl2 := Nat.lt_of_lt_of_le bl2 hb.size
  replace r_a := r_a.below (hb.mono (by omega))
  replace r_o := r_o.below (hb.mono (by omega))
  replace o_o := own_ext o_o hb
  clear hb
  refine (hok _ (r_a.more (by omega))).mono ?_
  rintro e w3 ⟨rfl, hb⟩
  have k3 : Below w.heap.size w w3 := ext_step k2 (by omega) hb
  have p3 := hb.size
  replace hk0 := hk0.ext hb
  replace hk1 := hk1.ext hb
  replace hk2 := hk2.ext hb
  replace hk3 := hk3.ext hb
  have bl0 := Nat.lt_of_lt_of_le bl0 hb.size
  have bl1 := Nat.lt_of_lt_of_le bl1 hb.size
  have bl2 := Nat.lt_of_lt_of_le bl2 hb.size
  have bl3 := Nat.lt_of_lt_of_le bl3 hb.size
  replace r_a := r_a.below (hb.mono (by omega))
  replace r_o := r_o.below (hb.mono (by omega))
  replace o_o := own_ext o_o hb
  clear hb
  go_wp2_with fail
  refine (hbt _).mono ?_
  rintro e w_ ⟨rfl, rfl⟩
  have bx0_0 := hk0.at_ 0 _ rfl
  have bx1_0 := hk1.at_ 0 _ rfl
  have bx1_1 := hk1.at_ 1 _ rfl
  have bx1_2 := hk1.at_ 2 _ rfl
  have bx1_3 := hk1.at_ 3 _ rfl
  have bx1_4 := hk1.at_ 4 _ rfl
  go_wp2_with fail
  refine (hso _ (r_a.more (by omega))).mono ?_
  rintro e w4 ⟨rfl, hb⟩
  have k4 : Below w.heap.size w w4 := ext_step k3 (by omega) hb
  have p4 := hb.size
  replace hk0 := hk0.ext hb
  replace hk1 := hk1.ext hb
  replace hk2 := hk2.ext hb
  replace hk3 := hk3.ext hb
  clear bx0_0 bx1_0 bx1_1 bx1_2 bx1_3 bx1_4
  have bl0 := Nat.lt_of_lt_of_le bl0 hb.size
  have bl1 := Nat.lt_of_lt_of_le bl1 hb.size
  have bl2 := Nat.lt_of_lt_of_le bl2 hb.size
  have bl3 := Nat.lt_of_lt_of_le bl3 hb.size
  replace r_a := r_a.below (hb.mono (by omega))
  replace r_o := r_o.below (hb.mono (by omega))
  replace o_o := own_ext o_o hb
  clear hb
  obtain ⟨g, csr, hAo, hbg, hrow, hnc, hcm, hcl, htk⟩ := own_blk o_o (by decide)
  subst hAo
  have ug := u_o g rfl
  have hne2 : ¬ g = w.heap.size + 1 + 1 := by omega
  have hnf2 : ¬ w.heap.size + 1 + 1 = g := by omega
  have hne3 : ¬ g = w1.heap.size := by omega
  have hnf3 : ¬ w1.heap.size = g := by omega
  obtain ⟨v6, e6⟩ := hrow.get (i := i * 7 + 6) (by rw [hcl]; omega)
  have f6 := hrow.frozen (i * 7 + 6)
  have hi8 : (i : Int) < 8 := by omega
  have bx3_0 := hk3.at_ 0 _ rfl
  have bx2_0 := hk2.at_ 0 _ rfl
  have fz2_0 := hk2.frozen 0
  go_wp2_with fail
  have hB2 := (hk2.off (p := ⟨g, i * 7 + 6, none⟩) (show g ≠ w.heap.size + 1 + 1 by omega) (.int .i64 q)).set_ 0 (.slice (some ⟨g, 0, none⟩) (8 : Nat) c_o)
  have hG := (hrow.set_ (i * 7 + 6) (.int .i64 q)).off (p := ⟨w.heap.size + 1 + 1, 0, none⟩) (show w.heap.size + 1 + 1 ≠ g by omega) (.slice (some ⟨g, 0, none⟩) (8 : Nat) c_o)
  have hv := loadVar_blk (P := Try.prog) hB2 (n := 1) rfl (by simp [go_sem]) (by simp [go_sem])
  refine bodyPost_ret (v := .tuple #[.agg #[.slice (some ⟨g, 0, none⟩) (8 : Nat) c_o], .bool true]) (by simp [results, Try.results29, asAddr, Result.andThen, hv]) rfl ?_
  exact ⟨_, _, rfl, own_mk (by omega) hG hnc hcm (by rw [List.length_set, hcl]) (by rw [List.take_set, htk]; exact flat_set1 (cells := Slot.cells) (size := 7) (fun _ => rfl) l i 6 _ x (slotF f q) hx (by decide) hxc) (by rw [flatMap_len _ 7 (fun _ => rfl), List.length_set, hn]), (k4.setCell (show w.heap.size ≤ g by omega) _).setCell (show w.heap.size ≤ w.heap.size + 1 + 1 by omega) _⟩
set_option maxRecDepth 100000 in
set_option maxHeartbeats 4000000 in
theorem implPF_d {A : Option Addr} {c : Nat} {l : List Slot} {f : Flow} {q : Int} (w : World) (hn : l.length = (8 : Nat)) (hm : (8 : Nat) ≤ 1048576) (r_a : Reads w w.heap.size 7 A (8 : Nat) (l.flatMap Slot.cells)) (hcp : ∀ u : World, Reads u u.heap.size 7 A (8 : Nat) (l.flatMap Slot.cells) → Calls Try.prog 54 #[.agg #[.slice A (8 : Nat) c]] u fun e w' => ∃ A' c', e = .returned (.agg #[.slice A' (8 : Nat) c']) ∧ w'.ownsRow u.heap.size 61 7 (.slice A' (8 : Nat) c') (8 : Nat) (l.flatMap Slot.cells) ∧ Below u.heap.size u w') (hok : ∀ u : World, Reads u u.heap.size 7 A (8 : Nat) (l.flatMap Slot.cells) → Calls Try.prog 25 #[.agg #[.slice A (8 : Nat) c]] u fun e w' => e = .returned (.bool true) ∧ Below u.heap.size u w') (hbt : ∀ u : World, Calls Try.prog 28 #[.int .i64 q, .int .i64 0, .int .i64 3] u fun e w' => e = .returned (.bool true) ∧ u = w') (hso : ∀ u : World, Reads u u.heap.size 7 A (8 : Nat) (l.flatMap Slot.cells) → Calls Try.prog 49 #[.agg #[.slice A (8 : Nat) c], .agg #[.int .i64 f.kind, .int .i64 f.sip, .int .i64 f.dip, .int .i64 f.sport, .int .i64 f.dport]] u fun e w' => e = .returned (.int .i64 (-1)) ∧ Below u.heap.size u w') (hwo : ∀ u : World, Calls Try.prog 52 #[.agg #[.int .i64 f.kind, .int .i64 f.sip, .int .i64 f.dip, .int .i64 f.sport, .int .i64 f.dport]] u fun e w' => ∃ A c, e = .returned (.slice A (8 : Nat) c) ∧ w'.ownsRow u.heap.size 3 1 (.slice A (8 : Nat) c) 8 ((wayL f 8).flatMap (fun x : Int => [Value.int .i64 x])) ∧ Below u.heap.size u w') (htrue : 0 ≤ frG l f 8 0 → tpB l f q = true) (hfalse : ¬ 0 ≤ frG l f 8 0 → tpB l f q = false) (hset : ∀ K : Nat, frG l f 8 0 = K → tpL l f q = l.set K (slotF f q)) (hsame : ¬ 0 ≤ frG l f 8 0 → tpL l f q = l) :
    Calls Try.prog 29 #[.agg #[.slice A (8 : Nat) c], .agg #[.int .i64 f.kind, .int .i64 f.sip, .int .i64 f.dip, .int .i64 f.sport, .int .i64 f.dport], .int .i64 q] w fun e w' => ∃ A' c', e = .returned (.tuple #[.agg #[.slice A' (8 : Nat) c'], .bool (tpB l f q)]) ∧ w'.ownsRow w.heap.size 61 7 (.slice A' (8 : Nat) c') (8 : Nat) ((tpL l f q).flatMap Slot.cells) ∧ Below w.heap.size w w' := by
  go_enter Try.func29, Try.ntmps29
  go_wp2_with fail
  have k0 : Below w.heap.size w (((w.alloc (.cells #[.slice A (8 : Nat) c] 27)).alloc (.cells #[.int .i64 f.kind, .int .i64 f.sip, .int .i64 f.dip, .int .i64 f.sport, .int .i64 f.dport] 44)).alloc (.cells #[.slice none 0 0] 27)) := by go_grown
  have bl0 : w.heap.size < (((w.alloc (.cells #[.slice A (8 : Nat) c] 27)).alloc (.cells #[.int .i64 f.kind, .int .i64 f.sip, .int .i64 f.dip, .int .i64 f.sport, .int .i64 f.dport] 44)).alloc (.cells #[.slice none 0 0] 27)).heap.size := by go_size
  have hk0 : Blk (((w.alloc (.cells #[.slice A (8 : Nat) c] 27)).alloc (.cells #[.int .i64 f.kind, .int .i64 f.sip, .int .i64 f.dip, .int .i64 f.sport, .int .i64 f.dport] 44)).alloc (.cells #[.slice none 0 0] 27)) (w.heap.size) 27 [.slice A (8 : Nat) c] := by simpa using ((Blk.new w 27 [.slice A (8 : Nat) c]).alloc (.cells #[.int .i64 f.kind, .int .i64 f.sip, .int .i64 f.dip, .int .i64 f.sport, .int .i64 f.dport] 44)).alloc (.cells #[.slice none 0 0] 27)
  have bl1 : w.heap.size + 1 < (((w.alloc (.cells #[.slice A (8 : Nat) c] 27)).alloc (.cells #[.int .i64 f.kind, .int .i64 f.sip, .int .i64 f.dip, .int .i64 f.sport, .int .i64 f.dport] 44)).alloc (.cells #[.slice none 0 0] 27)).heap.size := by go_size
  have hk1 : Blk (((w.alloc (.cells #[.slice A (8 : Nat) c] 27)).alloc (.cells #[.int .i64 f.kind, .int .i64 f.sip, .int .i64 f.dip, .int .i64 f.sport, .int .i64 f.dport] 44)).alloc (.cells #[.slice none 0 0] 27)) (w.heap.size + 1) 44 [.int .i64 f.kind, .int .i64 f.sip, .int .i64 f.dip, .int .i64 f.sport, .int .i64 f.dport] := by simpa using (Blk.new (w.alloc (.cells #[.slice A (8 : Nat) c] 27)) 44 [.int .i64 f.kind, .int .i64 f.sip, .int .i64 f.dip, .int .i64 f.sport, .int .i64 f.dport]).alloc (.cells #[.slice none 0 0] 27)
  have bl2 : w.heap.size + 1 + 1 < (((w.alloc (.cells #[.slice A (8 : Nat) c] 27)).alloc (.cells #[.int .i64 f.kind, .int .i64 f.sip, .int .i64 f.dip, .int .i64 f.sport, .int .i64 f.dport] 44)).alloc (.cells #[.slice none 0 0] 27)).heap.size := by go_size
  have hk2 : Blk (((w.alloc (.cells #[.slice A (8 : Nat) c] 27)).alloc (.cells #[.int .i64 f.kind, .int .i64 f.sip, .int .i64 f.dip, .int .i64 f.sport, .int .i64 f.dport] 44)).alloc (.cells #[.slice none 0 0] 27)) (w.heap.size + 1 + 1) 27 [.slice none 0 0] := by simpa using Blk.new ((w.alloc (.cells #[.slice A (8 : Nat) c] 27)).alloc (.cells #[.int .i64 f.kind, .int .i64 f.sip, .int .i64 f.dip, .int .i64 f.sport, .int .i64 f.dport] 44)) 27 [.slice none 0 0]
  have r_a := r_a.below k0
  have p0 := k0.size
  generalize hW0 : (((w.alloc (.cells #[.slice A (8 : Nat) c] 27)).alloc (.cells #[.int .i64 f.kind, .int .i64 f.sip, .int .i64 f.dip, .int .i64 f.sport, .int .i64 f.dport] 44)).alloc (.cells #[.slice none 0 0] 27)) = w0 at *
  clear hW0
  refine (hcp _ (r_a.more (by omega))).mono ?_
  rintro e w1 ⟨A_o, c_o, rfl, o_o, hb⟩
  have k1 : Below w.heap.size w w1 := ext_step k0 (by omega) hb
  have p1 := hb.size
  replace hk0 := hk0.ext hb
  replace hk1 := hk1.ext hb
  replace hk2 := hk2.ext hb
  have bl0 := Nat.lt_of_lt_of_le bl0 hb.size
  have bl1 := Nat.lt_of_lt_of_le bl1 hb.size
  have bl2 := Nat.lt_of_lt_of_le bl2 hb.size
  replace r_a := r_a.below (hb.mono (by omega))
  have r_o := Reads.of_own o_o
  have u_o := fun k hk => (o_o.lt k hk).2
  clear hb
  have bx0_0 := hk0.at_ 0 _ rfl
  go_wp2_with fail
  obtain ⟨w2, hW0⟩ : ∃ W, W = (w1.alloc (.cells #[.slice A_o (8 : Nat) c_o] 27)) := ⟨_, rfl⟩
  have hb : Below w1.heap.size w1 w2 := by rw [hW0]; go_grown
  have bl3 : w1.heap.size < w2.heap.size := by rw [hW0]; go_size
  have hk3 : Blk w2 (w1.heap.size) 27 [.slice A_o (8 : Nat) c_o] := by rw [hW0]; exact Blk.new _ _ _
  have hzb3 : Hid (w2.heap.size = w1.heap.size + 1) := by rw [hW0]; simp [Hid]
  rw [← hW0]
  clear hW0
  have k2 := ext_step k1 (by omega) hb
  have p2 := hb.size
  replace hk0 := hk0.ext hb
  replace hk1 := hk1.ext hb
  replace hk2 := hk2.ext hb
  clear bx0_0
  have bl0 := Nat.lt_of_lt_of_le bl0 hb.size
  have bl1 := Nat.lt_of_lt_of_le bl1 hb.size
  have bl2 := Nat.lt_of_lt_of_le bl2 hb.size
  replace r_a := r_a.below (hb.mono (by omega))
  replace r_o := r_o.below (hb.mono (by omega))
  replace o_o := own_ext o_o hb
  clear hb
  refine (hok _ (r_a.more (by omega))).mono ?_
  rintro e w3 ⟨rfl, hb⟩
  have k3 : Below w.heap.size w w3 := ext_step k2 (by omega) hb
  have p3 := hb.size
  replace hk0 := hk0.ext hb
  replace hk1 := hk1.ext hb
  replace hk2 := hk2.ext hb
  replace hk3 := hk3.ext hb
  have bl0 := Nat.lt_of_lt_of_le bl0 hb.size
  have bl1 := Nat.lt_of_lt_of_le bl1 hb.size
  have bl2 := Nat.lt_of_lt_of_le bl2 hb.size
  have bl3 := Nat.lt_of_lt_of_le bl3 hb.size
  replace r_a := r_a.below (hb.mono (by omega))
  replace r_o := r_o.below (hb.mono (by omega))
  replace o_o := own_ext o_o hb
  clear hb
  go_wp2_with fail
  refine (hbt _).mono ?_
  rintro e w_ ⟨rfl, rfl⟩
  have bx0_0 := hk0.at_ 0 _ rfl
  have bx1_0 := hk1.at_ 0 _ rfl
  have bx1_1 := hk1.at_ 1 _ rfl
  have bx1_2 := hk1.at_ 2 _ rfl
  have bx1_3 := hk1.at_ 3 _ rfl
  have bx1_4 := hk1.at_ 4 _ rfl
  go_wp2_with fail
  refine (hso _ (r_a.more (by omega))).mono ?_
  rintro e w4 ⟨rfl, hb⟩
  have k4 : Below w.heap.size w w4 := ext_step k3 (by omega) hb
  have p4 := hb.size
  replace hk0 := hk0.ext hb
  replace hk1 := hk1.ext hb
  replace hk2 := hk2.ext hb
  replace hk3 := hk3.ext hb
  clear bx0_0 bx1_0 bx1_1 bx1_2 bx1_3 bx1_4
  have bl0 := Nat.lt_of_lt_of_le bl0 hb.size
  have bl1 := Nat.lt_of_lt_of_le bl1 hb.size
  have bl2 := Nat.lt_of_lt_of_le bl2 hb.size
  have bl3 := Nat.lt_of_lt_of_le bl3 hb.size
  replace r_a := r_a.below (hb.mono (by omega))
  replace r_o := r_o.below (hb.mono (by omega))
  replace o_o := own_ext o_o hb
  clear hb
  have bx1_0 := hk1.at_ 0 _ rfl
  have bx1_1 := hk1.at_ 1 _ rfl
  have bx1_2 := hk1.at_ 2 _ rfl
  have bx1_3 := hk1.at_ 3 _ rfl
  have bx1_4 := hk1.at_ 4 _ rfl
  go_wp2_with fail
  refine (hwo _).mono ?_
  rintro e w5 ⟨A_w, c_w, rfl, o_w, hb⟩
  have k5 : Below w.heap.size w w5 := ext_step k4 (by omega) hb
  have p5 := hb.size
  replace hk0 := hk0.ext hb
  replace hk1 := hk1.ext hb
  replace hk2 := hk2.ext hb
  replace hk3 := hk3.ext hb
  clear bx1_0 bx1_1 bx1_2 bx1_3 bx1_4
  have bl0 := Nat.lt_of_lt_of_le bl0 hb.size
  have bl1 := Nat.lt_of_lt_of_le bl1 hb.size
  have bl2 := Nat.lt_of_lt_of_le bl2 hb.size
  have bl3 := Nat.lt_of_lt_of_le bl3 hb.size
  replace r_a := r_a.below (hb.mono (by omega))
  replace r_o := r_o.below (hb.mono (by omega))
  replace o_o := own_ext o_o hb
  have r_w := Reads.of_own o_w
  have u_w := fun k hk => (o_w.lt k hk).2
  clear hb
  obtain ⟨g, csr, hAo, hbg, hrow, hnc, hcm, hcl, htk⟩ := own_blk o_o (by decide)
  subst hAo
  have ug := u_o g rfl
  have hne2 : ¬ g = w.heap.size + 1 + 1 := by omega
  have hnf2 : ¬ w.heap.size + 1 + 1 = g := by omega
  have hne3 : ¬ g = w1.heap.size := by omega
  have hnf3 : ¬ w1.heap.size = g := by omega
  have bx3_0 := hk3.at_ 0 _ rfl
  have bx1_0 := hk1.at_ 0 _ rfl
  have bx1_1 := hk1.at_ 1 _ rfl
  have bx1_2 := hk1.at_ 2 _ rfl
  have bx1_3 := hk1.at_ 3 _ rfl
  have bx1_4 := hk1.at_ 4 _ rfl
  have bx2_0 := hk2.at_ 0 _ rfl
  have fz2_0 := hk2.frozen 0
  have hr_o := r_o
  obtain ⟨F, hF⟩ : ∃ F, frG l f 8 0 = F := ⟨_, rfl⟩
  have HF := Lib.hid hF
  clear hF
  go_wp2
  go_loopw [38] (fun i wi => ∃ j : Nat, j ≤ 8 ∧ i = .int .i64 j ∧ wi = w5 ∧ Hid (frG l f (8 - j) j = F)) (fun i _ => 8 - (intOf i).toNat)
  case atStart => exact ⟨0, by decide, rfl, rfl, HF⟩
  case round =>
    obtain ⟨j, hj, rfl, rfl, hst⟩ := hrel
    by_cases hj8 : j < 8
    · obtain ⟨bw, ow, y', hAw, hbw, hy', hc'⟩ := r_w.el (cells := (fun x : Int => [Value.int .i64 x])) (fun _ => rfl) (by decide) (by simp [wayL]) hj8
      obtain rfl : ((way f j : Nat) : Int) = y' := by have h9 := wayL_get (f := f) hj8; rw [hy'] at h9; injection h9 with h9; exact h9.symm
      have cw0 : wr.cell? ⟨bw, ow + j, none⟩ = some (.int .i64 ((way f j : Nat) : Int)) := by simpa using hc' 0 _ rfl
      subst hAw
      clear hc' hy'
      have hwl := way_lt f j
      obtain ⟨b2, o2, y, hA2, hb2, hxy, hcy⟩ := hr_o.el (fun _ => rfl) (by decide) hn hwl
      injection hA2 with hA2
      injection hA2 with hA3 hA4
      subst hA3
      subst hA4
      have d0 : wr.cell? ⟨g, way f j * 7, none⟩ = some (.int .i64 y.state) := by simpa using hcy 0 _ rfl
      have HY := Lib.hid (slt_get hxy)
      have hxy2 := Lib.hid hxy
      clear hcy hxy
      cases b1 : (y.state == 1)
      · have hs1 : ¬ y.state = 1 := by simpa using b1
        have HP := Lib.hid (frG_yes HY.out hst.out hj8 hs1)
        obtain ⟨K, hK⟩ : ∃ K, way f j = K := ⟨_, rfl⟩
        rw [hK] at hwl d0 cw0 hxy2 HY
        rw [hK] at HP
        have HKw := Lib.hid hK
        clear hK HY
        have hl7 : K * 7 + 7 ≤ csr.length := by rw [hcl]; omega
        have hrow7 := hrow
        have hk2x := hk2
        have hk3x := hk3
        have kx := k5
        have bne : (y.state != 1) = true := by simp [hs1]
        go_wp2_with (with_reducible_and_instances show wpList _ _ _ (⟨_, .store 61 (.tmp 55) (.tmp 54), _, _, _, _⟩ :: _) _ _; refine wpList_store_mid rfl _ _ _ rfl g (K * 7) #[.int .i64 1, .int .i64 f.kind, .int .i64 f.sip, .int .i64 f.dip, .int .i64 f.sport, .int .i64 f.dport, .int .i64 q] (by simp [go_sem]) (by simp [go_sem]) (there7 hrow7 hl7 f q) (infoS7 f q) (one7 f q) ?_; have hS7 := hrow7.setCells [.int .i64 1, .int .i64 f.kind, .int .i64 f.sip, .int .i64 f.dip, .int .i64 f.sport, .int .i64 f.dport, .int .i64 q] (K * 7); have hB7 := hk2x.far_setCells (b := g) (by omega) [.int .i64 1, .int .i64 f.kind, .int .i64 f.sip, .int .i64 f.dip, .int .i64 f.sport, .int .i64 f.dport, .int .i64 q] (K * 7); have kS7 := below_setCells (g := g) (show w.heap.size ≤ g by omega) [.int .i64 1, .int .i64 f.kind, .int .i64 f.sip, .int .i64 f.dip, .int .i64 f.sport, .int .i64 f.dport, .int .i64 q] (K * 7) kx; have hO7 := hk3x.far_setCells (b := g) (by omega) [.int .i64 1, .int .i64 f.kind, .int .i64 f.sip, .int .i64 f.dip, .int .i64 f.sport, .int .i64 f.dport, .int .i64 q] (K * 7); obtain ⟨W2, hW2⟩ : ∃ W, W = World.setCells wr g (K * 7) [.int .i64 1, .int .i64 f.kind, .int .i64 f.sip, .int .i64 f.dip, .int .i64 f.sport, .int .i64 f.dport, .int .i64 q] := ⟨_, rfl⟩; (first | rw [← hW2] at hS7 hB7 kS7 hO7 ⊢ | (simp only [Array.toList_toArray] at *; rw [← hW2] at hS7 hB7 kS7 hO7 ⊢)); clear hW2; have g2 := hB7.at_ 0 _ rfl; have f2 := hB7.frozen 0; have g3 := hO7.at_ 0 _ rfl)
        have hB2 := hB7.set_ 0 (.slice (some ⟨g, 0, none⟩) (8 : Nat) c_o)
        have hG := hS7.off (p := ⟨w.heap.size + 1 + 1, 0, none⟩) (show w.heap.size + 1 + 1 ≠ g by omega) (.slice (some ⟨g, 0, none⟩) (8 : Nat) c_o)
        have hv := loadVar_blk (P := Try.prog) hB2 (n := 1) rfl (by simp [go_sem]) (by simp [go_sem])
        have hFB := htrue (by rw [HF.out, HP.out]; omega)
        have hFL := hset K (by rw [HF.out]; exact HP.out)
        rw [hFB, hFL]
        refine bodyPost_ret (v := .tuple #[.agg #[.slice (some ⟨g, 0, none⟩) (8 : Nat) c_o], .bool true]) (by simp [results, Try.results29, asAddr, Result.andThen, hv]) rfl ?_
        exact ⟨_, _, rfl, own_mk (by omega) hG hnc hcm (by rw [setsAt_len, hcl]) (by rw [setsAt_take, htk]; exact flat_setsAt (cells := Slot.cells) (fun _ => rfl) l K (slotF f q) (by omega)) (by rw [flatMap_len _ 7 (fun _ => rfl), List.length_set, hn]), kS7.setCell (show w.heap.size ≤ w.heap.size + 1 + 1 by omega) _⟩
      · have hs1 : y.state = 1 := by simpa using b1
        have HP := Lib.hid (frG_no HY.out hst.out hj8 hs1)
        have bne : (y.state != 1) = false := by simp [hs1]
        go_wp2
        go_roundw
        case rel => exact ⟨j + 1, by omega, by go_num, by first | rfl | trivial, HP⟩
        case measure => simp [intOf]; omega
    · obtain rfl : j = 8 := by omega
      have hF1 := frG_end hst.out
      have hFB := hfalse (by rw [HF.out, hF1]; decide)
      have hFL := hsame (by rw [HF.out, hF1]; decide)
      subst hF1
      go_wp2
      rw [hFB, hFL]
      have hB2 := hk2.set_ 0 (.slice (some ⟨g, 0, none⟩) (8 : Nat) c_o)
      have hG := hrow.off (p := ⟨w.heap.size + 1 + 1, 0, none⟩) (show w.heap.size + 1 + 1 ≠ g by omega) (.slice (some ⟨g, 0, none⟩) (8 : Nat) c_o)
      have hv := loadVar_blk (P := Try.prog) hB2 (n := 1) rfl (by simp [go_sem]) (by simp [go_sem])
      refine bodyPost_ret (v := .tuple #[.agg #[.slice (some ⟨g, 0, none⟩) (8 : Nat) c_o], .bool false]) (by simp [results, Try.results29, asAddr, Result.andThen, hv]) rfl ?_
      exact ⟨_, _, rfl, own_mk (by omega) hG hnc hcm hcl htk (by rw [flatMap_len _ 7 (fun _ => rfl), hn]), k5.setCell (show w.heap.size ≤ w.heap.size + 1 + 1 by omega) _⟩
set_option maxRecDepth 100000 in
set_option maxHeartbeats 4000000 in
theorem specPF_c {A : Option Addr} {c : Nat} {l : List Slot} {f : Flow} {q : Int} (w : World) (hn : l.length = (8 : Nat)) (hm : (8 : Nat) ≤ 1048576) (r_a : Reads w w.heap.size 7 A (8 : Nat) (l.flatMap Slot.cells)) (hcp : ∀ u : World, Reads u u.heap.size 7 A (8 : Nat) (l.flatMap Slot.cells) → Calls Try.prog 67 #[.agg #[.slice A (8 : Nat) c]] u fun e w' => ∃ A' c', e = .returned (.agg #[.slice A' (8 : Nat) c']) ∧ w'.ownsRow u.heap.size 61 7 (.slice A' (8 : Nat) c') (8 : Nat) (l.flatMap Slot.cells) ∧ Below u.heap.size u w') (hok : ∀ u : World, Reads u u.heap.size 7 A (8 : Nat) (l.flatMap Slot.cells) → Calls Try.prog 58 #[.agg #[.slice A (8 : Nat) c]] u fun e w' => e = .returned (.bool true) ∧ Below u.heap.size u w') (hbt : ∀ u : World, Calls Try.prog 60 #[.int .i64 q, .int .i64 0, .int .i64 3] u fun e w' => e = .returned (.bool true) ∧ u = w') {i : Nat} (hi : i < 8) (hfi : ∀ u : World, Reads u u.heap.size 7 A (8 : Nat) (l.flatMap Slot.cells) → Calls Try.prog 62 #[.agg #[.slice A (8 : Nat) c], .agg #[.int .i64 f.kind, .int .i64 f.sip, .int .i64 f.dip, .int .i64 f.sport, .int .i64 f.dport]] u fun e w' => e = .returned (.int .i64 (i : Nat)) ∧ Below u.heap.size u w') :
    Calls Try.prog 41 #[.agg #[.slice A (8 : Nat) c], .agg #[.int .i64 f.kind, .int .i64 f.sip, .int .i64 f.dip, .int .i64 f.sport, .int .i64 f.dport], .int .i64 q] w fun e w' => ∃ A' c', e = .returned (.tuple #[.agg #[.slice A' (8 : Nat) c'], .bool true]) ∧ w'.ownsRow w.heap.size 61 7 (.slice A' (8 : Nat) c') (8 : Nat) ((l.set i (slotF f q)).flatMap Slot.cells) ∧ Below w.heap.size w w' := by
  go_enter Try.func41, Try.ntmps41
  go_wp2_with fail
  have k0 : Below w.heap.size w (((w.alloc (.cells #[.slice A (8 : Nat) c] 27)).alloc (.cells #[.int .i64 f.kind, .int .i64 f.sip, .int .i64 f.dip, .int .i64 f.sport, .int .i64 f.dport] 44)).alloc (.cells #[.slice none 0 0] 27)) := by go_grown
  have bl0 : w.heap.size < (((w.alloc (.cells #[.slice A (8 : Nat) c] 27)).alloc (.cells #[.int .i64 f.kind, .int .i64 f.sip, .int .i64 f.dip, .int .i64 f.sport, .int .i64 f.dport] 44)).alloc (.cells #[.slice none 0 0] 27)).heap.size := by go_size
  have hk0 : Blk (((w.alloc (.cells #[.slice A (8 : Nat) c] 27)).alloc (.cells #[.int .i64 f.kind, .int .i64 f.sip, .int .i64 f.dip, .int .i64 f.sport, .int .i64 f.dport] 44)).alloc (.cells #[.slice none 0 0] 27)) (w.heap.size) 27 [.slice A (8 : Nat) c] := by simpa using ((Blk.new w 27 [.slice A (8 : Nat) c]).alloc (.cells #[.int .i64 f.kind, .int .i64 f.sip, .int .i64 f.dip, .int .i64 f.sport, .int .i64 f.dport] 44)).alloc (.cells #[.slice none 0 0] 27)
  have bl1 : w.heap.size + 1 < (((w.alloc (.cells #[.slice A (8 : Nat) c] 27)).alloc (.cells #[.int .i64 f.kind, .int .i64 f.sip, .int .i64 f.dip, .int .i64 f.sport, .int .i64 f.dport] 44)).alloc (.cells #[.slice none 0 0] 27)).heap.size := by go_size
  have hk1 : Blk (((w.alloc (.cells #[.slice A (8 : Nat) c] 27)).alloc (.cells #[.int .i64 f.kind, .int .i64 f.sip, .int .i64 f.dip, .int .i64 f.sport, .int .i64 f.dport] 44)).alloc (.cells #[.slice none 0 0] 27)) (w.heap.size + 1) 44 [.int .i64 f.kind, .int .i64 f.sip, .int .i64 f.dip, .int .i64 f.sport, .int .i64 f.dport] := by simpa using (Blk.new (w.alloc (.cells #[.slice A (8 : Nat) c] 27)) 44 [.int .i64 f.kind, .int .i64 f.sip, .int .i64 f.dip, .int .i64 f.sport, .int .i64 f.dport]).alloc (.cells #[.slice none 0 0] 27)
  have bl2 : w.heap.size + 1 + 1 < (((w.alloc (.cells #[.slice A (8 : Nat) c] 27)).alloc (.cells #[.int .i64 f.kind, .int .i64 f.sip, .int .i64 f.dip, .int .i64 f.sport, .int .i64 f.dport] 44)).alloc (.cells #[.slice none 0 0] 27)).heap.size := by go_size
  have hk2 : Blk (((w.alloc (.cells #[.slice A (8 : Nat) c] 27)).alloc (.cells #[.int .i64 f.kind, .int .i64 f.sip, .int .i64 f.dip, .int .i64 f.sport, .int .i64 f.dport] 44)).alloc (.cells #[.slice none 0 0] 27)) (w.heap.size + 1 + 1) 27 [.slice none 0 0] := by simpa using Blk.new ((w.alloc (.cells #[.slice A (8 : Nat) c] 27)).alloc (.cells #[.int .i64 f.kind, .int .i64 f.sip, .int .i64 f.dip, .int .i64 f.sport, .int .i64 f.dport] 44)) 27 [.slice none 0 0]
  have r_a := r_a.below k0
  have p0 := k0.size
  generalize hW0 : (((w.alloc (.cells #[.slice A (8 : Nat) c] 27)).alloc (.cells #[.int .i64 f.kind, .int .i64 f.sip, .int .i64 f.dip, .int .i64 f.sport, .int .i64 f.dport] 44)).alloc (.cells #[.slice none 0 0] 27)) = w0 at *
  clear hW0
  refine (hcp _ (r_a.more (by omega))).mono ?_
  rintro e w1 ⟨A_o, c_o, rfl, o_o, hb⟩
  have k1 : Below w.heap.size w w1 := ext_step k0 (by omega) hb
  have p1 := hb.size
  replace hk0 := hk0.ext hb
  replace hk1 := hk1.ext hb
  replace hk2 := hk2.ext hb
  have bl0 := Nat.lt_of_lt_of_le bl0 hb.size
  have bl1 := Nat.lt_of_lt_of_le bl1 hb.size
  have bl2 := Nat.lt_of_lt_of_le bl2 hb.size
  replace r_a := r_a.below (hb.mono (by omega))
  have r_o := Reads.of_own o_o
  have u_o := fun k hk => (o_o.lt k hk).2
  clear hb
  have bx0_0 := hk0.at_ 0 _ rfl
  go_wp2_with fail
  obtain ⟨w2, hW0⟩ : ∃ W, W = (w1.alloc (.cells #[.slice A_o (8 : Nat) c_o] 27)) := ⟨_, rfl⟩
  have hb : Below w1.heap.size w1 w2 := by rw [hW0]; go_grown
  have bl3 : w1.heap.size < w2.heap.size := by rw [hW0]; go_size
  have hk3 : Blk w2 (w1.heap.size) 27 [.slice A_o (8 : Nat) c_o] := by rw [hW0]; exact Blk.new _ _ _
  have hzb3 : Hid (w2.heap.size = w1.heap.size + 1) := by rw [hW0]; simp [Hid]
  rw [← hW0]
  clear hW0
  have k2 := ext_step k1 (by omega) hb
  have p2 := hb.size
  replace hk0 := hk0.ext hb
  replace hk1 := hk1.ext hb
  replace hk2 := hk2.ext hb
  clear bx0_0
  have bl0 := Nat.lt_of_lt_of_le bl0 hb.size
  have bl1 := Nat.lt_of_lt_of_le bl1 hb.size
  have bl2 := Nat.lt_of_lt_of_le bl2 hb.size
  replace r_a := r_a.below (hb.mono (by omega))
  replace r_o := r_o.below (hb.mono (by omega))
  replace o_o := own_ext o_o hb
  clear hb
  refine (hok _ (r_a.more (by omega))).mono ?_
  rintro e w3 ⟨rfl, hb⟩
  have k3 : Below w.heap.size w w3 := ext_step k2 (by omega) hb
  have p3 := hb.size
  replace hk0 := hk0.ext hb
  replace hk1 := hk1.ext hb
  replace hk2 := hk2.ext hb
  replace hk3 := hk3.ext hb
  have bl0 := Nat.lt_of_lt_of_le bl0 hb.size
  have bl1 := Nat.lt_of_lt_of_le bl1 hb.size
  have bl2 := Nat.lt_of_lt_of_le bl2 hb.size
  have bl3 := Nat.lt_of_lt_of_le bl3 hb.size
  replace r_a := r_a.below (hb.mono (by omega))
  replace r_o := r_o.below (hb.mono (by omega))
  replace o_o := own_ext o_o hb
  clear hb
  go_wp2_with fail
  refine (hbt _).mono ?_
  rintro e w_ ⟨rfl, rfl⟩
  have bx0_0 := hk0.at_ 0 _ rfl
  have bx1_0 := hk1.at_ 0 _ rfl
  have bx1_1 := hk1.at_ 1 _ rfl
  have bx1_2 := hk1.at_ 2 _ rfl
  have bx1_3 := hk1.at_ 3 _ rfl
  have bx1_4 := hk1.at_ 4 _ rfl
  go_wp2_with fail
  refine (hfi _ (r_a.more (by omega))).mono ?_
  rintro e w4 ⟨rfl, hb⟩
  have k4 : Below w.heap.size w w4 := ext_step k3 (by omega) hb
  have p4 := hb.size
  replace hk0 := hk0.ext hb
  replace hk1 := hk1.ext hb
  replace hk2 := hk2.ext hb
  replace hk3 := hk3.ext hb
  clear bx0_0 bx1_0 bx1_1 bx1_2 bx1_3 bx1_4
  have bl0 := Nat.lt_of_lt_of_le bl0 hb.size
  have bl1 := Nat.lt_of_lt_of_le bl1 hb.size
  have bl2 := Nat.lt_of_lt_of_le bl2 hb.size
  have bl3 := Nat.lt_of_lt_of_le bl3 hb.size
  replace r_a := r_a.below (hb.mono (by omega))
  replace r_o := r_o.below (hb.mono (by omega))
  replace o_o := own_ext o_o hb
  clear hb
  obtain ⟨g, csr, hAo, hbg, hrow, hnc, hcm, hcl, htk⟩ := own_blk o_o (by decide)
  subst hAo
  have ug := u_o g rfl
  have hne2 : ¬ g = w.heap.size + 1 + 1 := by omega
  have hnf2 : ¬ w.heap.size + 1 + 1 = g := by omega
  have hne3 : ¬ g = w1.heap.size := by omega
  have hnf3 : ¬ w1.heap.size = g := by omega
  have bx3_0 := hk3.at_ 0 _ rfl
  have bx1_0 := hk1.at_ 0 _ rfl
  have bx1_1 := hk1.at_ 1 _ rfl
  have bx1_2 := hk1.at_ 2 _ rfl
  have bx1_3 := hk1.at_ 3 _ rfl
  have bx1_4 := hk1.at_ 4 _ rfl
  have bx2_0 := hk2.at_ 0 _ rfl
  have fz2_0 := hk2.frozen 0
  have hi8 : (i : Int) < 8 := by omega
  go_wp2
  go_loopw [9, 10] (fun x k wi => x = .int .i64 (i : Nat) ∧ k = .int .i64 0 ∧ wi = w4) (fun _ _ _ => 0)
  case atStart => exact ⟨rfl, rfl, rfl⟩
  case round =>
    obtain ⟨rfl, rfl, rfl⟩ := hrel
    have hl7 : i * 7 + 7 ≤ csr.length := by rw [hcl]; omega
    have hrow7 := hrow
    have hk2x := hk2
    have hk3x := hk3
    have kx := k4
    go_wp2_with (with_reducible_and_instances show wpList _ _ _ (⟨_, .store 61 (.tmp 56) (.tmp 55), _, _, _, _⟩ :: _) _ _; refine wpList_store_mid rfl _ _ _ rfl g (i * 7) #[.int .i64 1, .int .i64 f.kind, .int .i64 f.sip, .int .i64 f.dip, .int .i64 f.sport, .int .i64 f.dport, .int .i64 q] (by simp [go_sem]) (by simp [go_sem]) (there7 hrow7 hl7 f q) (infoS7 f q) (one7 f q) ?_; have hS7 := hrow7.setCells [.int .i64 1, .int .i64 f.kind, .int .i64 f.sip, .int .i64 f.dip, .int .i64 f.sport, .int .i64 f.dport, .int .i64 q] (i * 7); have hB7 := hk2x.far_setCells (b := g) (by omega) [.int .i64 1, .int .i64 f.kind, .int .i64 f.sip, .int .i64 f.dip, .int .i64 f.sport, .int .i64 f.dport, .int .i64 q] (i * 7); have kS7 := below_setCells (g := g) (show w.heap.size ≤ g by omega) [.int .i64 1, .int .i64 f.kind, .int .i64 f.sip, .int .i64 f.dip, .int .i64 f.sport, .int .i64 f.dport, .int .i64 q] (i * 7) kx; have hO7 := hk3x.far_setCells (b := g) (by omega) [.int .i64 1, .int .i64 f.kind, .int .i64 f.sip, .int .i64 f.dip, .int .i64 f.sport, .int .i64 f.dport, .int .i64 q] (i * 7); obtain ⟨W2, hW2⟩ : ∃ W, W = World.setCells wr g (i * 7) [.int .i64 1, .int .i64 f.kind, .int .i64 f.sip, .int .i64 f.dip, .int .i64 f.sport, .int .i64 f.dport, .int .i64 q] := ⟨_, rfl⟩; (first | rw [← hW2] at hS7 hB7 kS7 hO7 ⊢ | (simp only [Array.toList_toArray] at *; rw [← hW2] at hS7 hB7 kS7 hO7 ⊢)); clear hW2; have g2 := hB7.at_ 0 _ rfl; have f2 := hB7.frozen 0; have g3 := hO7.at_ 0 _ rfl)
    have hB2 := hB7.set_ 0 (.slice (some ⟨g, 0, none⟩) (8 : Nat) c_o)
    have hG := hS7.off (p := ⟨w.heap.size + 1 + 1, 0, none⟩) (show w.heap.size + 1 + 1 ≠ g by omega) (.slice (some ⟨g, 0, none⟩) (8 : Nat) c_o)
    have hv := loadVar_blk (P := Try.prog) hB2 (n := 1) rfl (by simp [go_sem]) (by simp [go_sem])
    refine bodyPost_ret (v := .tuple #[.agg #[.slice (some ⟨g, 0, none⟩) (8 : Nat) c_o], .bool true]) (by simp [results, Try.results41, asAddr, Result.andThen, hv]) rfl ?_
    exact ⟨_, _, rfl, own_mk (by omega) hG hnc hcm (by rw [setsAt_len, hcl]) (by rw [setsAt_take, htk]; exact flat_setsAt (cells := Slot.cells) (fun _ => rfl) l i (slotF f q) (by omega)) (by rw [flatMap_len _ 7 (fun _ => rfl), List.length_set, hn]), kS7.setCell (show w.heap.size ≤ w.heap.size + 1 + 1 by omega) _⟩
set_option maxRecDepth 100000 in
set_option maxHeartbeats 4000000 in
theorem specPF_d {A : Option Addr} {c : Nat} {l : List Slot} {f : Flow} {q : Int} (w : World) (hn : l.length = (8 : Nat)) (hm : (8 : Nat) ≤ 1048576) (r_a : Reads w w.heap.size 7 A (8 : Nat) (l.flatMap Slot.cells)) (hcp : ∀ u : World, Reads u u.heap.size 7 A (8 : Nat) (l.flatMap Slot.cells) → Calls Try.prog 67 #[.agg #[.slice A (8 : Nat) c]] u fun e w' => ∃ A' c', e = .returned (.agg #[.slice A' (8 : Nat) c']) ∧ w'.ownsRow u.heap.size 61 7 (.slice A' (8 : Nat) c') (8 : Nat) (l.flatMap Slot.cells) ∧ Below u.heap.size u w') (hok : ∀ u : World, Reads u u.heap.size 7 A (8 : Nat) (l.flatMap Slot.cells) → Calls Try.prog 58 #[.agg #[.slice A (8 : Nat) c]] u fun e w' => e = .returned (.bool true) ∧ Below u.heap.size u w') (hbt : ∀ u : World, Calls Try.prog 60 #[.int .i64 q, .int .i64 0, .int .i64 3] u fun e w' => e = .returned (.bool true) ∧ u = w') (hfi : ∀ u : World, Reads u u.heap.size 7 A (8 : Nat) (l.flatMap Slot.cells) → Calls Try.prog 62 #[.agg #[.slice A (8 : Nat) c], .agg #[.int .i64 f.kind, .int .i64 f.sip, .int .i64 f.dip, .int .i64 f.sport, .int .i64 f.dport]] u fun e w' => e = .returned (.int .i64 (-1)) ∧ Below u.heap.size u w') (htrue : 0 ≤ frG l f 8 0 → tpB l f q = true) (hfalse : ¬ 0 ≤ frG l f 8 0 → tpB l f q = false) (hset : ∀ K : Nat, frG l f 8 0 = K → tpL l f q = l.set K (slotF f q)) (hsame : ¬ 0 ≤ frG l f 8 0 → tpL l f q = l) :
    Calls Try.prog 41 #[.agg #[.slice A (8 : Nat) c], .agg #[.int .i64 f.kind, .int .i64 f.sip, .int .i64 f.dip, .int .i64 f.sport, .int .i64 f.dport], .int .i64 q] w fun e w' => ∃ A' c', e = .returned (.tuple #[.agg #[.slice A' (8 : Nat) c'], .bool (tpB l f q)]) ∧ w'.ownsRow w.heap.size 61 7 (.slice A' (8 : Nat) c') (8 : Nat) ((tpL l f q).flatMap Slot.cells) ∧ Below w.heap.size w w' := by
  go_enter Try.func41, Try.ntmps41
  go_wp2_with fail
  have k0 : Below w.heap.size w (((w.alloc (.cells #[.slice A (8 : Nat) c] 27)).alloc (.cells #[.int .i64 f.kind, .int .i64 f.sip, .int .i64 f.dip, .int .i64 f.sport, .int .i64 f.dport] 44)).alloc (.cells #[.slice none 0 0] 27)) := by go_grown
  have bl0 : w.heap.size < (((w.alloc (.cells #[.slice A (8 : Nat) c] 27)).alloc (.cells #[.int .i64 f.kind, .int .i64 f.sip, .int .i64 f.dip, .int .i64 f.sport, .int .i64 f.dport] 44)).alloc (.cells #[.slice none 0 0] 27)).heap.size := by go_size
  have hk0 : Blk (((w.alloc (.cells #[.slice A (8 : Nat) c] 27)).alloc (.cells #[.int .i64 f.kind, .int .i64 f.sip, .int .i64 f.dip, .int .i64 f.sport, .int .i64 f.dport] 44)).alloc (.cells #[.slice none 0 0] 27)) (w.heap.size) 27 [.slice A (8 : Nat) c] := by simpa using ((Blk.new w 27 [.slice A (8 : Nat) c]).alloc (.cells #[.int .i64 f.kind, .int .i64 f.sip, .int .i64 f.dip, .int .i64 f.sport, .int .i64 f.dport] 44)).alloc (.cells #[.slice none 0 0] 27)
  have bl1 : w.heap.size + 1 < (((w.alloc (.cells #[.slice A (8 : Nat) c] 27)).alloc (.cells #[.int .i64 f.kind, .int .i64 f.sip, .int .i64 f.dip, .int .i64 f.sport, .int .i64 f.dport] 44)).alloc (.cells #[.slice none 0 0] 27)).heap.size := by go_size
  have hk1 : Blk (((w.alloc (.cells #[.slice A (8 : Nat) c] 27)).alloc (.cells #[.int .i64 f.kind, .int .i64 f.sip, .int .i64 f.dip, .int .i64 f.sport, .int .i64 f.dport] 44)).alloc (.cells #[.slice none 0 0] 27)) (w.heap.size + 1) 44 [.int .i64 f.kind, .int .i64 f.sip, .int .i64 f.dip, .int .i64 f.sport, .int .i64 f.dport] := by simpa using (Blk.new (w.alloc (.cells #[.slice A (8 : Nat) c] 27)) 44 [.int .i64 f.kind, .int .i64 f.sip, .int .i64 f.dip, .int .i64 f.sport, .int .i64 f.dport]).alloc (.cells #[.slice none 0 0] 27)
  have bl2 : w.heap.size + 1 + 1 < (((w.alloc (.cells #[.slice A (8 : Nat) c] 27)).alloc (.cells #[.int .i64 f.kind, .int .i64 f.sip, .int .i64 f.dip, .int .i64 f.sport, .int .i64 f.dport] 44)).alloc (.cells #[.slice none 0 0] 27)).heap.size := by go_size
  have hk2 : Blk (((w.alloc (.cells #[.slice A (8 : Nat) c] 27)).alloc (.cells #[.int .i64 f.kind, .int .i64 f.sip, .int .i64 f.dip, .int .i64 f.sport, .int .i64 f.dport] 44)).alloc (.cells #[.slice none 0 0] 27)) (w.heap.size + 1 + 1) 27 [.slice none 0 0] := by simpa using Blk.new ((w.alloc (.cells #[.slice A (8 : Nat) c] 27)).alloc (.cells #[.int .i64 f.kind, .int .i64 f.sip, .int .i64 f.dip, .int .i64 f.sport, .int .i64 f.dport] 44)) 27 [.slice none 0 0]
  have r_a := r_a.below k0
  have p0 := k0.size
  generalize hW0 : (((w.alloc (.cells #[.slice A (8 : Nat) c] 27)).alloc (.cells #[.int .i64 f.kind, .int .i64 f.sip, .int .i64 f.dip, .int .i64 f.sport, .int .i64 f.dport] 44)).alloc (.cells #[.slice none 0 0] 27)) = w0 at *
  clear hW0
  refine (hcp _ (r_a.more (by omega))).mono ?_
  rintro e w1 ⟨A_o, c_o, rfl, o_o, hb⟩
  have k1 : Below w.heap.size w w1 := ext_step k0 (by omega) hb
  have p1 := hb.size
  replace hk0 := hk0.ext hb
  replace hk1 := hk1.ext hb
  replace hk2 := hk2.ext hb
  have bl0 := Nat.lt_of_lt_of_le bl0 hb.size
  have bl1 := Nat.lt_of_lt_of_le bl1 hb.size
  have bl2 := Nat.lt_of_lt_of_le bl2 hb.size
  replace r_a := r_a.below (hb.mono (by omega))
  have r_o := Reads.of_own o_o
  have u_o := fun k hk => (o_o.lt k hk).2
  clear hb
  have bx0_0 := hk0.at_ 0 _ rfl
  go_wp2_with fail
  obtain ⟨w2, hW0⟩ : ∃ W, W = (w1.alloc (.cells #[.slice A_o (8 : Nat) c_o] 27)) := ⟨_, rfl⟩
  have hb : Below w1.heap.size w1 w2 := by rw [hW0]; go_grown
  have bl3 : w1.heap.size < w2.heap.size := by rw [hW0]; go_size
  have hk3 : Blk w2 (w1.heap.size) 27 [.slice A_o (8 : Nat) c_o] := by rw [hW0]; exact Blk.new _ _ _
  have hzb3 : Hid (w2.heap.size = w1.heap.size + 1) := by rw [hW0]; simp [Hid]
  rw [← hW0]
  clear hW0
  have k2 := ext_step k1 (by omega) hb
  have p2 := hb.size
  replace hk0 := hk0.ext hb
  replace hk1 := hk1.ext hb
  replace hk2 := hk2.ext hb
  clear bx0_0
  have bl0 := Nat.lt_of_lt_of_le bl0 hb.size
  have bl1 := Nat.lt_of_lt_of_le bl1 hb.size
  have bl2 := Nat.lt_of_lt_of_le bl2 hb.size
  replace r_a := r_a.below (hb.mono (by omega))
  replace r_o := r_o.below (hb.mono (by omega))
  replace o_o := own_ext o_o hb
  clear hb
  refine (hok _ (r_a.more (by omega))).mono ?_
  rintro e w3 ⟨rfl, hb⟩
  have k3 : Below w.heap.size w w3 := ext_step k2 (by omega) hb
  have p3 := hb.size
  replace hk0 := hk0.ext hb
  replace hk1 := hk1.ext hb
  replace hk2 := hk2.ext hb
  replace hk3 := hk3.ext hb
  have bl0 := Nat.lt_of_lt_of_le bl0 hb.size
  have bl1 := Nat.lt_of_lt_of_le bl1 hb.size
  have bl2 := Nat.lt_of_lt_of_le bl2 hb.size
  have bl3 := Nat.lt_of_lt_of_le bl3 hb.size
  replace r_a := r_a.below (hb.mono (by omega))
  replace r_o := r_o.below (hb.mono (by omega))
  replace o_o := own_ext o_o hb
  clear hb
  go_wp2_with fail
  refine (hbt _).mono ?_
  rintro e w_ ⟨rfl, rfl⟩
  have bx0_0 := hk0.at_ 0 _ rfl
  have bx1_0 := hk1.at_ 0 _ rfl
  have bx1_1 := hk1.at_ 1 _ rfl
  have bx1_2 := hk1.at_ 2 _ rfl
  have bx1_3 := hk1.at_ 3 _ rfl
  have bx1_4 := hk1.at_ 4 _ rfl
  go_wp2_with fail
  refine (hfi _ (r_a.more (by omega))).mono ?_
  rintro e w4 ⟨rfl, hb⟩
  have k4 : Below w.heap.size w w4 := ext_step k3 (by omega) hb
  have p4 := hb.size
  replace hk0 := hk0.ext hb
  replace hk1 := hk1.ext hb
  replace hk2 := hk2.ext hb
  replace hk3 := hk3.ext hb
  clear bx0_0 bx1_0 bx1_1 bx1_2 bx1_3 bx1_4
  have bl0 := Nat.lt_of_lt_of_le bl0 hb.size
  have bl1 := Nat.lt_of_lt_of_le bl1 hb.size
  have bl2 := Nat.lt_of_lt_of_le bl2 hb.size
  have bl3 := Nat.lt_of_lt_of_le bl3 hb.size
  replace r_a := r_a.below (hb.mono (by omega))
  replace r_o := r_o.below (hb.mono (by omega))
  replace o_o := own_ext o_o hb
  clear hb
  obtain ⟨g, csr, hAo, hbg, hrow, hnc, hcm, hcl, htk⟩ := own_blk o_o (by decide)
  subst hAo
  have ug := u_o g rfl
  have hne2 : ¬ g = w.heap.size + 1 + 1 := by omega
  have hnf2 : ¬ w.heap.size + 1 + 1 = g := by omega
  have hne3 : ¬ g = w1.heap.size := by omega
  have hnf3 : ¬ w1.heap.size = g := by omega
  obtain ⟨F, hF⟩ : ∃ F, frG l f 8 0 = F := ⟨_, rfl⟩
  have HF := Lib.hid hF
  have hFb := frG_bd l f 8 0
  rw [hF] at hFb
  clear hF
  go_wp2
  go_loopw [9, 10] (fun x k wi => ∃ j : Nat, j ≤ 8 ∧ k = .int .i64 j ∧ Below w4.heap.size w4 wi ∧ ((x = .int .i64 (-1) ∧ Hid (frG l f (8 - j) j = F)) ∨ (x = .int .i64 F ∧ 0 ≤ F))) (fun _ k _ => 8 - (intOf k).toNat)
  case atStart => exact ⟨0, by decide, rfl, Below.refl _ _, .inl ⟨rfl, HF⟩⟩
  case round =>
    obtain ⟨j, hj, rfl, hbz, hst⟩ := hrel
    have k1z : Below w.heap.size w wr := ext_step k4 k4.size hbz
    have kz := hbz.size
    replace hk0 := hk0.ext hbz
    have bl0 := hk0.lt
    replace hk1 := hk1.ext hbz
    have bl1 := hk1.lt
    replace hk2 := hk2.ext hbz
    have bl2 := hk2.lt
    replace hk3 := hk3.ext hbz
    have bl3 := hk3.lt
    replace hrow := hrow.ext hbz
    have glt := hrow.lt
    replace r_a := r_a.below (hbz.mono (by omega))
    rcases hst with ⟨rfl, hst⟩ | ⟨rfl, hF0⟩
    · by_cases hj8 : j < 8
      · have hh := homeI_lt f
        have ew : ((homeI f : Int) + (j : Int)) % 8 = ((way f j : Nat) : Int) := by unfold way; omega
        have hwl := way_lt f j
        obtain ⟨b, o, y, hAe, hbe, hxy, hcy⟩ := r_a.el (fun _ => rfl) (by decide) hn hwl
        subst hAe
        have d0 : wr.cell? ⟨b, o + way f j * 7, none⟩ = some (.int .i64 y.state) := by simpa using hcy 0 _ rfl
        have HY := Lib.hid (slt_get hxy)
        clear hcy hxy
        have bx1_0 := hk1.at_ 0 _ rfl
        have bx1_1 := hk1.at_ 1 _ rfl
        have bx1_2 := hk1.at_ 2 _ rfl
        have bx1_3 := hk1.at_ 3 _ rfl
        have bx1_4 := hk1.at_ 4 _ rfl
        go_wp2_with fail
        refine (specHomeSlot_c f _).mono ?_
        rintro e wq ⟨rfl, hbq⟩
        have k2z : Below w.heap.size w wq := ext_step k1z k1z.size hbq
        have hbz2 := hbz.trans (hbq.mono hbz.size)
        have d0q := ccell hbq _ _ _ d0
        replace hk0 := hk0.ext hbq
        have bl0q := hk0.lt
        have t0 := hk0.at_ 0 _ rfl
        clear hbq d0 bx1_0 bx1_1 bx1_2 bx1_3 bx1_4
        cases b1 : (y.state == 1)
        · have hs1 : ¬ y.state = 1 := by simpa using b1
          have bne : (y.state != 1) = true := by simp [hs1]
          have HP := Lib.hid (frG_yes HY.out hst.out hj8 hs1)
          go_wp2
          go_roundw
          case rel => exact ⟨j + 1, by omega, by go_num, hbz2, .inr ⟨ret_int0 (by rw [HP.out]; omega), by rw [HP.out]; omega⟩⟩
          case measure => simp [intOf]; omega
        · have hs1 : y.state = 1 := by simpa using b1
          have bne : (y.state != 1) = false := by simp [hs1]
          have HP := Lib.hid (frG_no HY.out hst.out hj8 hs1)
          go_wp2
          go_roundw
          case rel => exact ⟨j + 1, by omega, by go_num, hbz2, .inl ⟨rfl, HP⟩⟩
          case measure => simp [intOf]; omega
      · obtain rfl : j = 8 := by omega
        have hF1 := frG_end hst.out
        have hFB := hfalse (by rw [HF.out, hF1]; decide)
        have hFL := hsame (by rw [HF.out, hF1]; decide)
        subst hF1
        have bx3_0 := hk3.at_ 0 _ rfl
        have bx2_0 := hk2.at_ 0 _ rfl
        have fz2_0 := hk2.frozen 0
        go_wp2
        rw [hFB, hFL]
        have hB2 := hk2.set_ 0 (.slice (some ⟨g, 0, none⟩) (8 : Nat) c_o)
        have hG := hrow.off (p := ⟨w.heap.size + 1 + 1, 0, none⟩) (show w.heap.size + 1 + 1 ≠ g by omega) (.slice (some ⟨g, 0, none⟩) (8 : Nat) c_o)
        have hv := loadVar_blk (P := Try.prog) hB2 (n := 1) rfl (by simp [go_sem]) (by simp [go_sem])
        refine bodyPost_ret (v := .tuple #[.agg #[.slice (some ⟨g, 0, none⟩) (8 : Nat) c_o], .bool false]) (by simp [results, Try.results41, asAddr, Result.andThen, hv]) rfl ?_
        exact ⟨_, _, rfl, own_mk (by omega) hG hnc hcm hcl htk (by rw [flatMap_len _ 7 (fun _ => rfl), hn]), k1z.setCell (show w.heap.size ≤ w.heap.size + 1 + 1 by omega) _⟩
    · obtain ⟨K, rfl⟩ := Int.eq_ofNat_of_zero_le hF0
      have hK8 : K < 8 := by omega
      have hFB := htrue (by rw [HF.out]; omega)
      have hFL := hset K HF.out
      have hKn : ¬ (K : Int) < 0 := by omega
      have hK8i : (K : Int) < 8 := by omega
      have bx3_0 := hk3.at_ 0 _ rfl
      have bx1_0 := hk1.at_ 0 _ rfl
      have bx1_1 := hk1.at_ 1 _ rfl
      have bx1_2 := hk1.at_ 2 _ rfl
      have bx1_3 := hk1.at_ 3 _ rfl
      have bx1_4 := hk1.at_ 4 _ rfl
      have bx2_0 := hk2.at_ 0 _ rfl
      have fz2_0 := hk2.frozen 0
      by_cases hj8 : j < 8
      · have hl7 : K * 7 + 7 ≤ csr.length := by rw [hcl]; omega
        have hrow7 := hrow
        have hk2x := hk2
        have hk3x := hk3
        have kx := k1z
        go_wp2_with (with_reducible_and_instances show wpList _ _ _ (⟨_, .store 61 (.tmp 56) (.tmp 55), _, _, _, _⟩ :: _) _ _; refine wpList_store_mid rfl _ _ _ rfl g (K * 7) #[.int .i64 1, .int .i64 f.kind, .int .i64 f.sip, .int .i64 f.dip, .int .i64 f.sport, .int .i64 f.dport, .int .i64 q] (by simp [go_sem]) (by simp [go_sem]) (there7 hrow7 hl7 f q) (infoS7 f q) (one7 f q) ?_; have hS7 := hrow7.setCells [.int .i64 1, .int .i64 f.kind, .int .i64 f.sip, .int .i64 f.dip, .int .i64 f.sport, .int .i64 f.dport, .int .i64 q] (K * 7); have hB7 := hk2x.far_setCells (b := g) (by omega) [.int .i64 1, .int .i64 f.kind, .int .i64 f.sip, .int .i64 f.dip, .int .i64 f.sport, .int .i64 f.dport, .int .i64 q] (K * 7); have kS7 := below_setCells (g := g) (show w.heap.size ≤ g by omega) [.int .i64 1, .int .i64 f.kind, .int .i64 f.sip, .int .i64 f.dip, .int .i64 f.sport, .int .i64 f.dport, .int .i64 q] (K * 7) kx; have hO7 := hk3x.far_setCells (b := g) (by omega) [.int .i64 1, .int .i64 f.kind, .int .i64 f.sip, .int .i64 f.dip, .int .i64 f.sport, .int .i64 f.dport, .int .i64 q] (K * 7); obtain ⟨W2, hW2⟩ : ∃ W, W = World.setCells wr g (K * 7) [.int .i64 1, .int .i64 f.kind, .int .i64 f.sip, .int .i64 f.dip, .int .i64 f.sport, .int .i64 f.dport, .int .i64 q] := ⟨_, rfl⟩; (first | rw [← hW2] at hS7 hB7 kS7 hO7 ⊢ | (simp only [Array.toList_toArray] at *; rw [← hW2] at hS7 hB7 kS7 hO7 ⊢)); clear hW2; have g2 := hB7.at_ 0 _ rfl; have f2 := hB7.frozen 0; have g3 := hO7.at_ 0 _ rfl)
        have hB2 := hB7.set_ 0 (.slice (some ⟨g, 0, none⟩) (8 : Nat) c_o)
        have hG := hS7.off (p := ⟨w.heap.size + 1 + 1, 0, none⟩) (show w.heap.size + 1 + 1 ≠ g by omega) (.slice (some ⟨g, 0, none⟩) (8 : Nat) c_o)
        have hv := loadVar_blk (P := Try.prog) hB2 (n := 1) rfl (by simp [go_sem]) (by simp [go_sem])
        try rw [hFB]
        try rw [hFL]
        refine bodyPost_ret (v := .tuple #[.agg #[.slice (some ⟨g, 0, none⟩) (8 : Nat) c_o], .bool true]) (by simp [results, Try.results41, asAddr, Result.andThen, hv]) rfl ?_
        exact ⟨_, _, rfl, own_mk (by omega) hG hnc hcm (by rw [setsAt_len, hcl]) (by rw [setsAt_take, htk]; exact flat_setsAt (cells := Slot.cells) (fun _ => rfl) l K (slotF f q) (by omega)) (by rw [flatMap_len _ 7 (fun _ => rfl), List.length_set, hn]), kS7.setCell (show w.heap.size ≤ w.heap.size + 1 + 1 by omega) _⟩
      · obtain rfl : j = 8 := by omega
        have hl7 : K * 7 + 7 ≤ csr.length := by rw [hcl]; omega
        have hrow7 := hrow
        have hk2x := hk2
        have hk3x := hk3
        have kx := k1z
        go_wp2_with (with_reducible_and_instances show wpList _ _ _ (⟨_, .store 61 (.tmp 56) (.tmp 55), _, _, _, _⟩ :: _) _ _; refine wpList_store_mid rfl _ _ _ rfl g (K * 7) #[.int .i64 1, .int .i64 f.kind, .int .i64 f.sip, .int .i64 f.dip, .int .i64 f.sport, .int .i64 f.dport, .int .i64 q] (by simp [go_sem]) (by simp [go_sem]) (there7 hrow7 hl7 f q) (infoS7 f q) (one7 f q) ?_; have hS7 := hrow7.setCells [.int .i64 1, .int .i64 f.kind, .int .i64 f.sip, .int .i64 f.dip, .int .i64 f.sport, .int .i64 f.dport, .int .i64 q] (K * 7); have hB7 := hk2x.far_setCells (b := g) (by omega) [.int .i64 1, .int .i64 f.kind, .int .i64 f.sip, .int .i64 f.dip, .int .i64 f.sport, .int .i64 f.dport, .int .i64 q] (K * 7); have kS7 := below_setCells (g := g) (show w.heap.size ≤ g by omega) [.int .i64 1, .int .i64 f.kind, .int .i64 f.sip, .int .i64 f.dip, .int .i64 f.sport, .int .i64 f.dport, .int .i64 q] (K * 7) kx; have hO7 := hk3x.far_setCells (b := g) (by omega) [.int .i64 1, .int .i64 f.kind, .int .i64 f.sip, .int .i64 f.dip, .int .i64 f.sport, .int .i64 f.dport, .int .i64 q] (K * 7); obtain ⟨W2, hW2⟩ : ∃ W, W = World.setCells wr g (K * 7) [.int .i64 1, .int .i64 f.kind, .int .i64 f.sip, .int .i64 f.dip, .int .i64 f.sport, .int .i64 f.dport, .int .i64 q] := ⟨_, rfl⟩; (first | rw [← hW2] at hS7 hB7 kS7 hO7 ⊢ | (simp only [Array.toList_toArray] at *; rw [← hW2] at hS7 hB7 kS7 hO7 ⊢)); clear hW2; have g2 := hB7.at_ 0 _ rfl; have f2 := hB7.frozen 0; have g3 := hO7.at_ 0 _ rfl)
        have hB2 := hB7.set_ 0 (.slice (some ⟨g, 0, none⟩) (8 : Nat) c_o)
        have hG := hS7.off (p := ⟨w.heap.size + 1 + 1, 0, none⟩) (show w.heap.size + 1 + 1 ≠ g by omega) (.slice (some ⟨g, 0, none⟩) (8 : Nat) c_o)
        have hv := loadVar_blk (P := Try.prog) hB2 (n := 1) rfl (by simp [go_sem]) (by simp [go_sem])
        try rw [hFB]
        try rw [hFL]
        refine bodyPost_ret (v := .tuple #[.agg #[.slice (some ⟨g, 0, none⟩) (8 : Nat) c_o], .bool true]) (by simp [results, Try.results41, asAddr, Result.andThen, hv]) rfl ?_
        exact ⟨_, _, rfl, own_mk (by omega) hG hnc hcm (by rw [setsAt_len, hcl]) (by rw [setsAt_take, htk]; exact flat_setsAt (cells := Slot.cells) (fun _ => rfl) l K (slotF f q) (by omega)) (by rw [flatMap_len _ 7 (fun _ => rfl), List.length_set, hn]), kS7.setCell (show w.heap.size ≤ w.heap.size + 1 + 1 by omega) _⟩
theorem tp_a {l : List Slot} {f : Flow} {q : Int} (h : tableB l = false) : tpB l f q = false ∧ tpL l f q = l := by
  have h1 : tpB l f q = false := by simp [tpB, h]
  exact ⟨h1, by simp [tpL, h1]⟩
theorem tp_b {l : List Slot} {f : Flow} {q : Int} (h : inB q 0 3 = false) : tpB l f q = false ∧ tpL l f q = l := by
  have h1 : tpB l f q = false := by simp [tpB, h]
  exact ⟨h1, by simp [tpL, h1]⟩
theorem tp_c {l : List Slot} {f : Flow} {q : Int} {i : Nat} (h1 : tableB l = true) (h2 : inB q 0 3 = true) (hs : soI l f = i) : tpB l f q = true ∧ tpL l f q = l.set i (slotF f q) := by
  have hp : tpI l f = i := by rw [tpI, hs, if_pos (by omega)]
  have hb : tpB l f q = true := by simp [tpB, h1, h2, hp]
  exact ⟨hb, by simp [tpL, hb, hp]⟩
theorem tp_d {l : List Slot} {f : Flow} {q : Int} (h1 : tableB l = true) (h2 : inB q 0 3 = true) (hs : soI l f = -1) : (0 ≤ frG l f 8 0 → tpB l f q = true) ∧ (¬ 0 ≤ frG l f 8 0 → tpB l f q = false) ∧ (∀ K : Nat, frG l f 8 0 = K → tpL l f q = l.set K (slotF f q)) ∧ (¬ 0 ≤ frG l f 8 0 → tpL l f q = l) := by
  have hp : tpI l f = frG l f 8 0 := by rw [tpI, hs, if_neg (by omega)]
  have ht : 0 ≤ frG l f 8 0 → tpB l f q = true := fun h => by simp [tpB, h1, h2, hp, h]
  have hf : ¬ 0 ≤ frG l f 8 0 → tpB l f q = false := fun h => by simp [tpB, h1, h2, hp, h]
  exact ⟨ht, hf, fun K hK => by rw [tpL, if_pos (ht (by omega)), hp, hK, Int.toNat_natCast], fun h => by rw [tpL, if_neg (by rw [hf h]; decide)]⟩
theorem implPutFlow_c (A : Option Addr) (n c : Nat) (l : List Slot) (f : Flow) (q : Int) (w : World) (hn : l.length = n) (hm : n ≤ 1048576) (hr : Reads w w.heap.size 7 A n (l.flatMap Slot.cells)) :
    Calls Try.prog 29 #[.agg #[.slice A n c], .agg #[.int .i64 f.kind, .int .i64 f.sip, .int .i64 f.dip, .int .i64 f.sport, .int .i64 f.dport], .int .i64 q] w fun e w' => ∃ A' c', e = .returned (.tuple #[.agg #[.slice A' n c'], .bool (tpB l f q)]) ∧ w'.ownsRow w.heap.size 61 7 (.slice A' n c') n ((tpL l f q).flatMap Slot.cells) ∧ Below w.heap.size w w' := by
  have hcp := fun (u : World) (h1 : Reads u u.heap.size 7 A n (l.flatMap Slot.cells)) => copyTable_c A n c l u hn hm h1
  have hok := fun (u : World) (h1 : Reads u u.heap.size 7 A n (l.flatMap Slot.cells)) => implTableOk_c A n c l u hn hm h1
  have hbt := fun u : World => between_c q 0 3 u
  cases h1b : tableB l
  · simp only [h1b] at hok
    rw [(tp_a (f := f) (q := q) h1b).1, (tp_a (f := f) (q := q) h1b).2]
    exact implPF_a w hn hm hr hcp hok
  · simp only [h1b] at hok
    obtain rfl : n = 8 := by rw [← hn]; exact tableB_len h1b
    cases h2b : inB q 0 3
    · simp only [h2b] at hbt
      rw [(tp_b (l := l) (f := f) h2b).1, (tp_b (l := l) (f := f) h2b).2]
      exact implPF_b w hn hm hr hcp hok hbt
    · simp only [h2b] at hbt
      have hso := fun (u : World) (h1 : Reads u u.heap.size 7 A (8 : Nat) (l.flatMap Slot.cells)) => (show Calls Try.prog 49 #[.agg #[.slice A (8 : Nat) c], .agg #[.int .i64 f.kind, .int .i64 f.sip, .int .i64 f.dip, .int .i64 f.sport, .int .i64 f.dport]] u fun e w' => e = .returned (.int .i64 (soI l f)) ∧ Below u.heap.size u w' from slotOf_c A 8 c l f u hn (by decide) h1)
      have hwo := fun u : World => wayOf_c f u
      rcases soI_cases l f with ⟨hs, _⟩ | ⟨k, hs, hk, hh⟩
      · simp only [hs] at hso
        obtain ⟨d1, d2, d3, d4⟩ := tp_d (f := f) h1b h2b hs
        exact implPF_d w hn hm hr hcp hok hbt hso hwo d1 d2 d3 d4
      · simp only [hs] at hso
        rw [(tp_c (f := f) h1b h2b hs).1, (tp_c (f := f) h1b h2b hs).2]
        have hk8 : k < 8 := by omega
        have hx := slt_some hk
        obtain ⟨x1, x2⟩ := hit_t hh
        have hxc : (slotF f q).cells = (slt l k).cells.set 6 (.int .i64 q) := by rw [← x2]; simp [slotF, Slot.cells, Slot.flow, x1]
        exact implPF_c w hn hm hr hcp hok hbt hk8 hx hxc hso
theorem specPutFlow_c (A : Option Addr) (n c : Nat) (l : List Slot) (f : Flow) (q : Int) (w : World) (hn : l.length = n) (hm : n ≤ 1048576) (hr : Reads w w.heap.size 7 A n (l.flatMap Slot.cells)) :
    Calls Try.prog 41 #[.agg #[.slice A n c], .agg #[.int .i64 f.kind, .int .i64 f.sip, .int .i64 f.dip, .int .i64 f.sport, .int .i64 f.dport], .int .i64 q] w fun e w' => ∃ A' c', e = .returned (.tuple #[.agg #[.slice A' n c'], .bool (tpB l f q)]) ∧ w'.ownsRow w.heap.size 61 7 (.slice A' n c') n ((tpL l f q).flatMap Slot.cells) ∧ Below w.heap.size w w' := by
  have hcp := fun (u : World) (h1 : Reads u u.heap.size 7 A n (l.flatMap Slot.cells)) => l13Copy_c A n c l u hn hm h1
  have hok := fun (u : World) (h1 : Reads u u.heap.size 7 A n (l.flatMap Slot.cells)) => specTableOk_c A n c l u hn hm h1
  have hbt := fun u : World => l01In_c q 0 3 u
  cases h1b : tableB l
  · simp only [h1b] at hok
    rw [(tp_a (f := f) (q := q) h1b).1, (tp_a (f := f) (q := q) h1b).2]
    exact specPF_a w hn hm hr hcp hok
  · simp only [h1b] at hok
    obtain rfl : n = 8 := by rw [← hn]; exact tableB_len h1b
    cases h2b : inB q 0 3
    · simp only [h2b] at hbt
      rw [(tp_b (l := l) (f := f) h2b).1, (tp_b (l := l) (f := f) h2b).2]
      exact specPF_b w hn hm hr hcp hok hbt
    · simp only [h2b] at hbt
      have hso := fun (u : World) (h1 : Reads u u.heap.size 7 A (8 : Nat) (l.flatMap Slot.cells)) => (show Calls Try.prog 62 #[.agg #[.slice A (8 : Nat) c], .agg #[.int .i64 f.kind, .int .i64 f.sip, .int .i64 f.dip, .int .i64 f.sport, .int .i64 f.dport]] u fun e w' => e = .returned (.int .i64 (soI l f)) ∧ Below u.heap.size u w' from by rw [so_fnd h1b f]; exact l13Find_c A c l f u hn h1)
      rcases soI_cases l f with ⟨hs, _⟩ | ⟨k, hs, hk, hh⟩
      · simp only [hs] at hso
        obtain ⟨d1, d2, d3, d4⟩ := tp_d (f := f) h1b h2b hs
        exact specPF_d w hn hm hr hcp hok hbt hso d1 d2 d3 d4
      · simp only [hs] at hso
        rw [(tp_c (f := f) h1b h2b hs).1, (tp_c (f := f) h1b h2b hs).2]
        have hk8 : k < 8 := by omega
        have hx := slt_some hk
        obtain ⟨x1, x2⟩ := hit_t hh
        have hxc : (slotF f q).cells = (slt l k).cells.set 6 (.int .i64 q) := by rw [← x2]; simp [slotF, Slot.cells, Slot.flow, x1]
        exact specPF_c w hn hm hr hcp hok hbt hk8 hso
end Go.Proofs.Ytkfekgmdjemkbaa
