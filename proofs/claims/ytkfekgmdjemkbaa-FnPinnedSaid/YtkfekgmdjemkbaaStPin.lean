/- Contracts: PinFlows: impl and spec. -/
import Derived.Test.YtkfekgmdjemkbaaStPf
import Derived.Test.YtkfekgmdjemkbaaStCp
import Derived.Test.YtkfekgmdjemkbaaStI
import Derived.Deep.RegionWith
namespace Go.Proofs.Ytkfekgmdjemkbaa
set_option linter.unusedSimpArgs false
set_option linter.unusedVariables false
open Go.RowKit Go.ChangeShapes Go.WideShapes
theorem own_kept_blk {w w1 : World} {base size n b : Nat} {e T : TypeId} {v : Value} {xs cs : List Value} (h : w.ownsRow base e size v n xs) (hg : w.grownBy w1 (some b)) (hb : Blk w b T cs) (hne : e ≠ T) : w1.ownsRow base e size v n xs := by
  refine ⟨h.1, ?_⟩
  have hd := own_ty h hb hne
  rcases h.2 with h2 | ⟨g, cap, cur, hv, hg2, hh, r⟩
  · exact .inl h2
  · refine .inr ⟨g, cap, cur, hv, hg2, ?_, r⟩
    rw [hg.block g (Array.getElem?_eq_some_iff.1 hh).1 (fun e => hd g (by rw [hv]; rfl) (by injection e))]; exact hh
set_option maxRecDepth 100000 in
set_option maxHeartbeats 4000000 in
theorem implPN_a (Ar : Option Addr) (cr : Nat) (rs : List Rule) (As : Option Addr) (cs : Nat) (l : List Slot) (key : ByteArray) (At : Option Addr) (ct : Nat) (tb : List Int) (q : Int) (Af : Option Addr) (nf cf : Nat) (fs : List Flow) (qq : Int) (w : World) (hmr : rs.length ≤ 1048576) (hms : l.length ≤ 1048576) (hmt : tb.length ≤ 1048576) (r_r : Reads w w.heap.size 9 Ar rs.length (rs.flatMap Rule.cells)) (r_s : Reads w w.heap.size 7 As l.length (l.flatMap Slot.cells)) (r_t : Reads w w.heap.size 1 At tb.length (tb.flatMap fun x : Int => [Value.int .i64 x])) (hnf : fs.length = nf) (hmf : nf ≤ 1048576) (r_f : Reads w w.heap.size 5 Af nf (fs.flatMap Flow.cells)) (hcp : ∀ u : World, Reads u u.heap.size 9 Ar rs.length (rs.flatMap Rule.cells) → Reads u u.heap.size 7 As l.length (l.flatMap Slot.cells) → Reads u u.heap.size 1 At tb.length (tb.flatMap fun x : Int => [Value.int .i64 x]) → Calls Try.prog 27 #[.agg #[.slice Ar rs.length cr, .slice As l.length cs, .string key, .slice At tb.length ct]] u fun e w' => ∃ v, e = .returned v ∧ SteO u.heap.size rs l key tb w' v ∧ Below u.heap.size u w') (hok : ∀ u : World, Reads u u.heap.size 9 Ar rs.length (rs.flatMap Rule.cells) → Reads u u.heap.size 7 As l.length (l.flatMap Slot.cells) → Reads u u.heap.size 1 At tb.length (tb.flatMap fun x : Int => [Value.int .i64 x]) → Calls Try.prog 11 #[.agg #[.slice Ar rs.length cr, .slice As l.length cs, .string key, .slice At tb.length ct], .int .i64 q] u fun e w' => e = .returned (.bool false) ∧ Below u.heap.size u w') :
    Calls Try.prog 13 #[.agg #[.slice Ar rs.length cr, .slice As l.length cs, .string key, .slice At tb.length ct], .int .i64 q, .slice Af nf cf, .int .i64 qq] w fun e w' => ∃ v, e = .returned (.tuple #[v, .int .i64 0]) ∧ SteO w.heap.size rs l key tb w' v ∧ Below w.heap.size w w' := by
  go_enter Try.func13, Try.ntmps13
  go_wp2_with fail
  have k0 : Below w.heap.size w ((w.alloc (.cells #[.slice Ar rs.length cr, .slice As l.length cs, .string key, .slice At tb.length ct] 32)).alloc (.cells #[.slice none 0 0, .slice none 0 0, .string ⟨#[]⟩, .slice none 0 0] 32)) := by go_grown
  have bl0 : w.heap.size < ((w.alloc (.cells #[.slice Ar rs.length cr, .slice As l.length cs, .string key, .slice At tb.length ct] 32)).alloc (.cells #[.slice none 0 0, .slice none 0 0, .string ⟨#[]⟩, .slice none 0 0] 32)).heap.size := by go_size
  have hk0 : Blk ((w.alloc (.cells #[.slice Ar rs.length cr, .slice As l.length cs, .string key, .slice At tb.length ct] 32)).alloc (.cells #[.slice none 0 0, .slice none 0 0, .string ⟨#[]⟩, .slice none 0 0] 32)) (w.heap.size) 32 [.slice Ar rs.length cr, .slice As l.length cs, .string key, .slice At tb.length ct] := by simpa using (Blk.new w 32 [.slice Ar rs.length cr, .slice As l.length cs, .string key, .slice At tb.length ct]).alloc (.cells #[.slice none 0 0, .slice none 0 0, .string ⟨#[]⟩, .slice none 0 0] 32)
  have bl1 : w.heap.size + 1 < ((w.alloc (.cells #[.slice Ar rs.length cr, .slice As l.length cs, .string key, .slice At tb.length ct] 32)).alloc (.cells #[.slice none 0 0, .slice none 0 0, .string ⟨#[]⟩, .slice none 0 0] 32)).heap.size := by go_size
  have hk1 : Blk ((w.alloc (.cells #[.slice Ar rs.length cr, .slice As l.length cs, .string key, .slice At tb.length ct] 32)).alloc (.cells #[.slice none 0 0, .slice none 0 0, .string ⟨#[]⟩, .slice none 0 0] 32)) (w.heap.size + 1) 32 [.slice none 0 0, .slice none 0 0, .string ⟨#[]⟩, .slice none 0 0] := by simpa using Blk.new (w.alloc (.cells #[.slice Ar rs.length cr, .slice As l.length cs, .string key, .slice At tb.length ct] 32)) 32 [.slice none 0 0, .slice none 0 0, .string ⟨#[]⟩, .slice none 0 0]
  have r_r := r_r.below k0
  have r_s := r_s.below k0
  have r_t := r_t.below k0
  have r_f := r_f.below k0
  have p0 := k0.size
  generalize hW0 : ((w.alloc (.cells #[.slice Ar rs.length cr, .slice As l.length cs, .string key, .slice At tb.length ct] 32)).alloc (.cells #[.slice none 0 0, .slice none 0 0, .string ⟨#[]⟩, .slice none 0 0] 32)) = w0 at *
  clear hW0
  refine (hcp _ (r_r.more (by omega)) (r_s.more (by omega)) (r_t.more (by omega))).mono ?_
  rintro e w1 ⟨v, rfl, ⟨A_x, c_x, A_y, c_y, A_z, c_z, rfl, o_x, o_y, o_z⟩, hb⟩
  have k1 : Below w.heap.size w w1 := ext_step k0 (by omega) hb
  have p1 := hb.size
  replace hk0 := hk0.ext hb
  replace hk1 := hk1.ext hb
  have bl0 := Nat.lt_of_lt_of_le bl0 hb.size
  have bl1 := Nat.lt_of_lt_of_le bl1 hb.size
  replace r_r := r_r.below (hb.mono (by omega))
  replace r_s := r_s.below (hb.mono (by omega))
  replace r_t := r_t.below (hb.mono (by omega))
  replace r_f := r_f.below (hb.mono (by omega))
  have r_x := Reads.of_own o_x
  have u_x := fun k hk => (o_x.lt k hk).2
  have r_y := Reads.of_own o_y
  have u_y := fun k hk => (o_y.lt k hk).2
  have r_z := Reads.of_own o_z
  have u_z := fun k hk => (o_z.lt k hk).2
  clear hb
  have bx0_0 := hk0.at_ 0 _ rfl
  have bx0_1 := hk0.at_ 1 _ rfl
  have bx0_2 := hk0.at_ 2 _ rfl
  have bx0_3 := hk0.at_ 3 _ rfl
  go_wp2_with fail
  obtain ⟨w2, hW0⟩ : ∃ W, W = (w1.alloc (.cells #[.slice A_x rs.length c_x, .slice A_y l.length c_y, .string key, .slice A_z tb.length c_z] 32)) := ⟨_, rfl⟩
  have hb : Below w1.heap.size w1 w2 := by rw [hW0]; go_grown
  have bl2 : w1.heap.size < w2.heap.size := by rw [hW0]; go_size
  have hk2 : Blk w2 (w1.heap.size) 32 [.slice A_x rs.length c_x, .slice A_y l.length c_y, .string key, .slice A_z tb.length c_z] := by rw [hW0]; exact Blk.new _ _ _
  rw [← hW0]
  clear hW0
  have k2 := ext_step k1 (by omega) hb
  have p2 := hb.size
  replace hk0 := hk0.ext hb
  replace hk1 := hk1.ext hb
  clear bx0_0 bx0_1 bx0_2 bx0_3
  have bl0 := Nat.lt_of_lt_of_le bl0 hb.size
  have bl1 := Nat.lt_of_lt_of_le bl1 hb.size
  replace r_r := r_r.below (hb.mono (by omega))
  replace r_s := r_s.below (hb.mono (by omega))
  replace r_t := r_t.below (hb.mono (by omega))
  replace r_f := r_f.below (hb.mono (by omega))
  replace r_x := r_x.below (hb.mono (by omega))
  replace o_x := own_ext o_x hb
  replace r_y := r_y.below (hb.mono (by omega))
  replace o_y := own_ext o_y hb
  replace r_z := r_z.below (hb.mono (by omega))
  replace o_z := own_ext o_z hb
  clear hb
  refine (hok _ (r_r.more (by omega)) (r_s.more (by omega)) (r_t.more (by omega))).mono ?_
  rintro e w3 ⟨rfl, hb⟩
  have k3 : Below w.heap.size w w3 := ext_step k2 (by omega) hb
  have p3 := hb.size
  replace hk0 := hk0.ext hb
  replace hk1 := hk1.ext hb
  replace hk2 := hk2.ext hb
  have bl0 := Nat.lt_of_lt_of_le bl0 hb.size
  have bl1 := Nat.lt_of_lt_of_le bl1 hb.size
  have bl2 := Nat.lt_of_lt_of_le bl2 hb.size
  replace r_r := r_r.below (hb.mono (by omega))
  replace r_s := r_s.below (hb.mono (by omega))
  replace r_t := r_t.below (hb.mono (by omega))
  replace r_f := r_f.below (hb.mono (by omega))
  replace r_x := r_x.below (hb.mono (by omega))
  replace o_x := own_ext o_x hb
  replace r_y := r_y.below (hb.mono (by omega))
  replace o_y := own_ext o_y hb
  replace r_z := r_z.below (hb.mono (by omega))
  replace o_z := own_ext o_z hb
  clear hb
  have bx2_0 := hk2.at_ 0 _ rfl
  have bx2_1 := hk2.at_ 1 _ rfl
  have bx2_2 := hk2.at_ 2 _ rfl
  have bx2_3 := hk2.at_ 3 _ rfl
  have bx1_0 := hk1.at_ 0 _ rfl
  have fz1_0 := hk1.frozen 0
  have bx1_1 := hk1.at_ 1 _ rfl
  have fz1_1 := hk1.frozen 1
  have bx1_2 := hk1.at_ 2 _ rfl
  have fz1_2 := hk1.frozen 2
  have bx1_3 := hk1.at_ 3 _ rfl
  have fz1_3 := hk1.frozen 3
  go_wp2_with fail
  have hko := hk1
  have hcc := ChgA.refl (w.heap.size + 1) w3
  obtain ⟨w4_0, hW0⟩ : ∃ W, W = w3.setCell ⟨w.heap.size + 1, 0, none⟩ (.slice A_x rs.length c_x) := ⟨_, rfl⟩
  replace hcc : ChgA (w.heap.size + 1) w3 w4_0 := by rw [hW0]; exact hcc.set _ _
  replace hk1 : Blk w4_0 (w.heap.size + 1) 32 [.slice A_x rs.length c_x, .slice none 0 0, .string ⟨#[]⟩, .slice none 0 0] := by rw [hW0]; exact hk1.set_ 0 _
  rw [← hW0]
  clear hW0
  obtain ⟨w4_1, hW0⟩ : ∃ W, W = w4_0.setCell ⟨w.heap.size + 1, 1, none⟩ (.slice A_y l.length c_y) := ⟨_, rfl⟩
  replace hcc : ChgA (w.heap.size + 1) w3 w4_1 := by rw [hW0]; exact hcc.set _ _
  replace hk1 : Blk w4_1 (w.heap.size + 1) 32 [.slice A_x rs.length c_x, .slice A_y l.length c_y, .string ⟨#[]⟩, .slice none 0 0] := by rw [hW0]; exact hk1.set_ 1 _
  rw [← hW0]
  clear hW0
  obtain ⟨w4_2, hW0⟩ : ∃ W, W = w4_1.setCell ⟨w.heap.size + 1, 2, none⟩ (.string key) := ⟨_, rfl⟩
  replace hcc : ChgA (w.heap.size + 1) w3 w4_2 := by rw [hW0]; exact hcc.set _ _
  replace hk1 : Blk w4_2 (w.heap.size + 1) 32 [.slice A_x rs.length c_x, .slice A_y l.length c_y, .string key, .slice none 0 0] := by rw [hW0]; exact hk1.set_ 2 _
  rw [← hW0]
  clear hW0
  obtain ⟨w4, hW0⟩ : ∃ W, W = w4_2.setCell ⟨w.heap.size + 1, 3, none⟩ (.slice A_z tb.length c_z) := ⟨_, rfl⟩
  replace hcc : ChgA (w.heap.size + 1) w3 w4 := by rw [hW0]; exact hcc.set _ _
  replace hk1 : Blk w4 (w.heap.size + 1) 32 [.slice A_x rs.length c_x, .slice A_y l.length c_y, .string key, .slice A_z tb.length c_z] := by rw [hW0]; exact hk1.set_ 3 _
  rw [← hW0]
  clear hW0
  have hc := hcc
  replace o_x := own_chgA o_x hc (own_ty o_x hko (by decide))
  replace o_y := own_chgA o_y hc (own_ty o_y hko (by decide))
  replace o_z := own_chgA o_z hc (own_ty o_z hko (by decide))
  replace hk0 := hk0.chgA hc (by omega)
  replace hk2 := hk2.chgA hc (by omega)
  have k4 := hc.below (by omega) k3
  have p4 := hc.size
  replace bl0 := Nat.lt_of_lt_of_le bl0 (Nat.le_of_eq p4.symm)
  replace bl1 := Nat.lt_of_lt_of_le bl1 (Nat.le_of_eq p4.symm)
  replace bl2 := Nat.lt_of_lt_of_le bl2 (Nat.le_of_eq p4.symm)
  clear hc hcc
  clear bx2_0 bx2_1 bx2_2 bx2_3 bx1_0 fz1_0 bx1_1 fz1_1 bx1_2 fz1_2 bx1_3 fz1_3
  have bx1_0 := hk1.at_ 0 _ rfl
  have bx1_1 := hk1.at_ 1 _ rfl
  have bx1_2 := hk1.at_ 2 _ rfl
  have bx1_3 := hk1.at_ 3 _ rfl
  refine bodyPost_ret (v := .tuple #[.agg #[.slice A_x rs.length c_x, .slice A_y l.length c_y, .string key, .slice A_z tb.length c_z], .int .i64 0]) (by simp [results, Try.results13, asAddr, Result.andThen, go_sem, bx1_0, bx1_1, bx1_2, bx1_3]) rfl ?_
  exact ⟨_, rfl, ⟨A_x, c_x, A_y, c_y, A_z, c_z, rfl, own_base o_x (by omega), own_base o_y (by omega), own_base o_z (by omega)⟩, k4⟩
set_option maxRecDepth 100000 in
set_option maxHeartbeats 4000000 in
theorem implPN_b (Ar : Option Addr) (cr : Nat) (rs : List Rule) (As : Option Addr) (cs : Nat) (l : List Slot) (key : ByteArray) (At : Option Addr) (ct : Nat) (tb : List Int) (q : Int) (Af : Option Addr) (nf cf : Nat) (fs : List Flow) (qq : Int) (w : World) (hmr : rs.length ≤ 1048576) (hms : l.length ≤ 1048576) (hmt : tb.length ≤ 1048576) (r_r : Reads w w.heap.size 9 Ar rs.length (rs.flatMap Rule.cells)) (r_s : Reads w w.heap.size 7 As l.length (l.flatMap Slot.cells)) (r_t : Reads w w.heap.size 1 At tb.length (tb.flatMap fun x : Int => [Value.int .i64 x])) (hnf : fs.length = nf) (hmf : nf ≤ 1048576) (r_f : Reads w w.heap.size 5 Af nf (fs.flatMap Flow.cells)) (hcp : ∀ u : World, Reads u u.heap.size 9 Ar rs.length (rs.flatMap Rule.cells) → Reads u u.heap.size 7 As l.length (l.flatMap Slot.cells) → Reads u u.heap.size 1 At tb.length (tb.flatMap fun x : Int => [Value.int .i64 x]) → Calls Try.prog 27 #[.agg #[.slice Ar rs.length cr, .slice As l.length cs, .string key, .slice At tb.length ct]] u fun e w' => ∃ v, e = .returned v ∧ SteO u.heap.size rs l key tb w' v ∧ Below u.heap.size u w') (hok : ∀ u : World, Reads u u.heap.size 9 Ar rs.length (rs.flatMap Rule.cells) → Reads u u.heap.size 7 As l.length (l.flatMap Slot.cells) → Reads u u.heap.size 1 At tb.length (tb.flatMap fun x : Int => [Value.int .i64 x]) → Calls Try.prog 11 #[.agg #[.slice Ar rs.length cr, .slice As l.length cs, .string key, .slice At tb.length ct], .int .i64 q] u fun e w' => e = .returned (.bool true) ∧ Below u.heap.size u w') (hq1 : 1 ≤ q) (hq4 : q ≤ 4) (hbt : ∀ u : World, Calls Try.prog 28 #[.int .i64 qq, .int .i64 0, .int .i64 (q - 1)] u fun e w' => e = .returned (.bool false) ∧ u = w') :
    Calls Try.prog 13 #[.agg #[.slice Ar rs.length cr, .slice As l.length cs, .string key, .slice At tb.length ct], .int .i64 q, .slice Af nf cf, .int .i64 qq] w fun e w' => ∃ v, e = .returned (.tuple #[v, .int .i64 0]) ∧ SteO w.heap.size rs l key tb w' v ∧ Below w.heap.size w w' := by
  go_enter Try.func13, Try.ntmps13
  go_wp2_with fail
  have k0 : Below w.heap.size w ((w.alloc (.cells #[.slice Ar rs.length cr, .slice As l.length cs, .string key, .slice At tb.length ct] 32)).alloc (.cells #[.slice none 0 0, .slice none 0 0, .string ⟨#[]⟩, .slice none 0 0] 32)) := by go_grown
  have bl0 : w.heap.size < ((w.alloc (.cells #[.slice Ar rs.length cr, .slice As l.length cs, .string key, .slice At tb.length ct] 32)).alloc (.cells #[.slice none 0 0, .slice none 0 0, .string ⟨#[]⟩, .slice none 0 0] 32)).heap.size := by go_size
  have hk0 : Blk ((w.alloc (.cells #[.slice Ar rs.length cr, .slice As l.length cs, .string key, .slice At tb.length ct] 32)).alloc (.cells #[.slice none 0 0, .slice none 0 0, .string ⟨#[]⟩, .slice none 0 0] 32)) (w.heap.size) 32 [.slice Ar rs.length cr, .slice As l.length cs, .string key, .slice At tb.length ct] := by simpa using (Blk.new w 32 [.slice Ar rs.length cr, .slice As l.length cs, .string key, .slice At tb.length ct]).alloc (.cells #[.slice none 0 0, .slice none 0 0, .string ⟨#[]⟩, .slice none 0 0] 32)
  have bl1 : w.heap.size + 1 < ((w.alloc (.cells #[.slice Ar rs.length cr, .slice As l.length cs, .string key, .slice At tb.length ct] 32)).alloc (.cells #[.slice none 0 0, .slice none 0 0, .string ⟨#[]⟩, .slice none 0 0] 32)).heap.size := by go_size
  have hk1 : Blk ((w.alloc (.cells #[.slice Ar rs.length cr, .slice As l.length cs, .string key, .slice At tb.length ct] 32)).alloc (.cells #[.slice none 0 0, .slice none 0 0, .string ⟨#[]⟩, .slice none 0 0] 32)) (w.heap.size + 1) 32 [.slice none 0 0, .slice none 0 0, .string ⟨#[]⟩, .slice none 0 0] := by simpa using Blk.new (w.alloc (.cells #[.slice Ar rs.length cr, .slice As l.length cs, .string key, .slice At tb.length ct] 32)) 32 [.slice none 0 0, .slice none 0 0, .string ⟨#[]⟩, .slice none 0 0]
  have r_r := r_r.below k0
  have r_s := r_s.below k0
  have r_t := r_t.below k0
  have r_f := r_f.below k0
  have p0 := k0.size
  generalize hW0 : ((w.alloc (.cells #[.slice Ar rs.length cr, .slice As l.length cs, .string key, .slice At tb.length ct] 32)).alloc (.cells #[.slice none 0 0, .slice none 0 0, .string ⟨#[]⟩, .slice none 0 0] 32)) = w0 at *
  clear hW0
  refine (hcp _ (r_r.more (by omega)) (r_s.more (by omega)) (r_t.more (by omega))).mono ?_
  rintro e w1 ⟨v, rfl, ⟨A_x, c_x, A_y, c_y, A_z, c_z, rfl, o_x, o_y, o_z⟩, hb⟩
  have k1 : Below w.heap.size w w1 := ext_step k0 (by omega) hb
  have p1 := hb.size
  replace hk0 := hk0.ext hb
  replace hk1 := hk1.ext hb
  have bl0 := Nat.lt_of_lt_of_le bl0 hb.size
  have bl1 := Nat.lt_of_lt_of_le bl1 hb.size
  replace r_r := r_r.below (hb.mono (by omega))
  replace r_s := r_s.below (hb.mono (by omega))
  replace r_t := r_t.below (hb.mono (by omega))
  replace r_f := r_f.below (hb.mono (by omega))
  have r_x := Reads.of_own o_x
  have u_x := fun k hk => (o_x.lt k hk).2
  have r_y := Reads.of_own o_y
  have u_y := fun k hk => (o_y.lt k hk).2
  have r_z := Reads.of_own o_z
  have u_z := fun k hk => (o_z.lt k hk).2
  clear hb
  have bx0_0 := hk0.at_ 0 _ rfl
  have bx0_1 := hk0.at_ 1 _ rfl
  have bx0_2 := hk0.at_ 2 _ rfl
  have bx0_3 := hk0.at_ 3 _ rfl
  go_wp2_with fail
  obtain ⟨w2, hW0⟩ : ∃ W, W = (w1.alloc (.cells #[.slice A_x rs.length c_x, .slice A_y l.length c_y, .string key, .slice A_z tb.length c_z] 32)) := ⟨_, rfl⟩
  have hb : Below w1.heap.size w1 w2 := by rw [hW0]; go_grown
  have bl2 : w1.heap.size < w2.heap.size := by rw [hW0]; go_size
  have hk2 : Blk w2 (w1.heap.size) 32 [.slice A_x rs.length c_x, .slice A_y l.length c_y, .string key, .slice A_z tb.length c_z] := by rw [hW0]; exact Blk.new _ _ _
  rw [← hW0]
  clear hW0
  have k2 := ext_step k1 (by omega) hb
  have p2 := hb.size
  replace hk0 := hk0.ext hb
  replace hk1 := hk1.ext hb
  clear bx0_0 bx0_1 bx0_2 bx0_3
  have bl0 := Nat.lt_of_lt_of_le bl0 hb.size
  have bl1 := Nat.lt_of_lt_of_le bl1 hb.size
  replace r_r := r_r.below (hb.mono (by omega))
  replace r_s := r_s.below (hb.mono (by omega))
  replace r_t := r_t.below (hb.mono (by omega))
  replace r_f := r_f.below (hb.mono (by omega))
  replace r_x := r_x.below (hb.mono (by omega))
  replace o_x := own_ext o_x hb
  replace r_y := r_y.below (hb.mono (by omega))
  replace o_y := own_ext o_y hb
  replace r_z := r_z.below (hb.mono (by omega))
  replace o_z := own_ext o_z hb
  clear hb
  refine (hok _ (r_r.more (by omega)) (r_s.more (by omega)) (r_t.more (by omega))).mono ?_
  rintro e w3 ⟨rfl, hb⟩
  have k3 : Below w.heap.size w w3 := ext_step k2 (by omega) hb
  have p3 := hb.size
  replace hk0 := hk0.ext hb
  replace hk1 := hk1.ext hb
  replace hk2 := hk2.ext hb
  have bl0 := Nat.lt_of_lt_of_le bl0 hb.size
  have bl1 := Nat.lt_of_lt_of_le bl1 hb.size
  have bl2 := Nat.lt_of_lt_of_le bl2 hb.size
  replace r_r := r_r.below (hb.mono (by omega))
  replace r_s := r_s.below (hb.mono (by omega))
  replace r_t := r_t.below (hb.mono (by omega))
  replace r_f := r_f.below (hb.mono (by omega))
  replace r_x := r_x.below (hb.mono (by omega))
  replace o_x := own_ext o_x hb
  replace r_y := r_y.below (hb.mono (by omega))
  replace o_y := own_ext o_y hb
  replace r_z := r_z.below (hb.mono (by omega))
  replace o_z := own_ext o_z hb
  clear hb
  go_wp2_with fail
  refine (hbt _).mono ?_
  rintro e w_ ⟨rfl, rfl⟩
  have bx2_0 := hk2.at_ 0 _ rfl
  have bx2_1 := hk2.at_ 1 _ rfl
  have bx2_2 := hk2.at_ 2 _ rfl
  have bx2_3 := hk2.at_ 3 _ rfl
  have bx1_0 := hk1.at_ 0 _ rfl
  have fz1_0 := hk1.frozen 0
  have bx1_1 := hk1.at_ 1 _ rfl
  have fz1_1 := hk1.frozen 1
  have bx1_2 := hk1.at_ 2 _ rfl
  have fz1_2 := hk1.frozen 2
  have bx1_3 := hk1.at_ 3 _ rfl
  have fz1_3 := hk1.frozen 3
  go_wp2_with fail
  have hko := hk1
  have hcc := ChgA.refl (w.heap.size + 1) w3
  obtain ⟨w4_0, hW0⟩ : ∃ W, W = w3.setCell ⟨w.heap.size + 1, 0, none⟩ (.slice A_x rs.length c_x) := ⟨_, rfl⟩
  replace hcc : ChgA (w.heap.size + 1) w3 w4_0 := by rw [hW0]; exact hcc.set _ _
  replace hk1 : Blk w4_0 (w.heap.size + 1) 32 [.slice A_x rs.length c_x, .slice none 0 0, .string ⟨#[]⟩, .slice none 0 0] := by rw [hW0]; exact hk1.set_ 0 _
  rw [← hW0]
  clear hW0
  obtain ⟨w4_1, hW0⟩ : ∃ W, W = w4_0.setCell ⟨w.heap.size + 1, 1, none⟩ (.slice A_y l.length c_y) := ⟨_, rfl⟩
  replace hcc : ChgA (w.heap.size + 1) w3 w4_1 := by rw [hW0]; exact hcc.set _ _
  replace hk1 : Blk w4_1 (w.heap.size + 1) 32 [.slice A_x rs.length c_x, .slice A_y l.length c_y, .string ⟨#[]⟩, .slice none 0 0] := by rw [hW0]; exact hk1.set_ 1 _
  rw [← hW0]
  clear hW0
  obtain ⟨w4_2, hW0⟩ : ∃ W, W = w4_1.setCell ⟨w.heap.size + 1, 2, none⟩ (.string key) := ⟨_, rfl⟩
  replace hcc : ChgA (w.heap.size + 1) w3 w4_2 := by rw [hW0]; exact hcc.set _ _
  replace hk1 : Blk w4_2 (w.heap.size + 1) 32 [.slice A_x rs.length c_x, .slice A_y l.length c_y, .string key, .slice none 0 0] := by rw [hW0]; exact hk1.set_ 2 _
  rw [← hW0]
  clear hW0
  obtain ⟨w4, hW0⟩ : ∃ W, W = w4_2.setCell ⟨w.heap.size + 1, 3, none⟩ (.slice A_z tb.length c_z) := ⟨_, rfl⟩
  replace hcc : ChgA (w.heap.size + 1) w3 w4 := by rw [hW0]; exact hcc.set _ _
  replace hk1 : Blk w4 (w.heap.size + 1) 32 [.slice A_x rs.length c_x, .slice A_y l.length c_y, .string key, .slice A_z tb.length c_z] := by rw [hW0]; exact hk1.set_ 3 _
  rw [← hW0]
  clear hW0
  have hc := hcc
  replace o_x := own_chgA o_x hc (own_ty o_x hko (by decide))
  replace o_y := own_chgA o_y hc (own_ty o_y hko (by decide))
  replace o_z := own_chgA o_z hc (own_ty o_z hko (by decide))
  replace hk0 := hk0.chgA hc (by omega)
  replace hk2 := hk2.chgA hc (by omega)
  have k4 := hc.below (by omega) k3
  have p4 := hc.size
  replace bl0 := Nat.lt_of_lt_of_le bl0 (Nat.le_of_eq p4.symm)
  replace bl1 := Nat.lt_of_lt_of_le bl1 (Nat.le_of_eq p4.symm)
  replace bl2 := Nat.lt_of_lt_of_le bl2 (Nat.le_of_eq p4.symm)
  clear hc hcc
  clear bx2_0 bx2_1 bx2_2 bx2_3 bx1_0 fz1_0 bx1_1 fz1_1 bx1_2 fz1_2 bx1_3 fz1_3
  have bx1_0 := hk1.at_ 0 _ rfl
  have bx1_1 := hk1.at_ 1 _ rfl
  have bx1_2 := hk1.at_ 2 _ rfl
  have bx1_3 := hk1.at_ 3 _ rfl
  refine bodyPost_ret (v := .tuple #[.agg #[.slice A_x rs.length c_x, .slice A_y l.length c_y, .string key, .slice A_z tb.length c_z], .int .i64 0]) (by simp [results, Try.results13, asAddr, Result.andThen, go_sem, bx1_0, bx1_1, bx1_2, bx1_3]) rfl ?_
  exact ⟨_, rfl, ⟨A_x, c_x, A_y, c_y, A_z, c_z, rfl, own_base o_x (by omega), own_base o_y (by omega), own_base o_z (by omega)⟩, k4⟩
set_option maxRecDepth 100000 in
set_option maxHeartbeats 4000000 in
theorem implPN_c (Ar : Option Addr) (cr : Nat) (rs : List Rule) (As : Option Addr) (cs : Nat) (l : List Slot) (key : ByteArray) (At : Option Addr) (ct : Nat) (tb : List Int) (q : Int) (Af : Option Addr) (nf cf : Nat) (fs : List Flow) (qq : Int) (w : World) (hmr : rs.length ≤ 1048576) (hms : l.length ≤ 1048576) (hmt : tb.length ≤ 1048576) (r_r : Reads w w.heap.size 9 Ar rs.length (rs.flatMap Rule.cells)) (r_s : Reads w w.heap.size 7 As l.length (l.flatMap Slot.cells)) (r_t : Reads w w.heap.size 1 At tb.length (tb.flatMap fun x : Int => [Value.int .i64 x])) (hnf : fs.length = nf) (hmf : nf ≤ 1048576) (r_f : Reads w w.heap.size 5 Af nf (fs.flatMap Flow.cells)) (hcp : ∀ u : World, Reads u u.heap.size 9 Ar rs.length (rs.flatMap Rule.cells) → Reads u u.heap.size 7 As l.length (l.flatMap Slot.cells) → Reads u u.heap.size 1 At tb.length (tb.flatMap fun x : Int => [Value.int .i64 x]) → Calls Try.prog 27 #[.agg #[.slice Ar rs.length cr, .slice As l.length cs, .string key, .slice At tb.length ct]] u fun e w' => ∃ v, e = .returned v ∧ SteO u.heap.size rs l key tb w' v ∧ Below u.heap.size u w') (hok : ∀ u : World, Reads u u.heap.size 9 Ar rs.length (rs.flatMap Rule.cells) → Reads u u.heap.size 7 As l.length (l.flatMap Slot.cells) → Reads u u.heap.size 1 At tb.length (tb.flatMap fun x : Int => [Value.int .i64 x]) → Calls Try.prog 11 #[.agg #[.slice Ar rs.length cr, .slice As l.length cs, .string key, .slice At tb.length ct], .int .i64 q] u fun e w' => e = .returned (.bool true) ∧ Below u.heap.size u w') (hq1 : 1 ≤ q) (hq4 : q ≤ 4) (hbt : ∀ u : World, Calls Try.prog 28 #[.int .i64 qq, .int .i64 0, .int .i64 (q - 1)] u fun e w' => e = .returned (.bool true) ∧ u = w') (hput : ∀ (A : Option Addr) (c : Nat) (l2 : List Slot) (x : Flow) (u : World), l2.length = l.length → Reads u u.heap.size 7 A l.length (l2.flatMap Slot.cells) → Calls Try.prog 29 #[.agg #[.slice A l.length c], .agg #[.int .i64 x.kind, .int .i64 x.sip, .int .i64 x.dip, .int .i64 x.sport, .int .i64 x.dport], .int .i64 qq] u fun e w' => ∃ A' c', e = .returned (.tuple #[.agg #[.slice A' l.length c'], .bool (tpB l2 x qq)]) ∧ w'.ownsRow u.heap.size 61 7 (.slice A' l.length c') l.length ((tpL l2 x qq).flatMap Slot.cells) ∧ Below u.heap.size u w') :
    Calls Try.prog 13 #[.agg #[.slice Ar rs.length cr, .slice As l.length cs, .string key, .slice At tb.length ct], .int .i64 q, .slice Af nf cf, .int .i64 qq] w fun e w' => ∃ v, e = .returned (.tuple #[v, .int .i64 ((pinK l qq fs fs.length).2 : Nat)]) ∧ SteO w.heap.size rs (pinK l qq fs fs.length).1 key tb w' v ∧ Below w.heap.size w w' := by
  go_enter Try.func13, Try.ntmps13
  go_wp2_with fail
  have k0 : Below w.heap.size w ((w.alloc (.cells #[.slice Ar rs.length cr, .slice As l.length cs, .string key, .slice At tb.length ct] 32)).alloc (.cells #[.slice none 0 0, .slice none 0 0, .string ⟨#[]⟩, .slice none 0 0] 32)) := by go_grown
  have bl0 : w.heap.size < ((w.alloc (.cells #[.slice Ar rs.length cr, .slice As l.length cs, .string key, .slice At tb.length ct] 32)).alloc (.cells #[.slice none 0 0, .slice none 0 0, .string ⟨#[]⟩, .slice none 0 0] 32)).heap.size := by go_size
  have hk0 : Blk ((w.alloc (.cells #[.slice Ar rs.length cr, .slice As l.length cs, .string key, .slice At tb.length ct] 32)).alloc (.cells #[.slice none 0 0, .slice none 0 0, .string ⟨#[]⟩, .slice none 0 0] 32)) (w.heap.size) 32 [.slice Ar rs.length cr, .slice As l.length cs, .string key, .slice At tb.length ct] := by simpa using (Blk.new w 32 [.slice Ar rs.length cr, .slice As l.length cs, .string key, .slice At tb.length ct]).alloc (.cells #[.slice none 0 0, .slice none 0 0, .string ⟨#[]⟩, .slice none 0 0] 32)
  have bl1 : w.heap.size + 1 < ((w.alloc (.cells #[.slice Ar rs.length cr, .slice As l.length cs, .string key, .slice At tb.length ct] 32)).alloc (.cells #[.slice none 0 0, .slice none 0 0, .string ⟨#[]⟩, .slice none 0 0] 32)).heap.size := by go_size
  have hk1 : Blk ((w.alloc (.cells #[.slice Ar rs.length cr, .slice As l.length cs, .string key, .slice At tb.length ct] 32)).alloc (.cells #[.slice none 0 0, .slice none 0 0, .string ⟨#[]⟩, .slice none 0 0] 32)) (w.heap.size + 1) 32 [.slice none 0 0, .slice none 0 0, .string ⟨#[]⟩, .slice none 0 0] := by simpa using Blk.new (w.alloc (.cells #[.slice Ar rs.length cr, .slice As l.length cs, .string key, .slice At tb.length ct] 32)) 32 [.slice none 0 0, .slice none 0 0, .string ⟨#[]⟩, .slice none 0 0]
  have r_r := r_r.below k0
  have r_s := r_s.below k0
  have r_t := r_t.below k0
  have r_f := r_f.below k0
  have p0 := k0.size
  generalize hW0 : ((w.alloc (.cells #[.slice Ar rs.length cr, .slice As l.length cs, .string key, .slice At tb.length ct] 32)).alloc (.cells #[.slice none 0 0, .slice none 0 0, .string ⟨#[]⟩, .slice none 0 0] 32)) = w0 at *
  clear hW0
  refine (hcp _ (r_r.more (by omega)) (r_s.more (by omega)) (r_t.more (by omega))).mono ?_
  rintro e w1 ⟨v, rfl, ⟨A_x, c_x, A_y, c_y, A_z, c_z, rfl, o_x, o_y, o_z⟩, hb⟩
  have k1 : Below w.heap.size w w1 := ext_step k0 (by omega) hb
  have p1 := hb.size
  replace hk0 := hk0.ext hb
  replace hk1 := hk1.ext hb
  have bl0 := Nat.lt_of_lt_of_le bl0 hb.size
  have bl1 := Nat.lt_of_lt_of_le bl1 hb.size
  replace r_r := r_r.below (hb.mono (by omega))
  replace r_s := r_s.below (hb.mono (by omega))
  replace r_t := r_t.below (hb.mono (by omega))
  replace r_f := r_f.below (hb.mono (by omega))
  have r_x := Reads.of_own o_x
  have u_x := fun k hk => (o_x.lt k hk).2
  have r_y := Reads.of_own o_y
  have u_y := fun k hk => (o_y.lt k hk).2
  have r_z := Reads.of_own o_z
  have u_z := fun k hk => (o_z.lt k hk).2
  clear hb
  have bx0_0 := hk0.at_ 0 _ rfl
  have bx0_1 := hk0.at_ 1 _ rfl
  have bx0_2 := hk0.at_ 2 _ rfl
  have bx0_3 := hk0.at_ 3 _ rfl
  go_wp2_with fail
  obtain ⟨w2, hW0⟩ : ∃ W, W = (w1.alloc (.cells #[.slice A_x rs.length c_x, .slice A_y l.length c_y, .string key, .slice A_z tb.length c_z] 32)) := ⟨_, rfl⟩
  have hb : Below w1.heap.size w1 w2 := by rw [hW0]; go_grown
  have bl2 : w1.heap.size < w2.heap.size := by rw [hW0]; go_size
  have hk2 : Blk w2 (w1.heap.size) 32 [.slice A_x rs.length c_x, .slice A_y l.length c_y, .string key, .slice A_z tb.length c_z] := by rw [hW0]; exact Blk.new _ _ _
  rw [← hW0]
  clear hW0
  have k2 := ext_step k1 (by omega) hb
  have p2 := hb.size
  replace hk0 := hk0.ext hb
  replace hk1 := hk1.ext hb
  clear bx0_0 bx0_1 bx0_2 bx0_3
  have bl0 := Nat.lt_of_lt_of_le bl0 hb.size
  have bl1 := Nat.lt_of_lt_of_le bl1 hb.size
  replace r_r := r_r.below (hb.mono (by omega))
  replace r_s := r_s.below (hb.mono (by omega))
  replace r_t := r_t.below (hb.mono (by omega))
  replace r_f := r_f.below (hb.mono (by omega))
  replace r_x := r_x.below (hb.mono (by omega))
  replace o_x := own_ext o_x hb
  replace r_y := r_y.below (hb.mono (by omega))
  replace o_y := own_ext o_y hb
  replace r_z := r_z.below (hb.mono (by omega))
  replace o_z := own_ext o_z hb
  clear hb
  refine (hok _ (r_r.more (by omega)) (r_s.more (by omega)) (r_t.more (by omega))).mono ?_
  rintro e w3 ⟨rfl, hb⟩
  have k3 : Below w.heap.size w w3 := ext_step k2 (by omega) hb
  have p3 := hb.size
  replace hk0 := hk0.ext hb
  replace hk1 := hk1.ext hb
  replace hk2 := hk2.ext hb
  have bl0 := Nat.lt_of_lt_of_le bl0 hb.size
  have bl1 := Nat.lt_of_lt_of_le bl1 hb.size
  have bl2 := Nat.lt_of_lt_of_le bl2 hb.size
  replace r_r := r_r.below (hb.mono (by omega))
  replace r_s := r_s.below (hb.mono (by omega))
  replace r_t := r_t.below (hb.mono (by omega))
  replace r_f := r_f.below (hb.mono (by omega))
  replace r_x := r_x.below (hb.mono (by omega))
  replace o_x := own_ext o_x hb
  replace r_y := r_y.below (hb.mono (by omega))
  replace o_y := own_ext o_y hb
  replace r_z := r_z.below (hb.mono (by omega))
  replace o_z := own_ext o_z hb
  clear hb
  go_wp2_with fail
  refine (hbt _).mono ?_
  rintro e w_ ⟨rfl, rfl⟩
  have g0 := World.grownBy.refl w3 (some (w1.heap.size))
  have hne12 : w.heap.size + 1 ≠ w1.heap.size := by omega
  have hB2 : w.heap.size ≤ w1.heap.size := by omega
  go_wp2
  go_loopw [11, 32] (fun nv i wi => ∃ (k : Nat) (A' : Option Addr) (c' : Nat), k ≤ nf ∧ i = .int .i64 k ∧ nv = .int .i64 ((pinK l qq fs k).2 : Nat) ∧ w3.grownBy wi (some (w1.heap.size)) ∧ Blk wi (w1.heap.size) 32 [.slice A_x rs.length c_x, .slice A' l.length c', .string key, .slice A_z tb.length c_z] ∧ wi.ownsRow w.heap.size 61 7 (.slice A' l.length c') l.length ((pinK l qq fs k).1.flatMap Slot.cells)) (fun _ i _ => nf - (intOf i).toNat)
  case atStart => exact ⟨0, A_y, c_y, Nat.zero_le _, rfl, rfl, g0, hk2, own_base o_y (by omega)⟩
  case round =>
    obtain ⟨k, A', c', hk, rfl, rfl, hgr, hkb, hoy⟩ := hrel
    have gz := hgr.size
    have kw : Below w.heap.size w wr := Below.grown k3 hgr k3.size (fun b hb => by injection hb with hb; omega)
    have kz := kw.size
    have blb := hkb.lt
    have ple := pinK_le l qq fs k
    by_cases hlt : k < nf
    · obtain ⟨b, o, x, hAe, hbl, hxx, hcx⟩ := r_f.el (cells := Flow.cells) (fun _ => rfl) (by decide) hnf hlt
      subst hAe
      have c0 := (kw.cell (p := ⟨b, o + k * 5, none⟩) (by omega)).trans ((k3.cell (p := ⟨b, o + k * 5, none⟩) (by omega)).symm.trans (by simpa using hcx 0 _ rfl))
      have c1 := (kw.cell (p := ⟨b, o + k * 5 + 1, none⟩) (by omega)).trans ((k3.cell (p := ⟨b, o + k * 5 + 1, none⟩) (by omega)).symm.trans (by simpa using hcx 1 _ rfl))
      have c2 := (kw.cell (p := ⟨b, o + k * 5 + 2, none⟩) (by omega)).trans ((k3.cell (p := ⟨b, o + k * 5 + 2, none⟩) (by omega)).symm.trans (by simpa using hcx 2 _ rfl))
      have c3 := (kw.cell (p := ⟨b, o + k * 5 + 3, none⟩) (by omega)).trans ((k3.cell (p := ⟨b, o + k * 5 + 3, none⟩) (by omega)).symm.trans (by simpa using hcx 3 _ rfl))
      have c4 := (kw.cell (p := ⟨b, o + k * 5 + 4, none⟩) (by omega)).trans ((k3.cell (p := ⟨b, o + k * 5 + 4, none⟩) (by omega)).symm.trans (by simpa using hcx 4 _ rfl))
      have HN := Lib.hid (pinK_next (l := l) (q := qq) hxx)
      clear hxx hcx
      have hll : (pinK l qq fs k).1.length = l.length := pinK_len _ _ _ _
      have hry := Reads.of_own hoy
      obtain ⟨l2, N, hpk⟩ : ∃ l2 N, pinK l qq fs k = (l2, N) := ⟨_, _, rfl⟩
      simp only [hpk] at *
      clear hpk
      have e1w := hkb.at_ 1 _ rfl
      go_wp2_with fail
      clear e1w
      obtain ⟨W1, hW0⟩ : ∃ W, W = wr.alloc (.cells #[.int .i64 x.kind, .int .i64 x.sip, .int .i64 x.dip, .int .i64 x.sport, .int .i64 x.dport] 44) := ⟨_, rfl⟩
      have hb1 : Below wr.heap.size wr W1 := by rw [hW0]; go_grown
      have hkf : Blk W1 wr.heap.size 44 [.int .i64 x.kind, .int .i64 x.sip, .int .i64 x.dip, .int .i64 x.sport, .int .i64 x.dport] := by rw [hW0]; exact Blk.new _ _ _
      rw [← hW0]
      clear hW0
      have hs1 := hb1.size
      have hry1 := hry.to hb1
      refine (hput _ _ l2 x _ hll hry1).mono ?_
      rintro e w2 ⟨A2, c2, rfl, o2, hb2⟩
      have hg2 := only_below (only_below hgr hb1) hb2
      have hkb2 := (hkb.ext hb1).ext hb2
      have hs2 := hb2.size
      have hne2 := own_ty o2 hkb2 (by decide)
      have e1 := hkb2.at_ 1 _ rfl
      have f1 := hkb2.frozen 1
      have blb2 := hkb2.lt
      clear hb1 hb2 hkf
      cases hB : tpB l2 x qq
      · rw [hB] at HN
        go_wp2
        go_roundw
        case rel => exact ⟨k + 1, A2, c2, by omega, by go_num, ret_int0 (by rw [HN.out]; simp), only_below (only_setCell hg2 (.inl rfl) _) ((Below.refl _ _).alloc (Nat.le_refl _) _), (hkb2.set_ 1 _).alloc _, by rw [show (pinK l qq fs (k + 1)).1 = tpL l2 x qq by rw [HN.out]]; exact (own_set_ne (own_base o2 (by omega)) (fun e => hne2 _ e rfl) _).alloc _⟩
        case measure => simp [intOf]; omega
      · rw [hB] at HN
        go_wp2
        go_roundw
        case rel => exact ⟨k + 1, A2, c2, by omega, by go_num, ret_int0 (by rw [HN.out]; simp), only_below (only_setCell hg2 (.inl rfl) _) ((Below.refl _ _).alloc (Nat.le_refl _) _), (hkb2.set_ 1 _).alloc _, by rw [show (pinK l qq fs (k + 1)).1 = tpL l2 x qq by rw [HN.out]]; exact (own_set_ne (own_base o2 (by omega)) (fun e => hne2 _ e rfl) _).alloc _⟩
        case measure => simp [intOf]; omega
    · obtain rfl : nf = k := by omega
      have hbk1 := blk_grown hk1 hgr (fun e => hne12 (by injection e with e; exact e.symm))
      have zz := 0
      have e0 := hkb.at_ 0 _ rfl
      have e1 := hkb.at_ 1 _ rfl
      have e2 := hkb.at_ 2 _ rfl
      have e3 := hkb.at_ 3 _ rfl
      have d0 := hbk1.at_ 0 _ rfl
      have f0 := hbk1.frozen 0
      have d1 := hbk1.at_ 1 _ rfl
      have f1 := hbk1.frozen 1
      have d2 := hbk1.at_ 2 _ rfl
      have f2 := hbk1.frozen 2
      have d3 := hbk1.at_ 3 _ rfl
      have f3 := hbk1.frozen 3
      have hox := own_kept_blk o_x hgr hk2 (by decide)
      have hoz := own_kept_blk o_z hgr hk2 (by decide)
      go_wp2
      have hB := (((hbk1.set_ 0 (.slice A_x rs.length c_x)).set_ 1 (.slice A' l.length c')).set_ 2 (.string key)).set_ 3 (.slice A_z tb.length c_z)
      have z0 := hB.at_ 0 _ rfl
      have z1 := hB.at_ 1 _ rfl
      have z2 := hB.at_ 2 _ rfl
      have z3 := hB.at_ 3 _ rfl
      have n1 := own_ty hox hbk1 (by decide)
      have n2 := own_ty hoy hbk1 (by decide)
      have n3 := own_ty hoz hbk1 (by decide)
      refine bodyPost_ret (v := .tuple #[.agg #[.slice A_x rs.length c_x, .slice A' l.length c', .string key, .slice A_z tb.length c_z], .int .i64 ((pinK l qq fs fs.length).2 : Nat)]) (by simp [results, Try.results13, asAddr, Result.andThen, go_sem, z0, z1, z2, z3, hnf]) rfl ?_
      rw [hnf]
      have hll : (pinK l qq fs nf).1.length = l.length := pinK_len _ _ _ _
      exact ⟨_, rfl, ⟨A_x, c_x, A', c', A_z, c_z, by rw [hll], (own_set_ne (own_set_ne (own_set_ne (own_set_ne (own_base hox (by omega)) (fun e => n1 _ e rfl) _) (fun e => n1 _ e rfl) _) (fun e => n1 _ e rfl) _) (fun e => n1 _ e rfl) _), by rw [hll]; exact (own_set_ne (own_set_ne (own_set_ne (own_set_ne hoy (fun e => n2 _ e rfl) _) (fun e => n2 _ e rfl) _) (fun e => n2 _ e rfl) _) (fun e => n2 _ e rfl) _), (own_set_ne (own_set_ne (own_set_ne (own_set_ne (own_base hoz (by omega)) (fun e => n3 _ e rfl) _) (fun e => n3 _ e rfl) _) (fun e => n3 _ e rfl) _) (fun e => n3 _ e rfl) _)⟩, ((((kw.setCell (show w.heap.size ≤ w.heap.size + 1 by omega) _).setCell (show w.heap.size ≤ w.heap.size + 1 by omega) _).setCell (show w.heap.size ≤ w.heap.size + 1 by omega) _).setCell (show w.heap.size ≤ w.heap.size + 1 by omega) _)⟩
theorem steer_q {rs : List Rule} {l : List Slot} {key : ByteArray} {tb : List Int} {q : Int} (h : steerB rs l key tb q = true) : 1 ≤ q ∧ q ≤ 4 := by
  simp only [steerB, spreadB, inB, Bool.and_eq_true, decide_eq_true_eq] at h
  omega
theorem implPinFlows_c (Ar : Option Addr) (cr : Nat) (rs : List Rule) (As : Option Addr) (cs : Nat) (l : List Slot) (key : ByteArray) (At : Option Addr) (ct : Nat) (tb : List Int) (q : Int) (Af : Option Addr) (nf cf : Nat) (fs : List Flow) (qq : Int) (w : World) (hmr : rs.length ≤ 1048576) (hms : l.length ≤ 1048576) (hmt : tb.length ≤ 1048576) (r_r : Reads w w.heap.size 9 Ar rs.length (rs.flatMap Rule.cells)) (r_s : Reads w w.heap.size 7 As l.length (l.flatMap Slot.cells)) (r_t : Reads w w.heap.size 1 At tb.length (tb.flatMap fun x : Int => [Value.int .i64 x])) (hnf : fs.length = nf) (hmf : nf ≤ 1048576) (r_f : Reads w w.heap.size 5 Af nf (fs.flatMap Flow.cells)) :
    Calls Try.prog 13 #[.agg #[.slice Ar rs.length cr, .slice As l.length cs, .string key, .slice At tb.length ct], .int .i64 q, .slice Af nf cf, .int .i64 qq] w fun e w' => ∃ v, e = .returned (.tuple #[v, .int .i64 (pinN rs l key tb q qq fs)]) ∧ SteO w.heap.size rs (pinL rs l key tb q qq fs) key tb w' v ∧ Below w.heap.size w w' := by
  have hcp := fun (u : World) h1 h2 h3 => copySteering_c Ar cr rs As cs l key At ct tb u hmr hms hmt h1 h2 h3
  have hok := fun (u : World) h1 h2 h3 => implSteeringOk_c Ar rs.length cr rs As l.length cs l key At tb.length ct tb q u rfl hmr h1 rfl hms h2 rfl hmt h3
  have hbt := fun u : World => between_c qq 0 (q - 1) u
  cases h1 : steerB rs l key tb q
  · simp only [h1] at hok
    rw [show pinL rs l key tb q qq fs = l by simp [pinL, pinB, h1], show pinN rs l key tb q qq fs = 0 by simp [pinN, pinB, h1]]
    exact implPN_a Ar cr rs As cs l key At ct tb q Af nf cf fs qq w hmr hms hmt r_r r_s r_t hnf hmf r_f hcp hok
  · simp only [h1] at hok
    obtain ⟨hq1, hq4⟩ := steer_q h1
    cases h2 : inB qq 0 (q - 1)
    · simp only [h2] at hbt
      rw [show pinL rs l key tb q qq fs = l by simp [pinL, pinB, h1, h2], show pinN rs l key tb q qq fs = 0 by simp [pinN, pinB, h1, h2]]
      exact implPN_b Ar cr rs As cs l key At ct tb q Af nf cf fs qq w hmr hms hmt r_r r_s r_t hnf hmf r_f hcp hok hq1 hq4 hbt
    · simp only [h2] at hbt
      rw [show pinL rs l key tb q qq fs = (pinK l qq fs fs.length).1 by simp [pinL, pinB, h1, h2], show pinN rs l key tb q qq fs = (pinK l qq fs fs.length).2 by simp [pinN, pinB, h1, h2]]
      exact implPN_c Ar cr rs As cs l key At ct tb q Af nf cf fs qq w hmr hms hmt r_r r_s r_t hnf hmf r_f hcp hok hq1 hq4 hbt (fun A c l2 x u hl hr => implPutFlow_c A l.length c l2 x qq u hl hms hr)
end Go.Proofs.Ytkfekgmdjemkbaa
