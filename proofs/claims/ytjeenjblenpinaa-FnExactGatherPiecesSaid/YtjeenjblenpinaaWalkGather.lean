/- The walk of laws.FnExactGatherPieces. -/
import Derived.Test.YtjeenjblenpinaaConvMap
import Derived.Test.YtjeenjblenpinaaConvMem
import Derived.Test.YtjeenjblenpinaaConvPiece
import Derived.Test.YtjeenjblenpinaaGather
import Derived.Deep.RegionHeld3
import Derived.Deep.DeepCutAuto
namespace Go.Proofs.Ytjeenjblenpinaa
set_option linter.unusedSimpArgs false
set_option linter.unusedVariables false
open Go.RowKit Go.ChangeShapes Go.WideShapes
theorem below_redrew (w : World) : Below w.drew.heap.size w.drew w := ⟨rfl, rfl, rfl, Nat.le_refl _, fun _ _ => rfl⟩
theorem below_vd {w Y : World} (h : Below w.heap.size w Y) : Below w.drew.heap.size w.drew Y := (below_redrew w).trans h
set_option maxRecDepth 100000 in
set_option maxHeartbeats 8000000 in
theorem fnExactGatherPieces_walk (A : Option Addr) (n c : Nat) (l : List Mapping) (A' : Option Addr) (n' c' : Nat) (l' : List ByteArray) (d : Int) (A3 : Option Addr) (n3 c3 : Nat) (l3 : List Piece) (w : World) (hs : SlMapping w A n c l) (hs' : SlStr w A' n' c' l') (q0 : I64 d) (hs3 : SlPiece w A3 n3 c3 l3) :
    Calls Try.prog 6 #[.slice A n c, .agg #[.slice A' n' c'], .int .i64 d, .slice A3 n3 c3] w fun e w' => e = .returned (.bool true) ∧ Below w.heap.size w w' := by
  obtain ⟨⟨hn_a, hnc_a, hc_a, r_a⟩, hb_a⟩ := hs
  obtain ⟨⟨hn_b, hnc_b, hc_b, r_b⟩, hb_b⟩ := hs'
  obtain ⟨⟨hn_p, hnc_p, hc_p, r_p⟩, hb_p⟩ := hs3
  have hspec := fun A c A' c' A3 c3 w => fun (hm : n ≤ 1048576) (hm' : n' ≤ 1048576) (hm3 : n3 ≤ 1048576) hr hr' hr3 => specGatherPieces_c A A' A3 n c n' c' n3 c3 l l' l3 w hn_a hn_b hn_p hm hm' hm3 hr hr' hr3 d hb_p
  have himpl := fun A c A' c' A3 c3 w => fun (hm : n ≤ 1048576) (hm' : n' ≤ 1048576) (hm3 : n3 ≤ 1048576) hr hr' hr3 => implGatherPieces_c A A' A3 n c n' c' n3 c3 l l' l3 w hn_a hn_b hn_p hm hm' hm3 hr hr' hr3 d hb_p
  generalize gatS l l' d l3 = so at *
  generalize gatB l l' d l3 = bo at *
  have ht_b := totS_nonneg l'
  by_cases hz_a : (1048576 : Int) - n < 0
  · skip
    have hi_a := Lib.hid (szI_neg hz_a)
    go_enter Try.func6, Try.ntmps6
    go_wp2_with fail
    have k0 : Below w.heap.size w (w.alloc (.cells #[.slice A' n' c'] 25)) := by go_grown
    have bx0_0 : (w.alloc (.cells #[.slice A' n' c'] 25)).cell? ⟨w.heap.size, 0, none⟩ = some (.slice A' n' c') := by simp [go_sem]
    have bl0 : w.heap.size < (w.alloc (.cells #[.slice A' n' c'] 25)).heap.size := by go_size
    have r_a := r_a.below k0
    have r_b := r_b.below k0
    have r_p := r_p.below k0
    have p0 := k0.size
    generalize hW0 : (w.alloc (.cells #[.slice A' n' c'] 25)) = w0 at *
    clear hW0
    refine (szMappingS_c2 _ _ _ (1048576 : Int) _ (by omega) (by omega) (by omega)).mono ?_
    rintro e w_ ⟨rfl, rfl⟩
    rw [hi_a.out]
    go_wp2
    go_ret
    exact ⟨rfl, k0⟩
  have hi_a := Lib.hid (szI_nn hz_a)
  by_cases hz_b : ((1048576 : Int) - n) - n' - totS l' < 0
  · skip
    have hi_b := Lib.hid (szI_neg hz_b)
    go_enter Try.func6, Try.ntmps6
    go_wp2_with fail
    have k0 : Below w.heap.size w (w.alloc (.cells #[.slice A' n' c'] 25)) := by go_grown
    have bx0_0 : (w.alloc (.cells #[.slice A' n' c'] 25)).cell? ⟨w.heap.size, 0, none⟩ = some (.slice A' n' c') := by simp [go_sem]
    have bl0 : w.heap.size < (w.alloc (.cells #[.slice A' n' c'] 25)).heap.size := by go_size
    have r_a := r_a.below k0
    have r_b := r_b.below k0
    have r_p := r_p.below k0
    have p0 := k0.size
    generalize hW0 : (w.alloc (.cells #[.slice A' n' c'] 25)) = w0 at *
    clear hW0
    refine (szMappingS_c2 _ _ _ (1048576 : Int) _ (by omega) (by omega) (by omega)).mono ?_
    rintro e w_ ⟨rfl, rfl⟩
    rw [hi_a.out]
    go_wp2_with fail
    refine (szMemory_c _ _ _ l' ((1048576 : Int) - n) _ (by omega) (by omega) hn_b (by omega) (r_b.more (by omega)) hb_b).mono ?_
    rintro e w1 ⟨rfl, hb⟩
    have k1 : Below w.heap.size w w1 := ext_step k0 (by omega) hb
    have p1 := hb.size
    have bx0_0 := ccell hb _ _ _ bx0_0
    have bl0 := Nat.lt_of_lt_of_le bl0 hb.size
    have r_a := r_a.below (hb.mono (by omega))
    have r_b := r_b.below (hb.mono (by omega))
    have r_p := r_p.below (hb.mono (by omega))
    rw [hi_b.out]
    clear hb
    go_wp2
    go_ret
    exact ⟨rfl, k1⟩
  have hi_b := Lib.hid (szI_nn hz_b)
  by_cases hz_p : (((1048576 : Int) - n) - n' - totS l') - n3 < 0
  · skip
    have hi_p := Lib.hid (szI_neg hz_p)
    go_enter Try.func6, Try.ntmps6
    go_wp2_with fail
    have k0 : Below w.heap.size w (w.alloc (.cells #[.slice A' n' c'] 25)) := by go_grown
    have bx0_0 : (w.alloc (.cells #[.slice A' n' c'] 25)).cell? ⟨w.heap.size, 0, none⟩ = some (.slice A' n' c') := by simp [go_sem]
    have bl0 : w.heap.size < (w.alloc (.cells #[.slice A' n' c'] 25)).heap.size := by go_size
    have r_a := r_a.below k0
    have r_b := r_b.below k0
    have r_p := r_p.below k0
    have p0 := k0.size
    generalize hW0 : (w.alloc (.cells #[.slice A' n' c'] 25)) = w0 at *
    clear hW0
    refine (szMappingS_c2 _ _ _ (1048576 : Int) _ (by omega) (by omega) (by omega)).mono ?_
    rintro e w_ ⟨rfl, rfl⟩
    rw [hi_a.out]
    go_wp2_with fail
    refine (szMemory_c _ _ _ l' ((1048576 : Int) - n) _ (by omega) (by omega) hn_b (by omega) (r_b.more (by omega)) hb_b).mono ?_
    rintro e w1 ⟨rfl, hb⟩
    have k1 : Below w.heap.size w w1 := ext_step k0 (by omega) hb
    have p1 := hb.size
    have bx0_0 := ccell hb _ _ _ bx0_0
    have bl0 := Nat.lt_of_lt_of_le bl0 hb.size
    have r_a := r_a.below (hb.mono (by omega))
    have r_b := r_b.below (hb.mono (by omega))
    have r_p := r_p.below (hb.mono (by omega))
    rw [hi_b.out]
    clear hb
    go_wp2_with fail
    refine (szPieceS_c2 _ _ _ (((1048576 : Int) - n) - n' - totS l') _ (by omega) (by omega) (by omega)).mono ?_
    rintro e w_ ⟨rfl, rfl⟩
    rw [hi_p.out]
    go_wp2
    go_ret
    exact ⟨rfl, k1⟩
  have hi_p := Lib.hid (szI_nn hz_p)
  go_enter Try.func6, Try.ntmps6
  go_wp2_with fail
  have k0 : Below w.heap.size w (w.alloc (.cells #[.slice A' n' c'] 25)) := by go_grown
  have bx0_0 : (w.alloc (.cells #[.slice A' n' c'] 25)).cell? ⟨w.heap.size, 0, none⟩ = some (.slice A' n' c') := by simp [go_sem]
  have bl0 : w.heap.size < (w.alloc (.cells #[.slice A' n' c'] 25)).heap.size := by go_size
  have r_a := r_a.below k0
  have r_b := r_b.below k0
  have r_p := r_p.below k0
  have p0 := k0.size
  generalize hW0 : (w.alloc (.cells #[.slice A' n' c'] 25)) = w0 at *
  clear hW0
  refine (szMappingS_c2 _ _ _ (1048576 : Int) _ (by omega) (by omega) (by omega)).mono ?_
  rintro e w_ ⟨rfl, rfl⟩
  rw [hi_a.out]
  go_wp2_with fail
  refine (szMemory_c _ _ _ l' ((1048576 : Int) - n) _ (by omega) (by omega) hn_b (by omega) (r_b.more (by omega)) hb_b).mono ?_
  rintro e w1 ⟨rfl, hb⟩
  have k1 : Below w.heap.size w w1 := ext_step k0 (by omega) hb
  have p1 := hb.size
  have bx0_0 := ccell hb _ _ _ bx0_0
  have bl0 := Nat.lt_of_lt_of_le bl0 hb.size
  have r_a := r_a.below (hb.mono (by omega))
  have r_b := r_b.below (hb.mono (by omega))
  have r_p := r_p.below (hb.mono (by omega))
  rw [hi_b.out]
  clear hb
  go_wp2_with fail
  refine (szPieceS_c2 _ _ _ (((1048576 : Int) - n) - n' - totS l') _ (by omega) (by omega) (by omega)).mono ?_
  rintro e w_ ⟨rfl, rfl⟩
  rw [hi_p.out]
  have hs_a : n ≤ 1048576 := by omega
  have hs_b : n' ≤ 1048576 := by omega
  have hs_p : n3 ≤ 1048576 := by omega
  go_upto_region 11 with fail
  go_cut [10, 11] (fun s10 s11 wx => s10 = .string so ∧ s11 = .bool bo ∧ Below w1.heap.size w1 wx)
  case first =>
    have kc : Below w1.heap.size w1 w1.drew := (Below.refl _ _).drew
    have hb := kc
    have pz := kc.size
    have oo_bx0_0 := bx0_0
    have bx0_0 := ccell hb _ _ _ bx0_0
    have r_a := r_a.below (hb.mono (by omega))
    have r_b := r_b.below (hb.mono (by omega))
    have r_p := r_p.below (hb.mono (by omega))
    clear hb pz
    go_region_held3 (fun w' => w'.cell? ⟨w.heap.size, 0, none⟩ = some (.slice A' n' c')) (first | exact bx0_0 | exact oo_bx0_0 | exact (World.cell?_alloc_lt _ _ _ (cell_block_lt bx0_0)).trans bx0_0 | (skip <;> first | (simp [go_sem]; done) | (simp [go_sem, *]; done)))
      (first
        | (go_at_call 18; refine (toMappingS_c _ _ _ l _ hn_a hs_a ?hrd).mono ?_; (case hrd => first | exact r_a.more (by have := kc.size; omega) | (refine (r_a.more (by have := kc.size; omega)).to ?_; first | (refine below_vd ?_; go_grown; done) | (go_grown; done))); rintro e wt ⟨g_t, rfl, hg_t, b_t, hbY⟩; have hb := below_via kc (by first | exact Below.refl _ _ | (refine below_vd ?_; go_grown; done) | (go_grown; done)) hbY; have pz := kc.size; have bx0_0 := ccell hb _ _ _ bx0_0; have r_a := r_a.below (hb.mono (by omega)); have r_b := r_b.below (hb.mono (by omega)); have r_p := r_p.below (hb.mono (by omega)); (try (have r_u := r_u.to hb)); (try (have r_v := r_v.to hb)); have kc := ext_step kc kc.size hb; have r_t := b_t.reads (size := 4) (n := n) (by rw [flatMap_len _ 4 (fun _ => rfl), hn_a]); (try clear hb hbY pz))
        | (go_at_call 19; refine (toMemory_c _ _ _ l' _ hn_b hs_b ?hrd).mono ?_; (case hrd => first | exact r_b.more (by have := kc.size; omega) | (refine (r_b.more (by have := kc.size; omega)).to ?_; first | (refine below_vd ?_; go_grown; done) | (go_grown; done))); rintro e wt ⟨g_u, rfl, hg_u, b_u, hbY⟩; have hb := below_via kc (by first | exact Below.refl _ _ | (refine below_vd ?_; go_grown; done) | (go_grown; done)) hbY; have pz := kc.size; have bx0_0 := ccell hb _ _ _ bx0_0; have r_a := r_a.below (hb.mono (by omega)); have r_b := r_b.below (hb.mono (by omega)); have r_p := r_p.below (hb.mono (by omega)); (try (have r_t := r_t.to hb)); (try (have r_v := r_v.to hb)); have kc := ext_step kc kc.size hb; have r_u := b_u.reads (size := 1) (n := n') (by rw [flatMap_len _ 1 (fun _ => rfl), hn_b]); (try clear hb hbY pz))
        | (go_at_call 32; refine (toPieceS_c _ _ _ l3 _ hn_p hs_p ?hrd).mono ?_; (case hrd => first | exact r_p.more (by have := kc.size; omega) | (refine (r_p.more (by have := kc.size; omega)).to ?_; first | (refine below_vd ?_; go_grown; done) | (go_grown; done))); rintro e wt ⟨g_v, rfl, hg_v, b_v, hbY⟩; have hb := below_via kc (by first | exact Below.refl _ _ | (refine below_vd ?_; go_grown; done) | (go_grown; done)) hbY; have pz := kc.size; have bx0_0 := ccell hb _ _ _ bx0_0; have r_a := r_a.below (hb.mono (by omega)); have r_b := r_b.below (hb.mono (by omega)); have r_p := r_p.below (hb.mono (by omega)); (try (have r_t := r_t.to hb)); (try (have r_u := r_u.to hb)); have kc := ext_step kc kc.size hb; have r_v := b_v.reads (size := 2) (n := n3) (by rw [flatMap_len _ 2 (fun _ => rfl), hn_p]); (try clear hb hbY pz))
        | (go_at_call 31; refine (hspec _ _ _ _ _ _ _ hs_a hs_b hs_p ?hrt ?hru ?hrv).mono ?_; (case hrt => first | exact r_t | (refine r_t.to ?_; first | (refine below_vd ?_; go_grown; done) | (go_grown; done))); (case hru => first | exact r_u | (refine r_u.to ?_; first | (refine below_vd ?_; go_grown; done) | (go_grown; done))); (case hrv => first | exact r_v | (refine r_v.to ?_; first | (refine below_vd ?_; go_grown; done) | (go_grown; done))); rintro e wt ⟨rfl, hbY⟩; have pv := kc.size; have pY : _ ≤ _ := (below_via_size kc (by first | exact Below.refl _ _ | (refine below_vd ?_; go_grown; done) | (go_grown; done)) hbY); have hb := below_via kc (by first | exact Below.refl _ _ | (refine below_vd ?_; go_grown; done) | (go_grown; done)) hbY; have bx0_0 := ccell hb _ _ _ bx0_0; have kc := ext_step kc kc.size hb))
    all_goals (go_wp2_with fail; go_meet; exact ⟨rfl, rfl, (by first | exact kc | exact kc.alloc kc.size _ | exact kc.setCell (by (try dsimp only); omega) _ | go_grown)⟩)
  case rest =>
    obtain ⟨rfl, rfl, hb⟩ := hcut
    generalize hW0 : wc = w2 at *
    clear hW0
    have k2 : Below w.heap.size w w2 := ext_step k1 (by omega) hb
    have p2 := hb.size
    have bx0_0 := ccell hb _ _ _ bx0_0
    have bl0 := Nat.lt_of_lt_of_le bl0 hb.size
    have r_a := r_a.below (hb.mono (by omega))
    have r_b := r_b.below (hb.mono (by omega))
    have r_p := r_p.below (hb.mono (by omega))
    clear hb
    go_wp2_with fail
    refine (toMappingS_c _ _ _ l _ hn_a hs_a (r_a.more (by omega))).mono ?_
    rintro e w3 ⟨g_x, rfl, hg_x, b_x, hb⟩
    have k3 : Below w.heap.size w w3 := ext_step k2 (by omega) hb
    have p3 := hb.size
    have bx0_0 := ccell hb _ _ _ bx0_0
    have bl0 := Nat.lt_of_lt_of_le bl0 hb.size
    have r_a := r_a.below (hb.mono (by omega))
    have r_b := r_b.below (hb.mono (by omega))
    have r_p := r_p.below (hb.mono (by omega))
    have r_x := b_x.reads (size := 4) (n := n) (by rw [flatMap_len _ 4 (fun _ => rfl), hn_a])
    have o_x := b_x.own (base := w2.heap.size) (size := 4) (n := n) hg_x (by rw [flatMap_len _ 4 (fun _ => rfl), hn_a]) (by unfold maxLen; omega) rfl
    have u_x := fun k hk => (o_x.lt k hk).2
    clear hb
    go_wp2_with fail
    refine (toMemory_c _ _ _ l' _ hn_b hs_b (r_b.more (by omega))).mono ?_
    rintro e w4 ⟨g_y, rfl, hg_y, b_y, hb⟩
    have k4 : Below w.heap.size w w4 := ext_step k3 (by omega) hb
    have p4 := hb.size
    have bx0_0 := ccell hb _ _ _ bx0_0
    have bl0 := Nat.lt_of_lt_of_le bl0 hb.size
    have r_a := r_a.below (hb.mono (by omega))
    have r_b := r_b.below (hb.mono (by omega))
    have r_p := r_p.below (hb.mono (by omega))
    have r_x := r_x.below (hb.mono (by omega))
    have o_x := own_ext o_x hb
    have r_y := b_y.reads (size := 1) (n := n') (by rw [flatMap_len _ 1 (fun _ => rfl), hn_b])
    have o_y := b_y.own (base := w3.heap.size) (size := 1) (n := n') hg_y (by rw [flatMap_len _ 1 (fun _ => rfl), hn_b]) (by unfold maxLen; omega) rfl
    have u_y := fun k hk => (o_y.lt k hk).2
    clear hb
    go_wp2_with fail
    have hb : Below w4.heap.size w4 (w4.alloc (.cells #[.slice (some ⟨g_y, 0, none⟩) n' n'] 32)) := by go_grown
    have bx1_0 : (w4.alloc (.cells #[.slice (some ⟨g_y, 0, none⟩) n' n'] 32)).cell? ⟨w4.heap.size, 0, none⟩ = some (.slice (some ⟨g_y, 0, none⟩) n' n') := by simp [go_sem]
    have bl1 : w4.heap.size < (w4.alloc (.cells #[.slice (some ⟨g_y, 0, none⟩) n' n'] 32)).heap.size := by go_size
    generalize hW0 : (w4.alloc (.cells #[.slice (some ⟨g_y, 0, none⟩) n' n'] 32)) = w5 at *
    clear hW0
    have k5 : Below w.heap.size w w5 := ext_step k4 (by omega) hb
    have p5 := hb.size
    have bx0_0 := ccell hb _ _ _ bx0_0
    have bl0 := Nat.lt_of_lt_of_le bl0 hb.size
    have r_a := r_a.below (hb.mono (by omega))
    have r_b := r_b.below (hb.mono (by omega))
    have r_p := r_p.below (hb.mono (by omega))
    have r_x := r_x.below (hb.mono (by omega))
    have o_x := own_ext o_x hb
    have r_y := r_y.below (hb.mono (by omega))
    have o_y := own_ext o_y hb
    clear hb
    refine (toPieceS_c _ _ _ l3 _ hn_p hs_p (r_p.more (by omega))).mono ?_
    rintro e w6 ⟨g_q, rfl, hg_q, b_q, hb⟩
    have k6 : Below w.heap.size w w6 := ext_step k5 (by omega) hb
    have p6 := hb.size
    have bx0_0 := ccell hb _ _ _ bx0_0
    have bx1_0 := ccell hb _ _ _ bx1_0
    have bl0 := Nat.lt_of_lt_of_le bl0 hb.size
    have bl1 := Nat.lt_of_lt_of_le bl1 hb.size
    have r_a := r_a.below (hb.mono (by omega))
    have r_b := r_b.below (hb.mono (by omega))
    have r_p := r_p.below (hb.mono (by omega))
    have r_x := r_x.below (hb.mono (by omega))
    have o_x := own_ext o_x hb
    have r_y := r_y.below (hb.mono (by omega))
    have o_y := own_ext o_y hb
    have r_q := b_q.reads (size := 2) (n := n3) (by rw [flatMap_len _ 2 (fun _ => rfl), hn_p])
    have o_q := b_q.own (base := w5.heap.size) (size := 2) (n := n3) hg_q (by rw [flatMap_len _ 2 (fun _ => rfl), hn_p]) (by unfold maxLen; omega) rfl
    have u_q := fun k hk => (o_q.lt k hk).2
    clear hb
    go_wp2_with fail
    refine (himpl _ _ _ _ _ _ _ hs_a hs_b hs_p (r_x.more (by omega)) (r_y.more (by omega)) (r_q.more (by omega))).mono ?_
    rintro e w7 ⟨rfl, hb⟩
    have k7 : Below w.heap.size w w7 := ext_step k6 (by omega) hb
    have p7 := hb.size
    have bx0_0 := ccell hb _ _ _ bx0_0
    have bx1_0 := ccell hb _ _ _ bx1_0
    have bl0 := Nat.lt_of_lt_of_le bl0 hb.size
    have bl1 := Nat.lt_of_lt_of_le bl1 hb.size
    have r_a := r_a.below (hb.mono (by omega))
    have r_b := r_b.below (hb.mono (by omega))
    have r_p := r_p.below (hb.mono (by omega))
    have r_x := r_x.below (hb.mono (by omega))
    have o_x := own_ext o_x hb
    have r_y := r_y.below (hb.mono (by omega))
    have o_y := own_ext o_y hb
    have r_q := r_q.below (hb.mono (by omega))
    have o_q := own_ext o_q hb
    clear hb
    go_wp2_with fail
    refine (toMappingS_c _ _ _ l _ hn_a hs_a (r_a.more (by omega))).mono ?_
    rintro e w8 ⟨g_z, rfl, hg_z, b_z, hb⟩
    have k8 : Below w.heap.size w w8 := ext_step k7 (by omega) hb
    have p8 := hb.size
    have bx0_0 := ccell hb _ _ _ bx0_0
    have bx1_0 := ccell hb _ _ _ bx1_0
    have bl0 := Nat.lt_of_lt_of_le bl0 hb.size
    have bl1 := Nat.lt_of_lt_of_le bl1 hb.size
    have r_a := r_a.below (hb.mono (by omega))
    have r_b := r_b.below (hb.mono (by omega))
    have r_p := r_p.below (hb.mono (by omega))
    have r_x := r_x.below (hb.mono (by omega))
    have o_x := own_ext o_x hb
    have r_y := r_y.below (hb.mono (by omega))
    have o_y := own_ext o_y hb
    have r_q := r_q.below (hb.mono (by omega))
    have o_q := own_ext o_q hb
    have r_z := b_z.reads (size := 4) (n := n) (by rw [flatMap_len _ 4 (fun _ => rfl), hn_a])
    have o_z := b_z.own (base := w7.heap.size) (size := 4) (n := n) hg_z (by rw [flatMap_len _ 4 (fun _ => rfl), hn_a]) (by unfold maxLen; omega) rfl
    have u_z := fun k hk => (o_z.lt k hk).2
    clear hb
    go_wp2_with fail
    refine (eqMappingS_c _ _ _ _ _ l _ hn_a (by omega) (r_x.more (by omega)) (r_z.more (by omega))).mono ?_
    rintro e w9 ⟨rfl, hb⟩
    have k9 : Below w.heap.size w w9 := ext_step k8 (by omega) hb
    have p9 := hb.size
    have bx0_0 := ccell hb _ _ _ bx0_0
    have bx1_0 := ccell hb _ _ _ bx1_0
    have bl0 := Nat.lt_of_lt_of_le bl0 hb.size
    have bl1 := Nat.lt_of_lt_of_le bl1 hb.size
    have r_a := r_a.below (hb.mono (by omega))
    have r_b := r_b.below (hb.mono (by omega))
    have r_p := r_p.below (hb.mono (by omega))
    have r_x := r_x.below (hb.mono (by omega))
    have o_x := own_ext o_x hb
    have r_y := r_y.below (hb.mono (by omega))
    have o_y := own_ext o_y hb
    have r_q := r_q.below (hb.mono (by omega))
    have o_q := own_ext o_q hb
    have r_z := r_z.below (hb.mono (by omega))
    have o_z := own_ext o_z hb
    clear hb
    go_wp2_with fail
    go_region_held3 (fun w' => w'.cell? ⟨w4.heap.size, 0, none⟩ = some (.slice (some ⟨g_y, 0, none⟩) n' n') ∧ w'.cell? ⟨w.heap.size, 0, none⟩ = some (.slice A' n' c')) (exact ⟨bx1_0, bx0_0⟩)
      (first
        | (go_at_call 19; have hb : Below w9.heap.size w9 w9.drew := (Below.refl _ _).drew; generalize hW0 : w9.drew = w10 at *; clear hW0; have k10 : Below w.heap.size w w10 := ext_step k9 (by omega) hb; have p10 := hb.size; have bx0_0 := ccell hb _ _ _ bx0_0; have bx1_0 := ccell hb _ _ _ bx1_0; have bl0 := Nat.lt_of_lt_of_le bl0 hb.size; have bl1 := Nat.lt_of_lt_of_le bl1 hb.size; have r_a := r_a.below (hb.mono (by omega)); have r_b := r_b.below (hb.mono (by omega)); have r_p := r_p.below (hb.mono (by omega)); have r_x := r_x.below (hb.mono (by omega)); have o_x := own_ext o_x hb; have r_y := r_y.below (hb.mono (by omega)); have o_y := own_ext o_y hb; have r_q := r_q.below (hb.mono (by omega)); have o_q := own_ext o_q hb; clear hb; refine (toMemory_c _ _ _ l' _ hn_b hs_b (r_b.more (by omega))).mono ?_; rintro e w11 ⟨g_z, rfl, hg_z, b_z, hb⟩; have k11 : Below w.heap.size w w11 := ext_step k10 (by omega) hb; have p11 := hb.size; have bx0_0 := ccell hb _ _ _ bx0_0; have bx1_0 := ccell hb _ _ _ bx1_0; have bl0 := Nat.lt_of_lt_of_le bl0 hb.size; have bl1 := Nat.lt_of_lt_of_le bl1 hb.size; have r_a := r_a.below (hb.mono (by omega)); have r_b := r_b.below (hb.mono (by omega)); have r_p := r_p.below (hb.mono (by omega)); have r_x := r_x.below (hb.mono (by omega)); have o_x := own_ext o_x hb; have r_y := r_y.below (hb.mono (by omega)); have o_y := own_ext o_y hb; have r_q := r_q.below (hb.mono (by omega)); have o_q := own_ext o_q hb; have r_z := b_z.reads (size := 1) (n := n') (by rw [flatMap_len _ 1 (fun _ => rfl), hn_b]); have o_z := b_z.own (base := w10.heap.size) (size := 1) (n := n') hg_z (by rw [flatMap_len _ 1 (fun _ => rfl), hn_b]) (by unfold maxLen; omega) rfl; have u_z := fun k hk => (o_z.lt k hk).2; clear hb)
        | (go_at_call 22; refine (eqMemory_c _ _ _ _ _ l' _ hn_b (by omega) (r_y.more (by omega)) (r_z.more (by omega))).mono ?_; rintro e w12 ⟨rfl, hb⟩; have k12 : Below w.heap.size w w12 := ext_step k11 (by omega) hb; have p12 := hb.size; have bx0_0 := ccell hb _ _ _ bx0_0; have bx1_0 := ccell hb _ _ _ bx1_0; have bl0 := Nat.lt_of_lt_of_le bl0 hb.size; have bl1 := Nat.lt_of_lt_of_le bl1 hb.size; have r_a := r_a.below (hb.mono (by omega)); have r_b := r_b.below (hb.mono (by omega)); have r_p := r_p.below (hb.mono (by omega)); have r_x := r_x.below (hb.mono (by omega)); have o_x := own_ext o_x hb; have r_y := r_y.below (hb.mono (by omega)); have o_y := own_ext o_y hb; have r_q := r_q.below (hb.mono (by omega)); have o_q := own_ext o_q hb; have r_z := r_z.below (hb.mono (by omega)); have o_z := own_ext o_z hb; clear hb))
    go_wp2_with fail
    refine (toPieceS_c _ _ _ l3 _ hn_p hs_p (r_p.more (by omega))).mono ?_
    rintro e w13 ⟨g_z, rfl, hg_z, b_z, hb⟩
    have k13 : Below w.heap.size w w13 := ext_step k12 (by omega) hb
    have p13 := hb.size
    have bx0_0 := ccell hb _ _ _ bx0_0
    have bx1_0 := ccell hb _ _ _ bx1_0
    have bl0 := Nat.lt_of_lt_of_le bl0 hb.size
    have bl1 := Nat.lt_of_lt_of_le bl1 hb.size
    have r_a := r_a.below (hb.mono (by omega))
    have r_b := r_b.below (hb.mono (by omega))
    have r_p := r_p.below (hb.mono (by omega))
    have r_x := r_x.below (hb.mono (by omega))
    have o_x := own_ext o_x hb
    have r_y := r_y.below (hb.mono (by omega))
    have o_y := own_ext o_y hb
    have r_q := r_q.below (hb.mono (by omega))
    have o_q := own_ext o_q hb
    have r_z := b_z.reads (size := 2) (n := n3) (by rw [flatMap_len _ 2 (fun _ => rfl), hn_p])
    have o_z := b_z.own (base := w12.heap.size) (size := 2) (n := n3) hg_z (by rw [flatMap_len _ 2 (fun _ => rfl), hn_p]) (by unfold maxLen; omega) rfl
    have u_z := fun k hk => (o_z.lt k hk).2
    clear hb
    go_wp2_with fail
    refine (eqPieceS_c _ _ _ _ _ l3 _ hn_p (by omega) (r_q.more (by omega)) (r_z.more (by omega))).mono ?_
    rintro e w14 ⟨rfl, hb⟩
    have k14 : Below w.heap.size w w14 := ext_step k13 (by omega) hb
    have p14 := hb.size
    have bx0_0 := ccell hb _ _ _ bx0_0
    have bx1_0 := ccell hb _ _ _ bx1_0
    have bl0 := Nat.lt_of_lt_of_le bl0 hb.size
    have bl1 := Nat.lt_of_lt_of_le bl1 hb.size
    have r_a := r_a.below (hb.mono (by omega))
    have r_b := r_b.below (hb.mono (by omega))
    have r_p := r_p.below (hb.mono (by omega))
    have r_x := r_x.below (hb.mono (by omega))
    have o_x := own_ext o_x hb
    have r_y := r_y.below (hb.mono (by omega))
    have o_y := own_ext o_y hb
    have r_q := r_q.below (hb.mono (by omega))
    have o_q := own_ext o_q hb
    have r_z := r_z.below (hb.mono (by omega))
    have o_z := own_ext o_z hb
    clear hb
    go_wp2
    go_ret
    exact ⟨rfl, k14⟩
end Go.Proofs.Ytjeenjblenpinaa
