/- The walk of laws.FnExactHostWrite. -/
import Derived.Test.YtjeenjblenpinaaConvMap
import Derived.Test.YtjeenjblenpinaaConvMem
import Derived.Test.YtjeenjblenpinaaDmaPut
import Derived.Test.YtjeenjblenpinaaHostS
import Derived.Deep.RegionHeld3
import Derived.Deep.DeepCutAuto
namespace Go.Proofs.Ytjeenjblenpinaa
set_option linter.unusedSimpArgs false
set_option linter.unusedVariables false
open Go.RowKit Go.ChangeShapes Go.WideShapes
theorem below_redrew (w : World) : Below w.drew.heap.size w.drew w := ⟨rfl, rfl, rfl, Nat.le_refl _, fun _ _ => rfl⟩
theorem below_vd {w Y : World} (h : Below w.heap.size w Y) : Below w.drew.heap.size w.drew Y := (below_redrew w).trans h
set_option maxRecDepth 100000 in
set_option maxHeartbeats 8000000 in
theorem fnExactHostWrite_walk (A : Option Addr) (n c : Nat) (l : List Mapping) (A' : Option Addr) (n' c' : Nat) (l' : List ByteArray) (d at_ : Int) (s : ByteArray) (w : World) (hs : SlMapping w A n c l) (hs' : SlStr w A' n' c' l') (q0 : I64 d) (q1 : I64 at_) (q2 : s.size ≤ maxLen) :
    Calls Try.prog 5 #[.slice A n c, .agg #[.slice A' n' c'], .int .i64 d, .int .i64 at_, .string s] w fun e w' => e = .returned (.bool true) ∧ Below w.heap.size w w' := by
  obtain ⟨⟨hn_a, hnc_a, hc_a, r_a⟩, hb_a⟩ := hs
  obtain ⟨⟨hn_b, hnc_b, hc_b, r_b⟩, hb_b⟩ := hs'
  unfold maxLen at q2
  by_cases hbig : 1048576 < s.size
  · go_enter Try.func5, Try.ntmps5
    go_wp2
    go_ret
    exact ⟨rfl, by go_grown⟩
  · have hspec := fun A c A' c' w => fun (hm : n ≤ 1048576) (hm' : n' ≤ 1048576) hr hr' => specHostWrite_c A A' n c n' c' l l' w hn_a hn_b hm hm' hr hr' d at_ s q1 (by omega)
    have himpl := fun A c A' c' w => fun (hm : n ≤ 1048576) (hm' : n' ≤ 1048576) hr hr' => implHostWrite_c A A' n c n' c' l l' w hn_a hn_b hm hm' hr hr' d at_ s q1 (by omega)
    have hn_v := dmaW_len l l' d at_ s false
    rw [hn_b] at hn_v
    generalize dmaW l l' d at_ s false = lw at *
    generalize dmaOk l l' d at_ s.size false = bo at *
    have ht_b := totS_nonneg l'
    by_cases hz_a : (1048576 : Int) - n < 0
    · skip
      have hi_a := Lib.hid (szI_neg hz_a)
      go_enter Try.func5, Try.ntmps5
      go_wp2_with fail
      have k0 : Below w.heap.size w (w.alloc (.cells #[.slice A' n' c'] 25)) := by go_grown
      have bx0_0 : (w.alloc (.cells #[.slice A' n' c'] 25)).cell? ⟨w.heap.size, 0, none⟩ = some (.slice A' n' c') := by simp [go_sem]
      have bl0 : w.heap.size < (w.alloc (.cells #[.slice A' n' c'] 25)).heap.size := by go_size
      have r_a := r_a.below k0
      have r_b := r_b.below k0
      have p0 := k0.size
      generalize hW0 : (w.alloc (.cells #[.slice A' n' c'] 25)) = w0 at *
      clear hW0
      refine (szMappingS_c2 _ _ _ (1048576 : Int) _ (by omega) (by omega) (by omega)).mono ?_
      rintro e w_ ⟨rfl, rfl⟩
      rw [hi_a.out]
      go_wp2
      go_ret
      exact ⟨rfl, k0⟩
    have hi_a := Lib.hid (szI_nn hz_a)
    by_cases hz_b : ((1048576 : Int) - n) - n' - totS l' < 0
    · skip
      have hi_b := Lib.hid (szI_neg hz_b)
      go_enter Try.func5, Try.ntmps5
      go_wp2_with fail
      have k0 : Below w.heap.size w (w.alloc (.cells #[.slice A' n' c'] 25)) := by go_grown
      have bx0_0 : (w.alloc (.cells #[.slice A' n' c'] 25)).cell? ⟨w.heap.size, 0, none⟩ = some (.slice A' n' c') := by simp [go_sem]
      have bl0 : w.heap.size < (w.alloc (.cells #[.slice A' n' c'] 25)).heap.size := by go_size
      have r_a := r_a.below k0
      have r_b := r_b.below k0
      have p0 := k0.size
      generalize hW0 : (w.alloc (.cells #[.slice A' n' c'] 25)) = w0 at *
      clear hW0
      refine (szMappingS_c2 _ _ _ (1048576 : Int) _ (by omega) (by omega) (by omega)).mono ?_
      rintro e w_ ⟨rfl, rfl⟩
      rw [hi_a.out]
      go_wp2_with fail
      refine (szMemory_c _ _ _ l' ((1048576 : Int) - n) _ (by omega) (by omega) hn_b (by omega) (r_b.more (by omega)) hb_b).mono ?_
      rintro e w1 ⟨rfl, hb⟩
      have k1 : Below w.heap.size w w1 := ext_step k0 (by omega) hb
      have p1 := hb.size
      have bx0_0 := ccell hb _ _ _ bx0_0
      have bl0 := Nat.lt_of_lt_of_le bl0 hb.size
      have r_a := r_a.below (hb.mono (by omega))
      have r_b := r_b.below (hb.mono (by omega))
      rw [hi_b.out]
      clear hb
      go_wp2
      go_ret
      exact ⟨rfl, k1⟩
    have hi_b := Lib.hid (szI_nn hz_b)
    go_enter Try.func5, Try.ntmps5
    go_wp2_with fail
    have k0 : Below w.heap.size w (w.alloc (.cells #[.slice A' n' c'] 25)) := by go_grown
    have bx0_0 : (w.alloc (.cells #[.slice A' n' c'] 25)).cell? ⟨w.heap.size, 0, none⟩ = some (.slice A' n' c') := by simp [go_sem]
    have bl0 : w.heap.size < (w.alloc (.cells #[.slice A' n' c'] 25)).heap.size := by go_size
    have r_a := r_a.below k0
    have r_b := r_b.below k0
    have p0 := k0.size
    generalize hW0 : (w.alloc (.cells #[.slice A' n' c'] 25)) = w0 at *
    clear hW0
    refine (szMappingS_c2 _ _ _ (1048576 : Int) _ (by omega) (by omega) (by omega)).mono ?_
    rintro e w_ ⟨rfl, rfl⟩
    rw [hi_a.out]
    go_wp2_with fail
    refine (szMemory_c _ _ _ l' ((1048576 : Int) - n) _ (by omega) (by omega) hn_b (by omega) (r_b.more (by omega)) hb_b).mono ?_
    rintro e w1 ⟨rfl, hb⟩
    have k1 : Below w.heap.size w w1 := ext_step k0 (by omega) hb
    have p1 := hb.size
    have bx0_0 := ccell hb _ _ _ bx0_0
    have bl0 := Nat.lt_of_lt_of_le bl0 hb.size
    have r_a := r_a.below (hb.mono (by omega))
    have r_b := r_b.below (hb.mono (by omega))
    rw [hi_b.out]
    clear hb
    have hs_a : n ≤ 1048576 := by omega
    have hs_b : n' ≤ 1048576 := by omega
    go_upto_region 10 with fail
    go_cut [12, 13] (fun s12 s13 wx => ∃ (bk_v : Nat) (A_v : Option Addr) (c_v : Nat), s12 = .pointer (some ⟨bk_v, 0, none⟩) ∧ w1.heap.size ≤ bk_v ∧ bk_v < wx.heap.size ∧ wx.cell? ⟨bk_v, 0, none⟩ = some (.slice A_v n' c_v) ∧ wx.ownsRow w1.heap.size 9 1 (.slice A_v n' c_v) n' (lw.flatMap fun x : ByteArray => [Value.string x]) ∧ (∀ k, (Value.slice A_v n' c_v).ownBlock = some k → k ≠ bk_v) ∧ s13 = .bool bo ∧ Below w1.heap.size w1 wx)
    case first =>
      have kc : Below w1.heap.size w1 w1.drew := (Below.refl _ _).drew
      have hb := kc
      have pz := kc.size
      have oo_bx0_0 := bx0_0
      have bx0_0 := ccell hb _ _ _ bx0_0
      have r_a := r_a.below (hb.mono (by omega))
      have r_b := r_b.below (hb.mono (by omega))
      clear hb pz
      obtain ⟨zc, hzc⟩ : ∃ z, w1.heap.size = z := ⟨_, rfl⟩
      have zk : w1.heap.size ≤ zc := by omega
      go_region_held3 (fun w' => w'.cell? ⟨w.heap.size, 0, none⟩ = some (.slice A' n' c')) (first | exact bx0_0 | exact oo_bx0_0 | exact (World.cell?_alloc_lt _ _ _ (cell_block_lt bx0_0)).trans bx0_0 | (skip <;> first | (simp [go_sem]; done) | (simp [go_sem, *]; done)))
        (first
          | (go_at_call 18; refine (toMappingS_c _ _ _ l _ hn_a hs_a ?hrd).mono ?_; (case hrd => first | exact r_a.more (by have := kc.size; omega) | (refine (r_a.more (by have := kc.size; omega)).to ?_; first | (refine below_vd ?_; go_grown; done) | (go_grown; done))); rintro e wt ⟨g_t, rfl, hg_t, b_t, hbY⟩; have hb := below_via kc (by first | exact Below.refl _ _ | (refine below_vd ?_; go_grown; done) | (go_grown; done)) hbY; have pz := kc.size; (first | (have hq := own_cell hb bzv0 fzv0; obtain ⟨bzv0, fzv0, zzv⟩ := hq) | (have hq := own_cell (b := zc) (o := 0) (v := .slice none 0 0) hbY; have hq2 := hq ?hA ?hB; (case hA => (rw [← hzc]; simp [go_sem]; done)); (case hB => (rw [← hzc]; simp [go_sem]; done)); obtain ⟨bzv0, fzv0, zzv⟩ := hq2; have zzkv := zk; obtain ⟨bkv, hbk⟩ : ∃ b, b = zc := ⟨zc, rfl⟩; subst hbk) | skip); have bx0_0 := ccell hb _ _ _ bx0_0; have r_a := r_a.below (hb.mono (by omega)); have r_b := r_b.below (hb.mono (by omega)); (try (have r_u := r_u.to hb)); have kc := ext_step kc kc.size hb; have r_t := b_t.reads (size := 4) (n := n) (by rw [flatMap_len _ 4 (fun _ => rfl), hn_a]); (try (obtain ⟨zc, hzc⟩ : ∃ z, wt.heap.size = z := ⟨_, rfl⟩)); have zk : w1.heap.size ≤ zc := (by have := kc.size; omega); (try clear hb hbY pz))
          | (go_at_call 19; refine (toMemory_c _ _ _ l' _ hn_b hs_b ?hrd).mono ?_; (case hrd => first | exact r_b.more (by have := kc.size; omega) | (refine (r_b.more (by have := kc.size; omega)).to ?_; first | (refine below_vd ?_; go_grown; done) | (go_grown; done))); rintro e wt ⟨g_u, rfl, hg_u, b_u, hbY⟩; have hb := below_via kc (by first | exact Below.refl _ _ | (refine below_vd ?_; go_grown; done) | (go_grown; done)) hbY; have pz := kc.size; (first | (have hq := own_cell hb bzv0 fzv0; obtain ⟨bzv0, fzv0, zzv⟩ := hq) | (have hq := own_cell (b := zc) (o := 0) (v := .slice none 0 0) hbY; have hq2 := hq ?hA ?hB; (case hA => (rw [← hzc]; simp [go_sem]; done)); (case hB => (rw [← hzc]; simp [go_sem]; done)); obtain ⟨bzv0, fzv0, zzv⟩ := hq2; have zzkv := zk; obtain ⟨bkv, hbk⟩ : ∃ b, b = zc := ⟨zc, rfl⟩; subst hbk) | skip); have bx0_0 := ccell hb _ _ _ bx0_0; have r_a := r_a.below (hb.mono (by omega)); have r_b := r_b.below (hb.mono (by omega)); (try (have r_t := r_t.to hb)); have kc := ext_step kc kc.size hb; have r_u := b_u.reads (size := 1) (n := n') (by rw [flatMap_len _ 1 (fun _ => rfl), hn_b]); (try (obtain ⟨zc, hzc⟩ : ∃ z, wt.heap.size = z := ⟨_, rfl⟩)); have zk : w1.heap.size ≤ zc := (by have := kc.size; omega); (try clear hb hbY pz))
          | (go_at_call 28; refine (hspec _ _ _ _ _ hs_a hs_b ?hrt ?hru).mono ?_; (case hrt => first | exact r_t | (refine r_t.to ?_; first | (refine below_vd ?_; go_grown; done) | (go_grown; done))); (case hru => first | exact r_u | (refine r_u.to ?_; first | (refine below_vd ?_; go_grown; done) | (go_grown; done))); rintro e wt ⟨A_v, c_v, rfl, o_v, hbY⟩; have pv := kc.size; have pY : _ ≤ _ := (below_via_size kc (by first | exact Below.refl _ _ | (refine below_vd ?_; go_grown; done) | (go_grown; done)) hbY); have hb := below_via kc (by first | exact Below.refl _ _ | (refine below_vd ?_; go_grown; done) | (go_grown; done)) hbY; (first | (have hq := own_cell hb bzv0 fzv0; obtain ⟨bzv0, fzv0, zzv⟩ := hq) | (have hq := own_cell (b := zc) (o := 0) (v := .slice none 0 0) hbY; have hq2 := hq ?hA ?hB; (case hA => (rw [← hzc]; simp [go_sem]; done)); (case hB => (rw [← hzc]; simp [go_sem]; done)); obtain ⟨bzv0, fzv0, zzv⟩ := hq2; have zzkv := zk; obtain ⟨bkv, hbk⟩ : ∃ b, b = zc := ⟨zc, rfl⟩; subst hbk) | skip); have bx0_0 := ccell hb _ _ _ bx0_0; have hvv := fun k hk => o_v.lt k hk; (try (have nvvv : ∀ k, (Value.slice A_v n' c_v).ownBlock = some k → k ≠ bkv := ?hN; (case hN => (intro k hk; have h1 := (hvv k hk).1; (try simp at h1); omega)))); have kc := ext_step kc kc.size hb; (try (obtain ⟨zc, hzc⟩ : ∃ z, wt.heap.size = z := ⟨_, rfl⟩)); have zk : w1.heap.size ≤ zc := (by have := kc.size; omega)))
      all_goals (go_wp2_with fail; go_meet; exact ⟨_, A_v, c_v, rfl, (by first | omega | (simp; omega)), (by first | (simp; omega) | (simp; done) | omega | simpa using zzv), (by first | (simp [go_sem, hzc]; done) | (simp [go_sem, *]; done)), (by first | exact own_base (o_v.alloc _) (by omega) | exact own_base (own_set_ne o_v (fun e => nvvv _ e rfl) _) (by omega) | (repeat (first | exact own_base o_v (by omega) | refine own_set_ne ?_ (fun e => nvvv _ e rfl) _))), (by first | exact nvvv | (intro k hk; have := (hvv k hk).2; omega)), rfl, (by first | exact kc | exact kc.alloc kc.size _ | exact kc.setCell (by (try dsimp only); omega) _ | go_grown)⟩)
    case rest =>
      obtain ⟨bk_v, A_v, c_v, rfl, lo1, bl1, bx1_0, o_v, nb_v, rfl, hb⟩ := hcut
      generalize hW0 : wc = w2 at *
      clear hW0
      have k2 : Below w.heap.size w w2 := ext_step k1 (by omega) hb
      have p2 := hb.size
      have bx0_0 := ccell hb _ _ _ bx0_0
      have bl0 := Nat.lt_of_lt_of_le bl0 hb.size
      have r_a := r_a.below (hb.mono (by omega))
      have r_b := r_b.below (hb.mono (by omega))
      clear hb
      have r_v := Reads.of_own o_v
      have u_v := fun k hk => (o_v.lt k hk).2
      go_wp2_with fail
      refine (toMappingS_c _ _ _ l _ hn_a hs_a (r_a.more (by omega))).mono ?_
      rintro e w3 ⟨g_x, rfl, hg_x, b_x, hb⟩
      have k3 : Below w.heap.size w w3 := ext_step k2 (by omega) hb
      have p3 := hb.size
      have bx0_0 := ccell hb _ _ _ bx0_0
      have bx1_0 := ccell hb _ _ _ bx1_0
      have bl0 := Nat.lt_of_lt_of_le bl0 hb.size
      have bl1 := Nat.lt_of_lt_of_le bl1 hb.size
      have r_a := r_a.below (hb.mono (by omega))
      have r_b := r_b.below (hb.mono (by omega))
      have r_v := r_v.below (hb.mono (by omega))
      have o_v := own_ext o_v hb
      have r_x := b_x.reads (size := 4) (n := n) (by rw [flatMap_len _ 4 (fun _ => rfl), hn_a])
      have o_x := b_x.own (base := w2.heap.size) (size := 4) (n := n) hg_x (by rw [flatMap_len _ 4 (fun _ => rfl), hn_a]) (by unfold maxLen; omega) rfl
      have u_x := fun k hk => (o_x.lt k hk).2
      clear hb
      go_wp2_with fail
      refine (toMemory_c _ _ _ l' _ hn_b hs_b (r_b.more (by omega))).mono ?_
      rintro e w4 ⟨g_y, rfl, hg_y, b_y, hb⟩
      have k4 : Below w.heap.size w w4 := ext_step k3 (by omega) hb
      have p4 := hb.size
      have bx0_0 := ccell hb _ _ _ bx0_0
      have bx1_0 := ccell hb _ _ _ bx1_0
      have bl0 := Nat.lt_of_lt_of_le bl0 hb.size
      have bl1 := Nat.lt_of_lt_of_le bl1 hb.size
      have r_a := r_a.below (hb.mono (by omega))
      have r_b := r_b.below (hb.mono (by omega))
      have r_v := r_v.below (hb.mono (by omega))
      have o_v := own_ext o_v hb
      have r_x := r_x.below (hb.mono (by omega))
      have o_x := own_ext o_x hb
      have r_y := b_y.reads (size := 1) (n := n') (by rw [flatMap_len _ 1 (fun _ => rfl), hn_b])
      have o_y := b_y.own (base := w3.heap.size) (size := 1) (n := n') hg_y (by rw [flatMap_len _ 1 (fun _ => rfl), hn_b]) (by unfold maxLen; omega) rfl
      have u_y := fun k hk => (o_y.lt k hk).2
      clear hb
      go_wp2_with fail
      have hb : Below w4.heap.size w4 (w4.alloc (.cells #[.slice (some ⟨g_y, 0, none⟩) n' n'] 32)) := by go_grown
      have bx2_0 : (w4.alloc (.cells #[.slice (some ⟨g_y, 0, none⟩) n' n'] 32)).cell? ⟨w4.heap.size, 0, none⟩ = some (.slice (some ⟨g_y, 0, none⟩) n' n') := by simp [go_sem]
      have bl2 : w4.heap.size < (w4.alloc (.cells #[.slice (some ⟨g_y, 0, none⟩) n' n'] 32)).heap.size := by go_size
      generalize hW0 : (w4.alloc (.cells #[.slice (some ⟨g_y, 0, none⟩) n' n'] 32)) = w5 at *
      clear hW0
      have k5 : Below w.heap.size w w5 := ext_step k4 (by omega) hb
      have p5 := hb.size
      have bx0_0 := ccell hb _ _ _ bx0_0
      have bx1_0 := ccell hb _ _ _ bx1_0
      have bl0 := Nat.lt_of_lt_of_le bl0 hb.size
      have bl1 := Nat.lt_of_lt_of_le bl1 hb.size
      have r_a := r_a.below (hb.mono (by omega))
      have r_b := r_b.below (hb.mono (by omega))
      have r_v := r_v.below (hb.mono (by omega))
      have o_v := own_ext o_v hb
      have r_x := r_x.below (hb.mono (by omega))
      have o_x := own_ext o_x hb
      have r_y := r_y.below (hb.mono (by omega))
      have o_y := own_ext o_y hb
      clear hb
      refine (himpl _ _ _ _ _ hs_a hs_b (r_x.more (by omega)) (r_y.more (by omega))).mono ?_
      rintro e w6 ⟨A_g, c_g, rfl, o_g, hb⟩
      have k6 : Below w.heap.size w w6 := ext_step k5 (by omega) hb
      have p6 := hb.size
      have bx0_0 := ccell hb _ _ _ bx0_0
      have bx1_0 := ccell hb _ _ _ bx1_0
      have bx2_0 := ccell hb _ _ _ bx2_0
      have bl0 := Nat.lt_of_lt_of_le bl0 hb.size
      have bl1 := Nat.lt_of_lt_of_le bl1 hb.size
      have bl2 := Nat.lt_of_lt_of_le bl2 hb.size
      have r_a := r_a.below (hb.mono (by omega))
      have r_b := r_b.below (hb.mono (by omega))
      have r_v := r_v.below (hb.mono (by omega))
      have o_v := own_ext o_v hb
      have r_x := r_x.below (hb.mono (by omega))
      have o_x := own_ext o_x hb
      have r_y := r_y.below (hb.mono (by omega))
      have o_y := own_ext o_y hb
      have r_g := Reads.of_own o_g
      have u_g := fun k hk => (o_g.lt k hk).2
      clear hb
      go_wp2_with fail
      have hb : Below w6.heap.size w6 (w6.alloc (.cells #[.slice A_g n' c_g] 32)) := by go_grown
      have bx3_0 : (w6.alloc (.cells #[.slice A_g n' c_g] 32)).cell? ⟨w6.heap.size, 0, none⟩ = some (.slice A_g n' c_g) := by simp [go_sem]
      have bl3 : w6.heap.size < (w6.alloc (.cells #[.slice A_g n' c_g] 32)).heap.size := by go_size
      generalize hW0 : (w6.alloc (.cells #[.slice A_g n' c_g] 32)) = w7 at *
      clear hW0
      have k7 : Below w.heap.size w w7 := ext_step k6 (by omega) hb
      have p7 := hb.size
      have bx0_0 := ccell hb _ _ _ bx0_0
      have bx1_0 := ccell hb _ _ _ bx1_0
      have bx2_0 := ccell hb _ _ _ bx2_0
      have bl0 := Nat.lt_of_lt_of_le bl0 hb.size
      have bl1 := Nat.lt_of_lt_of_le bl1 hb.size
      have bl2 := Nat.lt_of_lt_of_le bl2 hb.size
      have r_a := r_a.below (hb.mono (by omega))
      have r_b := r_b.below (hb.mono (by omega))
      have r_v := r_v.below (hb.mono (by omega))
      have o_v := own_ext o_v hb
      have r_x := r_x.below (hb.mono (by omega))
      have o_x := own_ext o_x hb
      have r_y := r_y.below (hb.mono (by omega))
      have o_y := own_ext o_y hb
      have r_g := r_g.below (hb.mono (by omega))
      have o_g := own_ext o_g hb
      clear hb
      refine (eqMemory_c _ _ _ _ _ lw _ hn_v (by omega) (r_g.more (by omega)) (r_v.more (by omega))).mono ?_
      rintro e w8 ⟨rfl, hb⟩
      have k8 : Below w.heap.size w w8 := ext_step k7 (by omega) hb
      have p8 := hb.size
      have bx0_0 := ccell hb _ _ _ bx0_0
      have bx1_0 := ccell hb _ _ _ bx1_0
      have bx2_0 := ccell hb _ _ _ bx2_0
      have bx3_0 := ccell hb _ _ _ bx3_0
      have bl0 := Nat.lt_of_lt_of_le bl0 hb.size
      have bl1 := Nat.lt_of_lt_of_le bl1 hb.size
      have bl2 := Nat.lt_of_lt_of_le bl2 hb.size
      have bl3 := Nat.lt_of_lt_of_le bl3 hb.size
      have r_a := r_a.below (hb.mono (by omega))
      have r_b := r_b.below (hb.mono (by omega))
      have r_v := r_v.below (hb.mono (by omega))
      have o_v := own_ext o_v hb
      have r_x := r_x.below (hb.mono (by omega))
      have o_x := own_ext o_x hb
      have r_y := r_y.below (hb.mono (by omega))
      have o_y := own_ext o_y hb
      have r_g := r_g.below (hb.mono (by omega))
      have o_g := own_ext o_g hb
      clear hb
      go_wp2_with fail
      refine (toMappingS_c _ _ _ l _ hn_a hs_a (r_a.more (by omega))).mono ?_
      rintro e w9 ⟨g_z, rfl, hg_z, b_z, hb⟩
      have k9 : Below w.heap.size w w9 := ext_step k8 (by omega) hb
      have p9 := hb.size
      have bx0_0 := ccell hb _ _ _ bx0_0
      have bx1_0 := ccell hb _ _ _ bx1_0
      have bx2_0 := ccell hb _ _ _ bx2_0
      have bx3_0 := ccell hb _ _ _ bx3_0
      have bl0 := Nat.lt_of_lt_of_le bl0 hb.size
      have bl1 := Nat.lt_of_lt_of_le bl1 hb.size
      have bl2 := Nat.lt_of_lt_of_le bl2 hb.size
      have bl3 := Nat.lt_of_lt_of_le bl3 hb.size
      have r_a := r_a.below (hb.mono (by omega))
      have r_b := r_b.below (hb.mono (by omega))
      have r_v := r_v.below (hb.mono (by omega))
      have o_v := own_ext o_v hb
      have r_x := r_x.below (hb.mono (by omega))
      have o_x := own_ext o_x hb
      have r_y := r_y.below (hb.mono (by omega))
      have o_y := own_ext o_y hb
      have r_g := r_g.below (hb.mono (by omega))
      have o_g := own_ext o_g hb
      have r_z := b_z.reads (size := 4) (n := n) (by rw [flatMap_len _ 4 (fun _ => rfl), hn_a])
      have o_z := b_z.own (base := w8.heap.size) (size := 4) (n := n) hg_z (by rw [flatMap_len _ 4 (fun _ => rfl), hn_a]) (by unfold maxLen; omega) rfl
      have u_z := fun k hk => (o_z.lt k hk).2
      clear hb
      go_wp2_with fail
      refine (eqMappingS_c _ _ _ _ _ l _ hn_a (by omega) (r_x.more (by omega)) (r_z.more (by omega))).mono ?_
      rintro e w10 ⟨rfl, hb⟩
      have k10 : Below w.heap.size w w10 := ext_step k9 (by omega) hb
      have p10 := hb.size
      have bx0_0 := ccell hb _ _ _ bx0_0
      have bx1_0 := ccell hb _ _ _ bx1_0
      have bx2_0 := ccell hb _ _ _ bx2_0
      have bx3_0 := ccell hb _ _ _ bx3_0
      have bl0 := Nat.lt_of_lt_of_le bl0 hb.size
      have bl1 := Nat.lt_of_lt_of_le bl1 hb.size
      have bl2 := Nat.lt_of_lt_of_le bl2 hb.size
      have bl3 := Nat.lt_of_lt_of_le bl3 hb.size
      have r_a := r_a.below (hb.mono (by omega))
      have r_b := r_b.below (hb.mono (by omega))
      have r_v := r_v.below (hb.mono (by omega))
      have o_v := own_ext o_v hb
      have r_x := r_x.below (hb.mono (by omega))
      have o_x := own_ext o_x hb
      have r_y := r_y.below (hb.mono (by omega))
      have o_y := own_ext o_y hb
      have r_g := r_g.below (hb.mono (by omega))
      have o_g := own_ext o_g hb
      have r_z := r_z.below (hb.mono (by omega))
      have o_z := own_ext o_z hb
      clear hb
      go_wp2_with fail
      go_region_held3 (fun w' => w'.cell? ⟨w4.heap.size, 0, none⟩ = some (.slice (some ⟨g_y, 0, none⟩) n' n') ∧ w'.cell? ⟨w.heap.size, 0, none⟩ = some (.slice A' n' c')) (exact ⟨bx2_0, bx0_0⟩)
        (first
          | (go_at_call 19; have hb : Below w10.heap.size w10 w10.drew := (Below.refl _ _).drew; generalize hW0 : w10.drew = w11 at *; clear hW0; have k11 : Below w.heap.size w w11 := ext_step k10 (by omega) hb; have p11 := hb.size; have bx0_0 := ccell hb _ _ _ bx0_0; have bx1_0 := ccell hb _ _ _ bx1_0; have bx2_0 := ccell hb _ _ _ bx2_0; have bx3_0 := ccell hb _ _ _ bx3_0; have bl0 := Nat.lt_of_lt_of_le bl0 hb.size; have bl1 := Nat.lt_of_lt_of_le bl1 hb.size; have bl2 := Nat.lt_of_lt_of_le bl2 hb.size; have bl3 := Nat.lt_of_lt_of_le bl3 hb.size; have r_a := r_a.below (hb.mono (by omega)); have r_b := r_b.below (hb.mono (by omega)); have r_v := r_v.below (hb.mono (by omega)); have o_v := own_ext o_v hb; have r_x := r_x.below (hb.mono (by omega)); have o_x := own_ext o_x hb; have r_y := r_y.below (hb.mono (by omega)); have o_y := own_ext o_y hb; have r_g := r_g.below (hb.mono (by omega)); have o_g := own_ext o_g hb; clear hb; refine (toMemory_c _ _ _ l' _ hn_b hs_b (r_b.more (by omega))).mono ?_; rintro e w12 ⟨g_z, rfl, hg_z, b_z, hb⟩; have k12 : Below w.heap.size w w12 := ext_step k11 (by omega) hb; have p12 := hb.size; have bx0_0 := ccell hb _ _ _ bx0_0; have bx1_0 := ccell hb _ _ _ bx1_0; have bx2_0 := ccell hb _ _ _ bx2_0; have bx3_0 := ccell hb _ _ _ bx3_0; have bl0 := Nat.lt_of_lt_of_le bl0 hb.size; have bl1 := Nat.lt_of_lt_of_le bl1 hb.size; have bl2 := Nat.lt_of_lt_of_le bl2 hb.size; have bl3 := Nat.lt_of_lt_of_le bl3 hb.size; have r_a := r_a.below (hb.mono (by omega)); have r_b := r_b.below (hb.mono (by omega)); have r_v := r_v.below (hb.mono (by omega)); have o_v := own_ext o_v hb; have r_x := r_x.below (hb.mono (by omega)); have o_x := own_ext o_x hb; have r_y := r_y.below (hb.mono (by omega)); have o_y := own_ext o_y hb; have r_g := r_g.below (hb.mono (by omega)); have o_g := own_ext o_g hb; have r_z := b_z.reads (size := 1) (n := n') (by rw [flatMap_len _ 1 (fun _ => rfl), hn_b]); have o_z := b_z.own (base := w11.heap.size) (size := 1) (n := n') hg_z (by rw [flatMap_len _ 1 (fun _ => rfl), hn_b]) (by unfold maxLen; omega) rfl; have u_z := fun k hk => (o_z.lt k hk).2; clear hb)
          | (go_at_call 22; refine (eqMemory_c _ _ _ _ _ l' _ hn_b (by omega) (r_y.more (by omega)) (r_z.more (by omega))).mono ?_; rintro e w13 ⟨rfl, hb⟩; have k13 : Below w.heap.size w w13 := ext_step k12 (by omega) hb; have p13 := hb.size; have bx0_0 := ccell hb _ _ _ bx0_0; have bx1_0 := ccell hb _ _ _ bx1_0; have bx2_0 := ccell hb _ _ _ bx2_0; have bx3_0 := ccell hb _ _ _ bx3_0; have bl0 := Nat.lt_of_lt_of_le bl0 hb.size; have bl1 := Nat.lt_of_lt_of_le bl1 hb.size; have bl2 := Nat.lt_of_lt_of_le bl2 hb.size; have bl3 := Nat.lt_of_lt_of_le bl3 hb.size; have r_a := r_a.below (hb.mono (by omega)); have r_b := r_b.below (hb.mono (by omega)); have r_v := r_v.below (hb.mono (by omega)); have o_v := own_ext o_v hb; have r_x := r_x.below (hb.mono (by omega)); have o_x := own_ext o_x hb; have r_y := r_y.below (hb.mono (by omega)); have o_y := own_ext o_y hb; have r_g := r_g.below (hb.mono (by omega)); have o_g := own_ext o_g hb; have r_z := r_z.below (hb.mono (by omega)); have o_z := own_ext o_z hb; clear hb))
      go_wp2_with fail
      refine (markMappingS_c _ _ _ _ _ _ _ o_x (by omega) (by omega) (by omega)).mono ?_
      rintro e w14 ⟨rfl, om, hg⟩
      have k14 : Below w.heap.size w w14 := below_app k13 (own_base o_x (by omega)) hg (by omega)
      have p14 := hg.size
      have bx0_0 := cell_off hg bx0_0 (fun g h1 => by have := (o_x.lt g h1).1; have := u_x g h1; omega)
      have bx1_0 := cell_off hg bx1_0 (fun g h1 => by have := (o_x.lt g h1).1; have := u_x g h1; omega)
      have bx2_0 := cell_off hg bx2_0 (fun g h1 => by have := (o_x.lt g h1).1; have := u_x g h1; omega)
      have bx3_0 := cell_off hg bx3_0 (fun g h1 => by have := (o_x.lt g h1).1; have := u_x g h1; omega)
      have bl0 := Nat.lt_of_lt_of_le bl0 hg.size
      have bl1 := Nat.lt_of_lt_of_le bl1 hg.size
      have bl2 := Nat.lt_of_lt_of_le bl2 hg.size
      have bl3 := Nat.lt_of_lt_of_le bl3 hg.size
      have r_a := r_a.grown hg (by omega) (fun g hg => Nat.le_trans (by omega) (o_x.lt g hg).1)
      have r_b := r_b.grown hg (by omega) (fun g hg => Nat.le_trans (by omega) (o_x.lt g hg).1)
      have o_v := own_far o_v hg (fun g h1 h2 => by have := u_v g h1; have := (o_x.lt g h2).1; omega)
      have r_v := (Reads.of_own o_v)
      have o_y := own_far o_y hg (fun g h1 h2 => by have := (o_y.lt g h1).1; have := u_x g h2; omega)
      have r_y := (Reads.of_own o_y)
      have o_g := own_far o_g hg (fun g h1 h2 => by have := (o_g.lt g h1).1; have := u_x g h2; omega)
      have r_g := (Reads.of_own o_g)
      have o_x := om
      have r_x := Reads.of_own o_x
      clear hg om
      go_wp2_with fail
      refine (markMemory_c _ _ _ _ _ _ _ o_y (by omega) (by omega) (by omega)).mono ?_
      rintro e w15 ⟨rfl, om, hg⟩
      have k15 : Below w.heap.size w w15 := below_app k14 (own_base o_y (by omega)) hg (by omega)
      have p15 := hg.size
      have bx0_0 := cell_off hg bx0_0 (fun g h1 => by have := (o_y.lt g h1).1; have := u_y g h1; omega)
      have bx1_0 := cell_off hg bx1_0 (fun g h1 => by have := (o_y.lt g h1).1; have := u_y g h1; omega)
      have bx2_0 := cell_off hg bx2_0 (fun g h1 => by have := (o_y.lt g h1).1; have := u_y g h1; omega)
      have bx3_0 := cell_off hg bx3_0 (fun g h1 => by have := (o_y.lt g h1).1; have := u_y g h1; omega)
      have bl0 := Nat.lt_of_lt_of_le bl0 hg.size
      have bl1 := Nat.lt_of_lt_of_le bl1 hg.size
      have bl2 := Nat.lt_of_lt_of_le bl2 hg.size
      have bl3 := Nat.lt_of_lt_of_le bl3 hg.size
      have r_a := r_a.grown hg (by omega) (fun g hg => Nat.le_trans (by omega) (o_y.lt g hg).1)
      have r_b := r_b.grown hg (by omega) (fun g hg => Nat.le_trans (by omega) (o_y.lt g hg).1)
      have o_v := own_far o_v hg (fun g h1 h2 => by have := u_v g h1; have := (o_y.lt g h2).1; omega)
      have r_v := (Reads.of_own o_v)
      have o_g := own_far o_g hg (fun g h1 h2 => by have := (o_g.lt g h1).1; have := u_y g h2; omega)
      have r_g := (Reads.of_own o_g)
      have o_y := om
      have r_y := Reads.of_own o_y
      clear hg om
      go_wp2_with fail
      refine (eqMemory_c _ _ _ _ _ lw _ hn_v (by omega) (r_g.more (by omega)) (r_v.more (by omega))).mono ?_
      rintro e w16 ⟨rfl, hb⟩
      have k16 : Below w.heap.size w w16 := ext_step k15 (by omega) hb
      have p16 := hb.size
      have bx0_0 := ccell hb _ _ _ bx0_0
      have bx1_0 := ccell hb _ _ _ bx1_0
      have bx2_0 := ccell hb _ _ _ bx2_0
      have bx3_0 := ccell hb _ _ _ bx3_0
      have bl0 := Nat.lt_of_lt_of_le bl0 hb.size
      have bl1 := Nat.lt_of_lt_of_le bl1 hb.size
      have bl2 := Nat.lt_of_lt_of_le bl2 hb.size
      have bl3 := Nat.lt_of_lt_of_le bl3 hb.size
      have r_a := r_a.below (hb.mono (by omega))
      have r_b := r_b.below (hb.mono (by omega))
      have r_v := r_v.below (hb.mono (by omega))
      have o_v := own_ext o_v hb
      have r_g := r_g.below (hb.mono (by omega))
      have o_g := own_ext o_g hb
      clear hb
      go_wp2_with fail
      refine (markMemory_c _ _ _ _ _ _ _ o_g (by omega) (by omega) (by omega)).mono ?_
      rintro e w17 ⟨rfl, om, hg⟩
      have k17 : Below w.heap.size w w17 := below_app k16 (own_base o_g (by omega)) hg (by omega)
      have p17 := hg.size
      have bx0_0 := cell_off hg bx0_0 (fun g h1 => by have := (o_g.lt g h1).1; have := u_g g h1; omega)
      have bx1_0 := cell_off hg bx1_0 (fun g h1 => by have := (o_g.lt g h1).1; have := u_g g h1; omega)
      have bx2_0 := cell_off hg bx2_0 (fun g h1 => by have := (o_g.lt g h1).1; have := u_g g h1; omega)
      have bx3_0 := cell_off hg bx3_0 (fun g h1 => by have := (o_g.lt g h1).1; have := u_g g h1; omega)
      have bl0 := Nat.lt_of_lt_of_le bl0 hg.size
      have bl1 := Nat.lt_of_lt_of_le bl1 hg.size
      have bl2 := Nat.lt_of_lt_of_le bl2 hg.size
      have bl3 := Nat.lt_of_lt_of_le bl3 hg.size
      have r_a := r_a.grown hg (by omega) (fun g hg => Nat.le_trans (by omega) (o_g.lt g hg).1)
      have r_b := r_b.grown hg (by omega) (fun g hg => Nat.le_trans (by omega) (o_g.lt g hg).1)
      have o_v := own_far o_v hg (fun g h1 h2 => by have := u_v g h1; have := (o_g.lt g h2).1; omega)
      have r_v := (Reads.of_own o_v)
      have o_g := om
      have r_g := Reads.of_own o_g
      clear hg om
      go_wp2_with fail
      refine (heldMemory_c _ _ _ _ _ (r_g.more (by omega)) (by omega) (by omega) (by omega)).mono ?_
      rintro e w18 ⟨rfl, hb⟩
      have k18 : Below w.heap.size w w18 := ext_step k17 (by omega) hb
      have p18 := hb.size
      have bx0_0 := ccell hb _ _ _ bx0_0
      have bx1_0 := ccell hb _ _ _ bx1_0
      have bx2_0 := ccell hb _ _ _ bx2_0
      have bx3_0 := ccell hb _ _ _ bx3_0
      have bl0 := Nat.lt_of_lt_of_le bl0 hb.size
      have bl1 := Nat.lt_of_lt_of_le bl1 hb.size
      have bl2 := Nat.lt_of_lt_of_le bl2 hb.size
      have bl3 := Nat.lt_of_lt_of_le bl3 hb.size
      have r_a := r_a.below (hb.mono (by omega))
      have r_b := r_b.below (hb.mono (by omega))
      have r_v := r_v.below (hb.mono (by omega))
      have o_v := own_ext o_v hb
      have r_g := r_g.below (hb.mono (by omega))
      have o_g := own_ext o_g hb
      clear hb
      go_upto_region 33 with fail
      go_cut [21, 22] (fun s21 s22 wx => ∃ (bk_h : Nat) (A_h : Option Addr) (c_h : Nat), s21 = .pointer (some ⟨bk_h, 0, none⟩) ∧ w18.heap.size ≤ bk_h ∧ bk_h < wx.heap.size ∧ wx.cell? ⟨bk_h, 0, none⟩ = some (.slice A_h n' c_h) ∧ wx.ownsRow w18.heap.size 9 1 (.slice A_h n' c_h) n' (lw.flatMap fun x : ByteArray => [Value.string x]) ∧ (∀ k, (Value.slice A_h n' c_h).ownBlock = some k → k ≠ bk_h) ∧ s22 = .bool bo ∧ Below w18.heap.size w18 wx)
      case first =>
        have kc : Below w18.heap.size w18 w18.drew := (Below.refl _ _).drew
        have hb := kc
        have pz := kc.size
        have oo_bx0_0 := bx0_0
        have bx0_0 := ccell hb _ _ _ bx0_0
        have oo_bx1_0 := bx1_0
        have bx1_0 := ccell hb _ _ _ bx1_0
        have oo_bx2_0 := bx2_0
        have bx2_0 := ccell hb _ _ _ bx2_0
        have oo_bx3_0 := bx3_0
        have bx3_0 := ccell hb _ _ _ bx3_0
        have r_a := r_a.below (hb.mono (by omega))
        have r_b := r_b.below (hb.mono (by omega))
        have r_v := r_v.below (hb.mono (by omega))
        have r_g := r_g.below (hb.mono (by omega))
        clear hb pz
        obtain ⟨zc, hzc⟩ : ∃ z, w18.heap.size = z := ⟨_, rfl⟩
        have zk : w18.heap.size ≤ zc := by omega
        go_region_held3 (fun w' => w'.cell? ⟨w.heap.size, 0, none⟩ = some (.slice A' n' c')) (first | exact bx0_0 | exact oo_bx0_0 | exact (World.cell?_alloc_lt _ _ _ (cell_block_lt bx0_0)).trans bx0_0 | (skip <;> first | (simp [go_sem]; done) | (simp [go_sem, *]; done)))
          (first
            | (go_at_call 18; refine (toMappingS_c _ _ _ l _ hn_a hs_a ?hrd).mono ?_; (case hrd => first | exact r_a.more (by have := kc.size; omega) | (refine (r_a.more (by have := kc.size; omega)).to ?_; first | (refine below_vd ?_; go_grown; done) | (go_grown; done))); rintro e wt ⟨g_t, rfl, hg_t, b_t, hbY⟩; have hb := below_via kc (by first | exact Below.refl _ _ | (refine below_vd ?_; go_grown; done) | (go_grown; done)) hbY; have pz := kc.size; (first | (have hq := own_cell hb bzh0 fzh0; obtain ⟨bzh0, fzh0, zzh⟩ := hq) | (have hq := own_cell (b := zc) (o := 0) (v := .slice none 0 0) hbY; have hq2 := hq ?hA ?hB; (case hA => (rw [← hzc]; simp [go_sem]; done)); (case hB => (rw [← hzc]; simp [go_sem]; done)); obtain ⟨bzh0, fzh0, zzh⟩ := hq2; have zzkh := zk; obtain ⟨bkh, hbk⟩ : ∃ b, b = zc := ⟨zc, rfl⟩; subst hbk) | skip); have bx0_0 := ccell hb _ _ _ bx0_0; have bx1_0 := ccell hb _ _ _ bx1_0; have bx2_0 := ccell hb _ _ _ bx2_0; have bx3_0 := ccell hb _ _ _ bx3_0; have r_a := r_a.below (hb.mono (by omega)); have r_b := r_b.below (hb.mono (by omega)); have r_v := r_v.below (hb.mono (by omega)); have r_g := r_g.below (hb.mono (by omega)); (try (have r_u := r_u.to hb)); have kc := ext_step kc kc.size hb; have r_t := b_t.reads (size := 4) (n := n) (by rw [flatMap_len _ 4 (fun _ => rfl), hn_a]); (try (obtain ⟨zc, hzc⟩ : ∃ z, wt.heap.size = z := ⟨_, rfl⟩)); have zk : w18.heap.size ≤ zc := (by have := kc.size; omega); (try clear hb hbY pz))
            | (go_at_call 19; refine (toMemory_c _ _ _ l' _ hn_b hs_b ?hrd).mono ?_; (case hrd => first | exact r_b.more (by have := kc.size; omega) | (refine (r_b.more (by have := kc.size; omega)).to ?_; first | (refine below_vd ?_; go_grown; done) | (go_grown; done))); rintro e wt ⟨g_u, rfl, hg_u, b_u, hbY⟩; have hb := below_via kc (by first | exact Below.refl _ _ | (refine below_vd ?_; go_grown; done) | (go_grown; done)) hbY; have pz := kc.size; (first | (have hq := own_cell hb bzh0 fzh0; obtain ⟨bzh0, fzh0, zzh⟩ := hq) | (have hq := own_cell (b := zc) (o := 0) (v := .slice none 0 0) hbY; have hq2 := hq ?hA ?hB; (case hA => (rw [← hzc]; simp [go_sem]; done)); (case hB => (rw [← hzc]; simp [go_sem]; done)); obtain ⟨bzh0, fzh0, zzh⟩ := hq2; have zzkh := zk; obtain ⟨bkh, hbk⟩ : ∃ b, b = zc := ⟨zc, rfl⟩; subst hbk) | skip); have bx0_0 := ccell hb _ _ _ bx0_0; have bx1_0 := ccell hb _ _ _ bx1_0; have bx2_0 := ccell hb _ _ _ bx2_0; have bx3_0 := ccell hb _ _ _ bx3_0; have r_a := r_a.below (hb.mono (by omega)); have r_b := r_b.below (hb.mono (by omega)); have r_v := r_v.below (hb.mono (by omega)); have r_g := r_g.below (hb.mono (by omega)); (try (have r_t := r_t.to hb)); have kc := ext_step kc kc.size hb; have r_u := b_u.reads (size := 1) (n := n') (by rw [flatMap_len _ 1 (fun _ => rfl), hn_b]); (try (obtain ⟨zc, hzc⟩ : ∃ z, wt.heap.size = z := ⟨_, rfl⟩)); have zk : w18.heap.size ≤ zc := (by have := kc.size; omega); (try clear hb hbY pz))
            | (go_at_call 29; refine (himpl _ _ _ _ _ hs_a hs_b ?hrt ?hru).mono ?_; (case hrt => first | exact r_t | (refine r_t.to ?_; first | (refine below_vd ?_; go_grown; done) | (go_grown; done))); (case hru => first | exact r_u | (refine r_u.to ?_; first | (refine below_vd ?_; go_grown; done) | (go_grown; done))); rintro e wt ⟨A_h, c_h, rfl, o_h, hbY⟩; have pv := kc.size; have pY : _ ≤ _ := (below_via_size kc (by first | exact Below.refl _ _ | (refine below_vd ?_; go_grown; done) | (go_grown; done)) hbY); have hb := below_via kc (by first | exact Below.refl _ _ | (refine below_vd ?_; go_grown; done) | (go_grown; done)) hbY; (first | (have hq := own_cell hb bzh0 fzh0; obtain ⟨bzh0, fzh0, zzh⟩ := hq) | (have hq := own_cell (b := zc) (o := 0) (v := .slice none 0 0) hbY; have hq2 := hq ?hA ?hB; (case hA => (rw [← hzc]; simp [go_sem]; done)); (case hB => (rw [← hzc]; simp [go_sem]; done)); obtain ⟨bzh0, fzh0, zzh⟩ := hq2; have zzkh := zk; obtain ⟨bkh, hbk⟩ : ∃ b, b = zc := ⟨zc, rfl⟩; subst hbk) | skip); have bx0_0 := ccell hb _ _ _ bx0_0; have bx1_0 := ccell hb _ _ _ bx1_0; have bx2_0 := ccell hb _ _ _ bx2_0; have bx3_0 := ccell hb _ _ _ bx3_0; have hvh := fun k hk => o_h.lt k hk; (try (have nvhh : ∀ k, (Value.slice A_h n' c_h).ownBlock = some k → k ≠ bkh := ?hN; (case hN => (intro k hk; have h1 := (hvh k hk).1; (try simp at h1); omega)))); have kc := ext_step kc kc.size hb; (try (obtain ⟨zc, hzc⟩ : ∃ z, wt.heap.size = z := ⟨_, rfl⟩)); have zk : w18.heap.size ≤ zc := (by have := kc.size; omega)))
        all_goals (go_wp2_with fail; go_meet; exact ⟨_, A_h, c_h, rfl, (by first | omega | (simp; omega)), (by first | (simp; omega) | (simp; done) | omega | simpa using zzh), (by first | (simp [go_sem, hzc]; done) | (simp [go_sem, *]; done)), (by first | exact own_base (o_h.alloc _) (by omega) | exact own_base (own_set_ne o_h (fun e => nvhh _ e rfl) _) (by omega) | (repeat (first | exact own_base o_h (by omega) | refine own_set_ne ?_ (fun e => nvhh _ e rfl) _))), (by first | exact nvhh | (intro k hk; have := (hvh k hk).2; omega)), rfl, (by first | exact kc | exact kc.alloc kc.size _ | exact kc.setCell (by (try dsimp only); omega) _ | go_grown)⟩)
      case rest =>
        obtain ⟨bk_h, A_h, c_h, rfl, lo4, bl4, bx4_0, o_h, nb_h, rfl, hb⟩ := hcut
        generalize hW0 : wc = w19 at *
        clear hW0
        have k19 : Below w.heap.size w w19 := ext_step k18 (by omega) hb
        have p19 := hb.size
        have bx0_0 := ccell hb _ _ _ bx0_0
        have bx1_0 := ccell hb _ _ _ bx1_0
        have bx2_0 := ccell hb _ _ _ bx2_0
        have bx3_0 := ccell hb _ _ _ bx3_0
        have bl0 := Nat.lt_of_lt_of_le bl0 hb.size
        have bl1 := Nat.lt_of_lt_of_le bl1 hb.size
        have bl2 := Nat.lt_of_lt_of_le bl2 hb.size
        have bl3 := Nat.lt_of_lt_of_le bl3 hb.size
        have r_a := r_a.below (hb.mono (by omega))
        have r_b := r_b.below (hb.mono (by omega))
        have r_v := r_v.below (hb.mono (by omega))
        have o_v := own_ext o_v hb
        have r_g := r_g.below (hb.mono (by omega))
        have o_g := own_ext o_g hb
        clear hb
        have r_h := Reads.of_own o_h
        have u_h := fun k hk => (o_h.lt k hk).2
        go_wp2_with fail
        refine (eqMemory_c _ _ _ _ _ lw _ hn_v (by omega) (r_h.more (by omega)) (r_v.more (by omega))).mono ?_
        rintro e w20 ⟨rfl, hb⟩
        have k20 : Below w.heap.size w w20 := ext_step k19 (by omega) hb
        have p20 := hb.size
        have bx0_0 := ccell hb _ _ _ bx0_0
        have bx1_0 := ccell hb _ _ _ bx1_0
        have bx2_0 := ccell hb _ _ _ bx2_0
        have bx3_0 := ccell hb _ _ _ bx3_0
        have bx4_0 := ccell hb _ _ _ bx4_0
        have bl0 := Nat.lt_of_lt_of_le bl0 hb.size
        have bl1 := Nat.lt_of_lt_of_le bl1 hb.size
        have bl2 := Nat.lt_of_lt_of_le bl2 hb.size
        have bl3 := Nat.lt_of_lt_of_le bl3 hb.size
        have bl4 := Nat.lt_of_lt_of_le bl4 hb.size
        have r_a := r_a.below (hb.mono (by omega))
        have r_b := r_b.below (hb.mono (by omega))
        have r_v := r_v.below (hb.mono (by omega))
        have o_v := own_ext o_v hb
        have r_g := r_g.below (hb.mono (by omega))
        have o_g := own_ext o_g hb
        have r_h := r_h.below (hb.mono (by omega))
        have o_h := own_ext o_h hb
        clear hb
        go_wp2_with fail
        refine (heldMemory_c _ _ _ _ _ (r_g.more (by omega)) (by omega) (by omega) (by omega)).mono ?_
        rintro e w21 ⟨rfl, hb⟩
        have k21 : Below w.heap.size w w21 := ext_step k20 (by omega) hb
        have p21 := hb.size
        have bx0_0 := ccell hb _ _ _ bx0_0
        have bx1_0 := ccell hb _ _ _ bx1_0
        have bx2_0 := ccell hb _ _ _ bx2_0
        have bx3_0 := ccell hb _ _ _ bx3_0
        have bx4_0 := ccell hb _ _ _ bx4_0
        have bl0 := Nat.lt_of_lt_of_le bl0 hb.size
        have bl1 := Nat.lt_of_lt_of_le bl1 hb.size
        have bl2 := Nat.lt_of_lt_of_le bl2 hb.size
        have bl3 := Nat.lt_of_lt_of_le bl3 hb.size
        have bl4 := Nat.lt_of_lt_of_le bl4 hb.size
        have r_a := r_a.below (hb.mono (by omega))
        have r_b := r_b.below (hb.mono (by omega))
        have r_g := r_g.below (hb.mono (by omega))
        have o_g := own_ext o_g hb
        clear hb
        go_wp2
        go_ret
        exact ⟨rfl, k21⟩
end Go.Proofs.Ytjeenjblenpinaa
