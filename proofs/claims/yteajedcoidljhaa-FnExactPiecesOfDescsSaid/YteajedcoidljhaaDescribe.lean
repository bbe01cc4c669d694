/- Contracts of DescribePacket: impl and spec. -/
import Derived.Test.YteajedcoidljhaaConvDesc
import Derived.Test.YteajedcoidljhaaPiecesOk
import Derived.Test.YteajedcoidljhaaSlots4
namespace Go.Proofs.Yteajedcoidljhaa
set_option linter.unusedSimpArgs false
set_option linter.unusedVariables false
open Go.RowKit Go.ChangeShapes Go.WideShapes
def dHead (sz ck : Int) : Desc := ⟨2, 0, 0, 0, sz, ck⟩
def dItem (n : Nat) (ck : Int) (k : Nat) (x : Piece) : Desc := ⟨1, if k + 1 = n then 1 else 0, x.ln, x.at_, 0, ck⟩
/-- The descriptors of the first k pieces, behind the head. -/
def dList (ps : List Piece) (sz ck : Int) (k : Nat) : List Desc := dHead sz ck :: (ps.take k).zipIdx.map fun p => dItem ps.length ck p.2 p.1
def desB (x : Desc) : Bool := descB x.op x.fl x.ln x.at_ x.sz x.ck
def dpB (ps : List Piece) (sz ck : Int) : Bool := !(ps.length == 0) && (piecesB ps && (inB sz 1 128 && (dList ps sz ck ps.length).all desB))
def dpL (ps : List Piece) (sz ck : Int) : List Desc := if dpB ps sz ck then dList ps sz ck ps.length else []
theorem dp_no {ps : List Piece} {sz ck : Int} (h : dpB ps sz ck = false) : dpL ps sz ck = [] := by rw [dpL, h]; rfl
theorem dp_yes {ps : List Piece} {sz ck : Int} (h : dpB ps sz ck = true) : dpL ps sz ck = dList ps sz ck ps.length := by rw [dpL, h]; rfl
theorem dList_next {ps : List Piece} {sz ck : Int} {k : Nat} {x : Piece} (hx : ps[k]? = some x) : dList ps sz ck (k + 1) = dList ps sz ck k ++ [dItem ps.length ck k x] := by
  have hk : k < ps.length := (List.getElem?_eq_some_iff.1 hx).1
  rw [dList, dList, take_next hx, List.zipIdx_append, List.map_append, List.length_take, Nat.min_eq_left (by omega)]
  simp
theorem dList_len {ps : List Piece} {sz ck : Int} {k : Nat} (hk : k ≤ ps.length) : (dList ps sz ck k).length = k + 1 := by
  rw [dList, List.length_cons, List.length_map, List.length_zipIdx, List.length_take, Nat.min_eq_left hk]
theorem dList_get {ps : List Piece} {sz ck : Int} {k : Nat} {x : Piece} (hx : ps[k]? = some x) : (dList ps sz ck ps.length)[k + 1]? = some (dItem ps.length ck k x) := by
  rw [dList, List.take_length, List.getElem?_cons_succ, List.getElem?_map, List.getElem?_zipIdx, hx]; simp
theorem cells_at2 {W : World} {k : Nat} (h : W.heap.size = k) (news : List Value) (e : TypeId) : ∀ (j : Nat) (u : Value), news[j]? = some u → (W.alloc (.cells news.toArray e)).cell? ((⟨k, 0, none⟩ : Addr).add j) = some u := by
  subst h; exact cells_new W news e
set_option maxRecDepth 100000 in
set_option maxHeartbeats 4000000 in
theorem implDescribePacket_c (A : Option Addr) (n c : Nat) (ps : List Piece) (w : World) (hn : ps.length = n) (hm : n ≤ 1048576) (hr : Reads w w.heap.size 2 A n (ps.flatMap Piece.cells)) (hi3 : ∀ x ∈ ps, x.ok) (sz ck : Int) :
    Calls Try.prog 50 #[.slice A n c, .int .i64 sz, .int .i64 ck] w fun e w' => ∃ A2 c2, e = .returned (.slice A2 (dpL ps sz ck).length c2) ∧ w'.ownsRow w.heap.size 62 6 (.slice A2 (dpL ps sz ck).length c2) (dpL ps sz ck).length ((dpL ps sz ck).flatMap Desc.cells) ∧ Below w.heap.size w w' := by
  obtain ⟨i0, hi, hz0, hz1, hz2⟩ := info_parts info_Desc
  have HN := Lib.hid hn
  have HI3 := Lib.hid hi3
  clear hi3
  have OKC := fun (w0 : World) (hb : Below w.heap.size w w0) => implPiecesOk_c A n c ps w0 hn (by omega) ((hr.below hb).more hb.size)
  by_cases h0 : n = 0
  · have hg : dpB ps sz ck = false := by rw [dpB, hn, h0]; rfl
    rw [dp_no hg]
    have h1 : ((n : Int) == 0) = true := by simp [h0]
    clear h0 hg
    go_enter Try.func50, Try.ntmps50
    go_wp2
    go_ret
    exact ⟨none, 0, rfl, own_nil _ _ _ _, Below.refl _ _⟩
  · have h1 : ((n : Int) == 0) = false := by simp; omega
    cases e1 : piecesB ps
    · have hg : dpB ps sz ck = false := by rw [dpB, e1]; simp
      rw [dp_no hg]
      clear hg
      go_enter Try.func50, Try.ntmps50
      go_wp2_with (go_at_call 36; refine (calls_bool (OKC _ (Below.refl _ _)) e1).mono ?_; rintro e w1 ⟨rfl, k1⟩)
      go_ret
      exact ⟨none, 0, rfl, own_nil _ _ _ _, k1⟩
    · cases e2 : inB sz 1 128
      · have hg : dpB ps sz ck = false := by rw [dpB, e2]; simp
        rw [dp_no hg]
        clear hg
        go_enter Try.func50, Try.ntmps50
        go_wp2_with (first | (go_at_call 36; refine (calls_bool (OKC _ (Below.refl _ _)) e1).mono ?_; rintro e w1 ⟨rfl, k1⟩) | (go_at_call 62; refine (calls_bool (between_c _ _ _ _) e2).mono ?_; rintro e w2 ⟨rfl, rfl⟩))
        go_ret
        exact ⟨none, 0, rfl, own_nil _ _ _ _, k1⟩
      · have HO := Lib.hid e1
        have HL := piecesB_len e1
        rw [hn] at HL
        have H2 := Lib.hid e2
        go_enter Try.func50, Try.ntmps50
        go_wp2_with (first | (go_at_call 36; refine (calls_bool (OKC _ (Below.refl _ _)) e1).mono ?_; rintro e w1 ⟨rfl, k1⟩) | (go_at_call 62; refine (calls_bool (between_c _ _ _ _) e2).mono ?_; rintro e w2 ⟨rfl, rfl⟩))
        clear e1 e2 OKC hn
        have zk1 := k1.size
        go_loopw [7, 32] (fun ov i wr => ∃ (k : Nat) (u : Value), k ≤ n ∧ i = .int .i64 (k : Int) ∧ ov = u ∧ wr.ownsRow w.heap.size 62 6 u (k + 1) ((dList ps sz ck k).flatMap Desc.cells) ∧ Below w.heap.size w wr) (fun _ i _ => n - (intOf i).toNat)
        case atStart => exact ⟨0, _, Nat.zero_le _, rfl, rfl, (Blk.new w1 62 ([.int .i64 2, .int .i64 0, .int .i64 0, .int .i64 0, .int .i64 sz, .int .i64 ck])).own zk1 rfl (by unfold maxLen; omega) rfl, by go_grown⟩
        case round =>
          obtain ⟨k, u, hk, rfl, hu, hown, hbw⟩ := hrel
          have hu := hu.symm
          subst hu
          have hsz := hbw.size
          by_cases hlt : k < n
          · obtain ⟨b, o, x, rfl, hb, hxx, hcx⟩ := hr.el (fun _ => rfl) (by decide) HN.out hlt
            have c0 := (hbw.cell (p := ⟨b, o + k * 2, none⟩) hb).trans (by simpa using hcx 0 _ rfl)
            have c1 := (hbw.cell (p := ⟨b, o + k * 2 + 1, none⟩) hb).trans (by simpa using hcx 1 _ rfl)
            have HXx := Lib.hid hxx
            clear hxx hcx
            obtain ⟨p1, p2, p3⟩ := piecesB_el HO.out HXx.out
            have HX2 := Lib.hid (dList_next (sz := sz) (ck := ck) HXx.out)
            by_cases hlast : k + 1 = n
            · have q1 : ((k : Int) == (n : Int) - 1) = true := by simp; omega
              have hd : dItem ps.length ck k x = ⟨1, 1, x.ln, x.at_, 0, ck⟩ := by rw [dItem, HN.out, if_pos hlast]
              have HD := Lib.hid hd
              clear hd
              go_wp2_with (at_builtin; refine wpList_append_own _ rfl _ _ 67 rfl w.heap.size 62 i0 (.agg #[.int .i64 0, .int .i64 0, .int .i64 0, .int .i64 0, .int .i64 0, .int .i64 0]) 6 48 Try.underlying67 hi hz0 hz1 hz2 rfl (by decide) _ _ _ rfl (((hown.alloc _).alloc _).alloc _) ⟨wr.heap.size + 1 + 1, 0, none⟩ 1 1 [.int .i64 1, .int .i64 1, .int .i64 x.ln, .int .i64 x.at_, .int .i64 0, .int .i64 ck] rfl rfl (cells_at2 (by simp) _ _) ?c2 ?c3 ?c4 ?c5 ?_; (case c2 => (intro u hu; simp only [List.mem_cons, List.not_mem_nil, or_false] at hu; rcases hu with rfl | rfl | rfl | rfl | rfl | rfl <;> rfl)); (case c3 => (unfold maxLen; omega)); (case c4 => omega); (case c5 => (simp only [World.size_alloc]; omega)); intro v1 w1 hown1 hg1 hn1; have hb1 : Below w.heap.size w w1 := below_app (by go_grown) (((hown.alloc _).alloc _).alloc _) hg1 (by simp only [World.size_alloc]; omega); clear hn1 hg1)
              go_roundw
              case rel => exact ⟨k + 1, v1, by omega, by go_num, rfl, by rw [HX2.out, HD.out, List.flatMap_append]; exact hown1, hb1⟩
              case measure => simp [intOf]; omega
            · have q1 : ((k : Int) == (n : Int) - 1) = false := by simp; omega
              have hd : dItem ps.length ck k x = ⟨1, 0, x.ln, x.at_, 0, ck⟩ := by rw [dItem, HN.out, if_neg hlast]
              have HD := Lib.hid hd
              clear hd
              go_wp2_with (at_builtin; refine wpList_append_own _ rfl _ _ 67 rfl w.heap.size 62 i0 (.agg #[.int .i64 0, .int .i64 0, .int .i64 0, .int .i64 0, .int .i64 0, .int .i64 0]) 6 48 Try.underlying67 hi hz0 hz1 hz2 rfl (by decide) _ _ _ rfl (((hown.alloc _).alloc _).alloc _) ⟨wr.heap.size + 1 + 1, 0, none⟩ 1 1 [.int .i64 1, .int .i64 0, .int .i64 x.ln, .int .i64 x.at_, .int .i64 0, .int .i64 ck] rfl rfl (cells_at2 (by simp) _ _) ?c2 ?c3 ?c4 ?c5 ?_; (case c2 => (intro u hu; simp only [List.mem_cons, List.not_mem_nil, or_false] at hu; rcases hu with rfl | rfl | rfl | rfl | rfl | rfl <;> rfl)); (case c3 => (unfold maxLen; omega)); (case c4 => omega); (case c5 => (simp only [World.size_alloc]; omega)); intro v1 w1 hown1 hg1 hn1; have hb1 : Below w.heap.size w w1 := below_app (by go_grown) (((hown.alloc _).alloc _).alloc _) hg1 (by simp only [World.size_alloc]; omega); clear hn1 hg1)
              go_roundw
              case rel => exact ⟨k + 1, v1, by omega, by go_num, rfl, by rw [HX2.out, HD.out, List.flatMap_append]; exact hown1, hb1⟩
              case measure => simp [intOf]; omega
          · have hkn : n = k := by omega
            subst hkn
            obtain ⟨A9, c9, rfl, hr9, hnc9, hcm9⟩ := own_form hown
            have hl9 : (dList ps sz ck n).length = n + 1 := dList_len (by have := HN.out; omega)
            have HL9 := Lib.hid hl9
            clear hl9
            obtain ⟨w9, hw9⟩ : ∃ w9 : World, w9 = wr := ⟨_, rfl⟩
            subst hw9
            go_wp2
            go_loopw [56] (fun i wr => ∃ k : Nat, k ≤ n + 1 ∧ i = .int .i64 (k : Int) ∧ Below w9.heap.size w9 wr ∧ Hid (((dList ps sz ck n).take k).all desB = true)) (fun i _ => (n + 1) - (intOf i).toNat)
            case atStart => exact ⟨0, Nat.zero_le _, rfl, Below.refl _ _, rfl⟩
            case round =>
              obtain ⟨k, hk2, rfl, hbx, hall⟩ := hrel
              have hsx := hbx.size
              by_cases hlt2 : k < n + 1
              · obtain ⟨b9, o9, y, rfl, hb9, hxy, hcy⟩ := hr9.el (fun _ => rfl) (by decide) HL9.out hlt2
                have d0 := (hbx.cell (p := ⟨b9, o9 + k * 6, none⟩) hb9).trans (by simpa using hcy 0 _ rfl)
                have d1 := (hbx.cell (p := ⟨b9, o9 + k * 6 + 1, none⟩) hb9).trans (by simpa using hcy 1 _ rfl)
                have d2 := (hbx.cell (p := ⟨b9, o9 + k * 6 + 2, none⟩) hb9).trans (by simpa using hcy 2 _ rfl)
                have d3 := (hbx.cell (p := ⟨b9, o9 + k * 6 + 3, none⟩) hb9).trans (by simpa using hcy 3 _ rfl)
                have d4 := (hbx.cell (p := ⟨b9, o9 + k * 6 + 4, none⟩) hb9).trans (by simpa using hcy 4 _ rfl)
                have d5 := (hbx.cell (p := ⟨b9, o9 + k * 6 + 5, none⟩) hb9).trans (by simpa using hcy 5 _ rfl)
                have HXy := Lib.hid hxy
                clear hxy hcy
                cases e3 : desB y
                · have hg : dpB ps sz ck = false := by rw [dpB, HN.out, all_at HXy.out e3]; simp
                  have HG := Lib.hid (dp_no hg)
                  clear hg
                  go_wp2_with (go_at_call 81; refine (calls_bool (implDescOk_c _ _ _ _ _ _ _) e3).mono ?_; rintro e w3 ⟨rfl, hb3⟩)
                  go_ret
                  exact ⟨none, 0, by rw [HG.out]; rfl, by rw [HG.out]; exact own_nil _ _ _ _, hbw.trans ((ext_step (hbx.alloc hsx _) (by go_size) hb3).mono hsz)⟩
                · have HA := Lib.hid (all_take hall.out HXy.out e3)
                  go_wp2_with (go_at_call 81; refine (calls_bool (implDescOk_c _ _ _ _ _ _ _) e3).mono ?_; rintro e w3 ⟨rfl, hb3⟩)
                  go_roundw
                  case rel => exact ⟨k + 1, by omega, by go_num, ext_step (hbx.alloc hsx _) (by go_size) hb3, HA⟩
                  case measure => simp [intOf]; omega
              · have htk := take_all HL9.out hlt2
                have hg : dpB ps sz ck = true := by
                  have h5 := hall.out
                  rw [htk] at h5
                  rw [dpB, HN.out, h5, HO.out, H2.out]; simp; omega
                have HG := Lib.hid (dp_yes hg)
                have h6 := HG.out
                rw [HN.out] at h6
                have h7 := congrArg List.length h6
                rw [HL9.out] at h7
                have HG6 := Lib.hid h6
                have HG7 := Lib.hid h7
                have hown2 := own_ext hown hbx
                clear h6 h7 hg htk
                go_wp2
                go_ret
                exact ⟨A9, c9, by rw [HG7.out]; rfl, by rw [HG7.out, HG6.out]; exact hown2, hbw.trans (hbx.mono hsz)⟩
set_option maxRecDepth 100000 in
set_option maxHeartbeats 4000000 in
theorem specDescribePacket_c (A : Option Addr) (n c : Nat) (ps : List Piece) (w : World) (hn : ps.length = n) (hm : n ≤ 1048576) (hr : Reads w w.heap.size 2 A n (ps.flatMap Piece.cells)) (hi3 : ∀ x ∈ ps, x.ok) (sz ck : Int) :
    Calls Try.prog 49 #[.slice A n c, .int .i64 sz, .int .i64 ck] w fun e w' => ∃ A2 c2, e = .returned (.slice A2 (dpL ps sz ck).length c2) ∧ w'.ownsRow w.heap.size 62 6 (.slice A2 (dpL ps sz ck).length c2) (dpL ps sz ck).length ((dpL ps sz ck).flatMap Desc.cells) ∧ Below w.heap.size w w' := by
  obtain ⟨i0, hi, hz0, hz1, hz2⟩ := info_parts info_Desc
  have HN := Lib.hid hn
  have HI3 := Lib.hid hi3
  clear hi3
  have OKC := fun (w0 : World) (hb : Below w.heap.size w w0) => specPiecesOk_c A n c ps w0 hn (by omega) ((hr.below hb).more hb.size)
  by_cases h0 : n = 0
  · have hg : dpB ps sz ck = false := by rw [dpB, hn, h0]; rfl
    rw [dp_no hg]
    have h1 : ((n : Int) == 0) = true := by simp [h0]
    clear h0 hg
    go_enter Try.func49, Try.ntmps49
    go_wp2
    go_ret
    exact ⟨some ⟨w.heap.size + 1, 0, none⟩, 0, rfl, own_empty (blk_after (cs := [])) (by omega), by go_grown⟩
  · have h1 : ((n : Int) == 0) = false := by simp; omega
    cases e1 : piecesB ps
    · have hg : dpB ps sz ck = false := by rw [dpB, e1]; simp
      rw [dp_no hg]
      clear hg
      go_enter Try.func49, Try.ntmps49
      go_wp2_with (first | (go_at_call 34; refine (calls_bool (OKC _ (by go_grown)) e1).mono ?_; rintro e w1 ⟨rfl, hb⟩; have HB : Blk w1 w.heap.size 62 ([.int .i64 2, .int .i64 0, .int .i64 0, .int .i64 0, .int .i64 sz, .int .i64 ck]) := (Blk.new w 62 ([.int .i64 2, .int .i64 0, .int .i64 0, .int .i64 0, .int .i64 sz, .int .i64 ck])).ext hb; have t0 := (HB.cell 0).trans rfl; have t1 := (HB.cell 1).trans rfl; have t2 := (HB.cell 2).trans rfl; have t3 := (HB.cell 3).trans rfl; have t4 := (HB.cell 4).trans rfl; have t5 := (HB.cell 5).trans rfl; have k1 : Below w.heap.size w w1 := ext_step (by go_grown) (by go_size) hb; clear hb) | (go_at_call 71; refine (calls_bool (l01In_c _ _ _ _) e2).mono ?_; rintro e w2 ⟨rfl, rfl⟩) | (go_at_call 80; refine (calls_bool (specDescOk_c _ _ _ _ _ _ _) e3).mono ?_; rintro e w3 ⟨rfl, hb⟩; have HB := HB.ext hb; have k3 := ext_step k1 k1.size hb; clear hb))
      go_ret
      exact ⟨some ⟨_, 0, none⟩, 0, rfl, own_empty (Blk.new _ _ []) k1.size, k1.alloc k1.size _⟩
    · cases e2 : inB sz 1 128
      · have hg : dpB ps sz ck = false := by rw [dpB, e2]; simp
        rw [dp_no hg]
        clear hg
        go_enter Try.func49, Try.ntmps49
        go_wp2_with (first | (go_at_call 34; refine (calls_bool (OKC _ (by go_grown)) e1).mono ?_; rintro e w1 ⟨rfl, hb⟩; have HB : Blk w1 w.heap.size 62 ([.int .i64 2, .int .i64 0, .int .i64 0, .int .i64 0, .int .i64 sz, .int .i64 ck]) := (Blk.new w 62 ([.int .i64 2, .int .i64 0, .int .i64 0, .int .i64 0, .int .i64 sz, .int .i64 ck])).ext hb; have t0 := (HB.cell 0).trans rfl; have t1 := (HB.cell 1).trans rfl; have t2 := (HB.cell 2).trans rfl; have t3 := (HB.cell 3).trans rfl; have t4 := (HB.cell 4).trans rfl; have t5 := (HB.cell 5).trans rfl; have k1 : Below w.heap.size w w1 := ext_step (by go_grown) (by go_size) hb; clear hb) | (go_at_call 71; refine (calls_bool (l01In_c _ _ _ _) e2).mono ?_; rintro e w2 ⟨rfl, rfl⟩) | (go_at_call 80; refine (calls_bool (specDescOk_c _ _ _ _ _ _ _) e3).mono ?_; rintro e w3 ⟨rfl, hb⟩; have HB := HB.ext hb; have k3 := ext_step k1 k1.size hb; clear hb))
        go_ret
        exact ⟨some ⟨_, 0, none⟩, 0, rfl, own_empty (Blk.new _ _ []) k1.size, k1.alloc k1.size _⟩
      · cases e3 : descB 2 0 0 0 sz ck
        · have hg : dpB ps sz ck = false := by
            have h5 : (dList ps sz ck ps.length).all desB = false := all_at (k := 0) rfl (show desB (dHead sz ck) = false from e3)
            rw [dpB, h5]; simp
          rw [dp_no hg]
          clear hg
          go_enter Try.func49, Try.ntmps49
          go_wp2_with (first | (go_at_call 34; refine (calls_bool (OKC _ (by go_grown)) e1).mono ?_; rintro e w1 ⟨rfl, hb⟩; have HB : Blk w1 w.heap.size 62 ([.int .i64 2, .int .i64 0, .int .i64 0, .int .i64 0, .int .i64 sz, .int .i64 ck]) := (Blk.new w 62 ([.int .i64 2, .int .i64 0, .int .i64 0, .int .i64 0, .int .i64 sz, .int .i64 ck])).ext hb; have t0 := (HB.cell 0).trans rfl; have t1 := (HB.cell 1).trans rfl; have t2 := (HB.cell 2).trans rfl; have t3 := (HB.cell 3).trans rfl; have t4 := (HB.cell 4).trans rfl; have t5 := (HB.cell 5).trans rfl; have k1 : Below w.heap.size w w1 := ext_step (by go_grown) (by go_size) hb; clear hb) | (go_at_call 71; refine (calls_bool (l01In_c _ _ _ _) e2).mono ?_; rintro e w2 ⟨rfl, rfl⟩) | (go_at_call 80; refine (calls_bool (specDescOk_c _ _ _ _ _ _ _) e3).mono ?_; rintro e w3 ⟨rfl, hb⟩; have HB := HB.ext hb; have k3 := ext_step k1 k1.size hb; clear hb))
          go_ret
          exact ⟨some ⟨_, 0, none⟩, 0, rfl, own_empty (Blk.new _ _ []) k3.size, k3.alloc k3.size _⟩
        · have HO := Lib.hid e1
          have HL := piecesB_len e1
          rw [hn] at HL
          have H2 := Lib.hid e2
          have H3 := Lib.hid e3
          go_enter Try.func49, Try.ntmps49
          go_wp2_with (first | (go_at_call 34; refine (calls_bool (OKC _ (by go_grown)) e1).mono ?_; rintro e w1 ⟨rfl, hb⟩; have HB : Blk w1 w.heap.size 62 ([.int .i64 2, .int .i64 0, .int .i64 0, .int .i64 0, .int .i64 sz, .int .i64 ck]) := (Blk.new w 62 ([.int .i64 2, .int .i64 0, .int .i64 0, .int .i64 0, .int .i64 sz, .int .i64 ck])).ext hb; have t0 := (HB.cell 0).trans rfl; have t1 := (HB.cell 1).trans rfl; have t2 := (HB.cell 2).trans rfl; have t3 := (HB.cell 3).trans rfl; have t4 := (HB.cell 4).trans rfl; have t5 := (HB.cell 5).trans rfl; have k1 : Below w.heap.size w w1 := ext_step (by go_grown) (by go_size) hb; clear hb) | (go_at_call 71; refine (calls_bool (l01In_c _ _ _ _) e2).mono ?_; rintro e w2 ⟨rfl, rfl⟩) | (go_at_call 80; refine (calls_bool (specDescOk_c _ _ _ _ _ _ _) e3).mono ?_; rintro e w3 ⟨rfl, hb⟩; have HB := HB.ext hb; have k3 := ext_step k1 k1.size hb; clear hb))
          clear e1 e2 e3 OKC hn t0 t1 t2 t3 t4 t5
          have zk3 := k3.size
          go_loopw [7, 8] (fun ov i wr => ∃ (k : Nat) (u : Value), k ≤ n ∧ i = .int .i64 (k : Int) ∧ ov = u ∧ wr.ownsRow w.heap.size 62 6 u (k + 1) ((dList ps sz ck k).flatMap Desc.cells) ∧ Below w.heap.size w wr ∧ Hid ((dList ps sz ck k).all desB = true)) (fun _ i _ => n - (intOf i).toNat)
          case atStart => exact ⟨0, _, Nat.zero_le _, rfl, rfl, HB.own (Nat.le_refl _) rfl (by unfold maxLen; omega) rfl, k3, by rw [Hid]; simp [dList, dHead, desB, H3.out]⟩
          case round =>
            obtain ⟨k, u, hk, rfl, hu, o_q, hbw, hall⟩ := hrel
            have hu := hu.symm
            subst hu
            clear HB
            obtain ⟨w9, hw9⟩ : ∃ w9 : World, w9 = wr := ⟨_, rfl⟩
            subst hw9
            have k9 := hbw
            have hsz := hbw.size
            obtain ⟨A9, c9, rfl, r_q, hnc9, hcm9⟩ := own_form o_q
            have u_q := fun k hk => (o_q.lt k hk).2
            by_cases hlt : k < n
            · obtain ⟨b3, o3, x, rfl, hb3, hxx, hcx⟩ := hr.el (fun _ => rfl) (by decide) HN.out hlt
              have c0 := (hbw.cell (p := ⟨b3, o3 + k * 2, none⟩) hb3).trans (by simpa using hcx 0 _ rfl)
              have c1 := (hbw.cell (p := ⟨b3, o3 + k * 2 + 1, none⟩) hb3).trans (by simpa using hcx 1 _ rfl)
              have HXx := Lib.hid hxx
              clear hxx hcx
              obtain ⟨p1, p2, p3⟩ := piecesB_el HO.out HXx.out
              have i0' : (0 : Int) ≤ (k : Int) := by omega
              have i1' : (k : Int) < (n : Int) := by omega
              have HX2 := Lib.hid (dList_next (sz := sz) (ck := ck) HXx.out)
              by_cases hlast : k + 1 = n
              · have q1 : ((k : Int) == (n : Int) - 1) = true := by simp; omega
                have hd : dItem ps.length ck k x = ⟨1, 1, x.ln, x.at_, 0, ck⟩ := by rw [dItem, HN.out, if_pos hlast]
                have HD := Lib.hid hd
                clear hd
                cases e4 : descB 1 1 x.ln x.at_ 0 ck
                · have hg : dpB ps sz ck = false := by
                    have h5 : (dList ps sz ck ps.length)[k + 1]? = some (dItem ps.length ck k x) := dList_get HXx.out
                    rw [dpB, all_at h5 (show desB (dItem ps.length ck k x) = false by rw [HD.out]; exact e4)]; simp
                  have HG := Lib.hid (dp_no hg)
                  clear hg hlast
                  go_wp2_with fail
                  have hBB : w.heap.size ≤ w9.heap.size := by omega
                  refine wp_region_slotsS (w.heap.size) [(41, fun _ v => v = .slice (some ⟨b3, o3, none⟩) n c), (42, fun _ v => v = .int .i64 (k : Int)), (43, fun _ v => v = .pointer (some ⟨b3, o3 + k * 2, none⟩)), (44, fun _ v => v = .pointer (some ⟨b3, o3 + k * 2 + 1, none⟩)), (45, fun _ v => v = .int .i64 x.ln), (46, fun _ v => v = .slice (some ⟨b3, o3, none⟩) n c), (47, fun _ v => v = .int .i64 (k : Int)), (48, fun _ v => v = .pointer (some ⟨b3, o3 + k * 2, none⟩)), (49, fun _ v => v = .pointer (some ⟨b3, o3 + k * 2, none⟩)), (50, fun _ v => v = .int .i64 x.at_), (51, fun _ v => v = .int .i64 ck), (52, fun _ v => v = .agg #[.int .i64 1, .int .i64 0, .int .i64 x.ln, .int .i64 x.at_, .int .i64 0, .int .i64 ck]), (9, BoxP w9.heap.size 62 6)] [⟨13, 9, fun _ => True, StoP w9.heap.size 62 [.int .i64 1, .int .i64 0, .int .i64 x.ln, .int .i64 x.at_, .int .i64 0, .int .i64 ck]⟩] (fun u => u.ownsRow (w.heap.size) 62 6 (.slice A9 (k + 1) c9) (k + 1) ((dList ps sz ck k).flatMap Desc.cells)) (by kernel_rfl) hBB (by kernel_rfl) (by kernel_rfl) (by kernel_rfl) (by kernel_rfl) ?_ ?_ ?_ ?_ ?_ ?_ ?_
                  · intro p hp
                    simp only [List.mem_cons, List.not_mem_nil, or_false] at hp
                    rcases hp with rfl | rfl | rfl | rfl | rfl | rfl | rfl | rfl | rfl | rfl | rfl | rfl | rfl
                    all_goals (intro u u' v hb hv; first | exact hv | exact BoxP.keep hv hb | exact RowP.keep hv hb)
                  · intro s hs u u' hb
                    simp only [List.mem_cons, List.not_mem_nil, or_false] at hs
                    rcases hs with rfl
                    all_goals (refine ⟨fun h => ?_, fun _ h => ?_⟩ <;> first | exact h | exact StoP.keep h hb | exact StoR.keep h hb | exact Blk.ext h hb | exact StaR.keep h hb)
                  · intro s hs
                    simp only [List.mem_cons, List.not_mem_nil, or_false] at hs
                    rcases hs with rfl
                    all_goals first | trivial
                  · exact o_q
                  · intro u u' hb hj
                    have j0 := hj
                    exact (own_ext j0 hb)
                  · intro hGk hSk hJk
                    refine allStep_cons (stepS_plain hGk hSk hBB hJk (by kernel_rfl) rfl ?_) ?_
                    · intro a u hb hz hj hl hp K Q hK
                      have e0 : a.tmps[0]?.getD undef = .slice (some ⟨b3, o3, none⟩) n c := gd (hl 0 (by kernel_rfl))
                      go_simp
                      exact hK _ _ (Below.refl _ _) (by intro d hd; cases hd; exact rfl)
                    refine allStep_cons (stepS_plain hGk hSk hBB hJk (by kernel_rfl) rfl ?_) ?_
                    · intro a u hb hz hj hl hp K Q hK
                      have e8 : a.tmps[8]?.getD undef = .int .i64 (k : Int) := gd (hl 8 (by kernel_rfl))
                      go_simp
                      exact hK _ _ (Below.refl _ _) (by intro d hd; cases hd; exact rfl)
                    refine allStep_cons (stepS_plain hGk hSk hBB hJk (by kernel_rfl) rfl ?_) ?_
                    · intro a u hb hz hj hl hp K Q hK
                      have e41 : a.tmps[41]?.getD undef = .slice (some ⟨b3, o3, none⟩) n c := gd (hl 41 (by kernel_rfl))
                      have e42 : a.tmps[42]?.getD undef = .int .i64 (k : Int) := gd (hl 42 (by kernel_rfl))
                      go_simp
                      exact hK _ _ (Below.refl _ _) (by intro d hd; cases hd; exact rfl)
                    refine allStep_cons (stepS_plain hGk hSk hBB hJk (by kernel_rfl) rfl ?_) ?_
                    · intro a u hb hz hj hl hp K Q hK
                      have e43 : a.tmps[43]?.getD undef = .pointer (some ⟨b3, o3 + k * 2, none⟩) := gd (hl 43 (by kernel_rfl))
                      go_simp
                      exact hK _ _ (Below.refl _ _) (by intro d hd; cases hd; exact rfl)
                    refine allStep_cons (stepS_plain hGk hSk hBB hJk (by kernel_rfl) rfl ?_) ?_
                    · intro a u hb hz hj hl hp K Q hK
                      have e44 : a.tmps[44]?.getD undef = .pointer (some ⟨b3, o3 + k * 2 + 1, none⟩) := gd (hl 44 (by kernel_rfl))
                      have c1 := (hb.cell (p := ⟨b3, o3 + k * 2 + 1, none⟩) hb3).trans c1
                      go_simp
                      exact hK _ _ (Below.refl _ _) (by intro d hd; cases hd; exact rfl)
                    refine allStep_cons (stepS_plain hGk hSk hBB hJk (by kernel_rfl) rfl ?_) ?_
                    · intro a u hb hz hj hl hp K Q hK
                      have e0 : a.tmps[0]?.getD undef = .slice (some ⟨b3, o3, none⟩) n c := gd (hl 0 (by kernel_rfl))
                      go_simp
                      exact hK _ _ (Below.refl _ _) (by intro d hd; cases hd; exact rfl)
                    refine allStep_cons (stepS_plain hGk hSk hBB hJk (by kernel_rfl) rfl ?_) ?_
                    · intro a u hb hz hj hl hp K Q hK
                      have e8 : a.tmps[8]?.getD undef = .int .i64 (k : Int) := gd (hl 8 (by kernel_rfl))
                      go_simp
                      exact hK _ _ (Below.refl _ _) (by intro d hd; cases hd; exact rfl)
                    refine allStep_cons (stepS_plain hGk hSk hBB hJk (by kernel_rfl) rfl ?_) ?_
                    · intro a u hb hz hj hl hp K Q hK
                      have e46 : a.tmps[46]?.getD undef = .slice (some ⟨b3, o3, none⟩) n c := gd (hl 46 (by kernel_rfl))
                      have e47 : a.tmps[47]?.getD undef = .int .i64 (k : Int) := gd (hl 47 (by kernel_rfl))
                      go_simp
                      exact hK _ _ (Below.refl _ _) (by intro d hd; cases hd; exact rfl)
                    refine allStep_cons (stepS_plain hGk hSk hBB hJk (by kernel_rfl) rfl ?_) ?_
                    · intro a u hb hz hj hl hp K Q hK
                      have e48 : a.tmps[48]?.getD undef = .pointer (some ⟨b3, o3 + k * 2, none⟩) := gd (hl 48 (by kernel_rfl))
                      go_simp
                      exact hK _ _ (Below.refl _ _) (by intro d hd; cases hd; exact rfl)
                    refine allStep_cons (stepS_plain hGk hSk hBB hJk (by kernel_rfl) rfl ?_) ?_
                    · intro a u hb hz hj hl hp K Q hK
                      have e49 : a.tmps[49]?.getD undef = .pointer (some ⟨b3, o3 + k * 2, none⟩) := gd (hl 49 (by kernel_rfl))
                      have c0 := (hb.cell (p := ⟨b3, o3 + k * 2, none⟩) hb3).trans c0
                      go_simp
                      exact hK _ _ (Below.refl _ _) (by intro d hd; cases hd; exact rfl)
                    refine allStep_cons (stepS_plain hGk hSk hBB hJk (by kernel_rfl) rfl ?_) ?_
                    · intro a u hb hz hj hl hp K Q hK
                      have e2 : a.tmps[2]?.getD undef = .int .i64 ck := gd (hl 2 (by kernel_rfl))
                      go_simp
                      exact hK _ _ (Below.refl _ _) (by intro d hd; cases hd; exact rfl)
                    refine allStep_cons (stepS_plain hGk hSk hBB hJk (by kernel_rfl) rfl ?_) ?_
                    · intro a u hb hz hj hl hp K Q hK
                      have e45 : a.tmps[45]?.getD undef = .int .i64 x.ln := gd (hl 45 (by kernel_rfl))
                      have e50 : a.tmps[50]?.getD undef = .int .i64 x.at_ := gd (hl 50 (by kernel_rfl))
                      have e51 : a.tmps[51]?.getD undef = .int .i64 ck := gd (hl 51 (by kernel_rfl))
                      go_simp
                      exact hK _ _ (Below.refl _ _) (by intro d hd; cases hd; exact rfl)
                    refine allStep_cons (stepS_plain hGk hSk hBB hJk (by kernel_rfl) rfl ?_) ?_
                    · intro a u hb hz hj hl hp K Q hK
                      go_simp
                      exact hK _ _ (by go_grown) (by intro d hd; cases hd; exact BoxP.new _ _ [.int .i64 0, .int .i64 0, .int .i64 0, .int .i64 0, .int .i64 0, .int .i64 0] (by omega) rfl)
                    refine allStep_cons (stepS_store (Chg w9.heap.size 62) (fun _ _ hc hb => hc.below' (by omega) hb) (fun _ _ hc => hc.size) (hold_rel ?_) ?_ ?_ rfl rfl ?_) ?_
                    · intro p hp
                      simp only [List.mem_cons, List.not_mem_nil, or_false] at hp
                      rcases hp with rfl | rfl | rfl | rfl | rfl | rfl | rfl | rfl | rfl | rfl | rfl | rfl | rfl
                      all_goals (intro u u' v hb hv; first | exact hv | exact BoxP.chg hv hb | exact RowP.chg hv hb (by decide))
                    · intro s hs hne u u' hb
                      simp only [List.mem_cons, List.not_mem_nil, or_false] at hs
                      rcases hs with rfl
                      all_goals first | exact absurd (by rfl) hne | (refine ⟨fun h => ?_, fun _ h => ?_⟩ <;> first | exact h | exact StoP.chg h hb (by decide) | exact StoR.chg h hb (by decide) (by decide) | exact Blk.chgL h hb (by omega) | exact StaR.chgL h hb (by omega) (by decide))
                    · intro u u' hb hj
                      have j0 := hj
                      exact (own_chgL j0 hb (fun k hk => (o_q.lt k hk).2))
                    · intro a u hb hz hj hl hp K Q hK
                      obtain ⟨b, exb, hB, zs, hzl, hbk⟩ : BoxP w9.heap.size 62 6 u (a.tmps.getD 9 undef) := hl 9 (by kernel_rfl)
                      have e9 := gd exb
                      have e52 : a.tmps[52]?.getD undef = .agg #[.int .i64 1, .int .i64 0, .int .i64 x.ln, .int .i64 x.at_, .int .i64 0, .int .i64 ck] := gd (hl 52 (by kernel_rfl))
                      obtain ⟨z0, z1, z2, z3, z4, z5, rfl⟩ : ∃ z0 z1 z2 z3 z4 z5, zs = [z0, z1, z2, z3, z4, z5] := (by match zs, hzl with | [z0, z1, z2, z3, z4, z5], _ => exact ⟨_, _, _, _, _, _, rfl⟩)
                      have hlt := hbk.lt
                      have g0 : u.cell? ⟨b, 0, none⟩ = some z0 := (hbk.cell 0).trans rfl
                      have f0 := hbk.frozen 0
                      have g1 : u.cell? ⟨b, 1, none⟩ = some z1 := (hbk.cell 1).trans rfl
                      have f1 := hbk.frozen 1
                      have g2 : u.cell? ⟨b, 2, none⟩ = some z2 := (hbk.cell 2).trans rfl
                      have f2 := hbk.frozen 2
                      have g3 : u.cell? ⟨b, 3, none⟩ = some z3 := (hbk.cell 3).trans rfl
                      have f3 := hbk.frozen 3
                      have g4 : u.cell? ⟨b, 4, none⟩ = some z4 := (hbk.cell 4).trans rfl
                      have f4 := hbk.frozen 4
                      have g5 : u.cell? ⟨b, 5, none⟩ = some z5 := (hbk.cell 5).trans rfl
                      have f5 := hbk.frozen 5
                      go_simp
                      refine hK undef _ (((((((Chg.refl _ _ _).set hbk hB 0 _).set (hbk.set_ 0 _) hB 1 _).set ((hbk.set_ 0 _).set_ 1 _) hB 2 _).set (((hbk.set_ 0 _).set_ 1 _).set_ 2 _) hB 3 _).set ((((hbk.set_ 0 _).set_ 1 _).set_ 2 _).set_ 3 _) hB 4 _).set (((((hbk.set_ 0 _).set_ 1 _).set_ 2 _).set_ 3 _).set_ 4 _) hB 5 _) (fun s hs he => ?_)
                      simp only [List.mem_cons, List.not_mem_nil, or_false] at hs
                      rcases hs with rfl
                      · exact ⟨b, exb, hB, ((((((hbk.set_ 0 _).set_ 1 _).set_ 2 _).set_ 3 _).set_ 4 _).set_ 5 _)⟩
                    exact allStep_nil
                  intro xT w10 hb hz hj hL hSt
                  clear r_q o_q
                  have o_q : (fun u => u.ownsRow (w.heap.size) 62 6 (.slice A9 (k + 1) c9) (k + 1) ((dList ps sz ck k).flatMap Desc.cells)) w10 := hj
                  dsimp only at o_q
                  obtain ⟨bk_0, fx9, lo0, hk0⟩ : StoP w9.heap.size 62 [.int .i64 1, .int .i64 0, .int .i64 x.ln, .int .i64 x.at_, .int .i64 0, .int .i64 ck] w10 (xT 9) := hSt _ (List.mem_of_getElem? (i := 0) rfl)
                  simp only [List.map, putAll, fx9]
                  have bl0 := hk0.lt
                  have k10 : Below w.heap.size w w10 := k9.trans hb
                  have p10 : w9.heap.size ≤ w10.heap.size := hb.size
                  have r_q := Reads.of_own o_q
                  have bx0_0 : w10.cell? ⟨bk_0, 0, none⟩ = some (.int .i64 1) := (hk0.cell 0).trans rfl
                  have fz0_0 := hk0.frozen 0
                  have bx0_1 : w10.cell? ⟨bk_0, 1, none⟩ = some (.int .i64 0) := (hk0.cell 1).trans rfl
                  have fz0_1 := hk0.frozen 1
                  have bx0_2 : w10.cell? ⟨bk_0, 2, none⟩ = some (.int .i64 x.ln) := (hk0.cell 2).trans rfl
                  have fz0_2 := hk0.frozen 2
                  have bx0_3 : w10.cell? ⟨bk_0, 3, none⟩ = some (.int .i64 x.at_) := (hk0.cell 3).trans rfl
                  have fz0_3 := hk0.frozen 3
                  have bx0_4 : w10.cell? ⟨bk_0, 4, none⟩ = some (.int .i64 0) := (hk0.cell 4).trans rfl
                  have fz0_4 := hk0.frozen 4
                  have bx0_5 : w10.cell? ⟨bk_0, 5, none⟩ = some (.int .i64 ck) := (hk0.cell 5).trans rfl
                  have fz0_5 := hk0.frozen 5
                  clear hL hSt hb hz fx9
                  go_wp2_with fail
                  have hc : ChgA (bk_0) w10 (w10.setCell ⟨bk_0, 1, none⟩ (.int .i64 1)) := (ChgA.refl _ _).set _ _
                  have hko := hk0
                  replace hk0 : Blk (w10.setCell ⟨bk_0, 1, none⟩ (.int .i64 1)) (bk_0) 62 [.int .i64 1, .int .i64 1, .int .i64 x.ln, .int .i64 x.at_, .int .i64 0, .int .i64 ck] := hk0.set_ 1 _
                  have k11 : Below w.heap.size w (w10.setCell ⟨bk_0, 1, none⟩ (.int .i64 1)) := hc.below (by omega) k10
                  have p11 : (w10.setCell ⟨bk_0, 1, none⟩ (.int .i64 1)).heap.size = w10.heap.size := hc.size
                  have bl0 := Nat.lt_of_lt_of_le bl0 (Nat.le_of_eq p11.symm)
                  replace o_q := own_chgA o_q hc (by first | exact own_ty o_q hko (by decide) | exact fun k hk => by have h1 := o_q.lt k hk; omega | exact fun k hk => by have h1 := u_q k hk; omega)
                  replace r_q := Reads.of_own o_q
                  generalize hW0 : (w10.setCell ⟨bk_0, 1, none⟩ (.int .i64 1)) = w11 at *
                  clear hW0 hc hko
                  clear bx0_0 fz0_0 bx0_1 fz0_1 bx0_2 fz0_2 bx0_3 fz0_3 bx0_4 fz0_4 bx0_5 fz0_5
                  have bx0_0 : w11.cell? ⟨bk_0, 0, none⟩ = some (.int .i64 1) := (hk0.cell 0).trans rfl
                  have fz0_0 := hk0.frozen 0
                  have bx0_1 : w11.cell? ⟨bk_0, 1, none⟩ = some (.int .i64 1) := (hk0.cell 1).trans rfl
                  have fz0_1 := hk0.frozen 1
                  have bx0_2 : w11.cell? ⟨bk_0, 2, none⟩ = some (.int .i64 x.ln) := (hk0.cell 2).trans rfl
                  have fz0_2 := hk0.frozen 2
                  have bx0_3 : w11.cell? ⟨bk_0, 3, none⟩ = some (.int .i64 x.at_) := (hk0.cell 3).trans rfl
                  have fz0_3 := hk0.frozen 3
                  have bx0_4 : w11.cell? ⟨bk_0, 4, none⟩ = some (.int .i64 0) := (hk0.cell 4).trans rfl
                  have fz0_4 := hk0.frozen 4
                  have bx0_5 : w11.cell? ⟨bk_0, 5, none⟩ = some (.int .i64 ck) := (hk0.cell 5).trans rfl
                  have fz0_5 := hk0.frozen 5
                  refine (calls_bool (specDescOk_c _ _ _ _ _ _ _) e4).mono ?_
                  rintro e w12 ⟨rfl, hb⟩
                  have k12 : Below w.heap.size w w12 := ext_step k11 (by omega) hb
                  have p12 := hb.size
                  replace hk0 := hk0.ext hb
                  clear bx0_0 fz0_0 bx0_1 fz0_1 bx0_2 fz0_2 bx0_3 fz0_3 bx0_4 fz0_4 bx0_5 fz0_5
                  have bx0_0 : w12.cell? ⟨bk_0, 0, none⟩ = some (.int .i64 1) := (hk0.cell 0).trans rfl
                  have fz0_0 := hk0.frozen 0
                  have bx0_1 : w12.cell? ⟨bk_0, 1, none⟩ = some (.int .i64 1) := (hk0.cell 1).trans rfl
                  have fz0_1 := hk0.frozen 1
                  have bx0_2 : w12.cell? ⟨bk_0, 2, none⟩ = some (.int .i64 x.ln) := (hk0.cell 2).trans rfl
                  have fz0_2 := hk0.frozen 2
                  have bx0_3 : w12.cell? ⟨bk_0, 3, none⟩ = some (.int .i64 x.at_) := (hk0.cell 3).trans rfl
                  have fz0_3 := hk0.frozen 3
                  have bx0_4 : w12.cell? ⟨bk_0, 4, none⟩ = some (.int .i64 0) := (hk0.cell 4).trans rfl
                  have fz0_4 := hk0.frozen 4
                  have bx0_5 : w12.cell? ⟨bk_0, 5, none⟩ = some (.int .i64 ck) := (hk0.cell 5).trans rfl
                  have fz0_5 := hk0.frozen 5
                  have bl0 := Nat.lt_of_lt_of_le bl0 hb.size
                  replace r_q := r_q.below (hb.mono (by omega))
                  replace o_q := own_ext o_q hb
                  clear hb
                  go_wp2
                  go_ret
                  exact ⟨some ⟨_, 0, none⟩, 0, by rw [HG.out]; rfl, by rw [HG.out]; exact own_empty (Blk.new _ _ []) k12.size, k12.alloc k12.size _⟩
                · have HA : Hid ((dList ps sz ck (k + 1)).all desB = true) := by rw [Hid, HX2.out, List.all_append, hall.out, HD.out]; simp [desB, e4]
                  clear hlast
                  go_wp2_with fail
                  have hBB : w.heap.size ≤ w9.heap.size := by omega
                  refine wp_region_slotsS (w.heap.size) [(41, fun _ v => v = .slice (some ⟨b3, o3, none⟩) n c), (42, fun _ v => v = .int .i64 (k : Int)), (43, fun _ v => v = .pointer (some ⟨b3, o3 + k * 2, none⟩)), (44, fun _ v => v = .pointer (some ⟨b3, o3 + k * 2 + 1, none⟩)), (45, fun _ v => v = .int .i64 x.ln), (46, fun _ v => v = .slice (some ⟨b3, o3, none⟩) n c), (47, fun _ v => v = .int .i64 (k : Int)), (48, fun _ v => v = .pointer (some ⟨b3, o3 + k * 2, none⟩)), (49, fun _ v => v = .pointer (some ⟨b3, o3 + k * 2, none⟩)), (50, fun _ v => v = .int .i64 x.at_), (51, fun _ v => v = .int .i64 ck), (52, fun _ v => v = .agg #[.int .i64 1, .int .i64 0, .int .i64 x.ln, .int .i64 x.at_, .int .i64 0, .int .i64 ck]), (9, BoxP w9.heap.size 62 6)] [⟨13, 9, fun _ => True, StoP w9.heap.size 62 [.int .i64 1, .int .i64 0, .int .i64 x.ln, .int .i64 x.at_, .int .i64 0, .int .i64 ck]⟩] (fun u => u.ownsRow (w.heap.size) 62 6 (.slice A9 (k + 1) c9) (k + 1) ((dList ps sz ck k).flatMap Desc.cells)) (by kernel_rfl) hBB (by kernel_rfl) (by kernel_rfl) (by kernel_rfl) (by kernel_rfl) ?_ ?_ ?_ ?_ ?_ ?_ ?_
                  · intro p hp
                    simp only [List.mem_cons, List.not_mem_nil, or_false] at hp
                    rcases hp with rfl | rfl | rfl | rfl | rfl | rfl | rfl | rfl | rfl | rfl | rfl | rfl | rfl
                    all_goals (intro u u' v hb hv; first | exact hv | exact BoxP.keep hv hb | exact RowP.keep hv hb)
                  · intro s hs u u' hb
                    simp only [List.mem_cons, List.not_mem_nil, or_false] at hs
                    rcases hs with rfl
                    all_goals (refine ⟨fun h => ?_, fun _ h => ?_⟩ <;> first | exact h | exact StoP.keep h hb | exact StoR.keep h hb | exact Blk.ext h hb | exact StaR.keep h hb)
                  · intro s hs
                    simp only [List.mem_cons, List.not_mem_nil, or_false] at hs
                    rcases hs with rfl
                    all_goals first | trivial
                  · exact o_q
                  · intro u u' hb hj
                    have j0 := hj
                    exact (own_ext j0 hb)
                  · intro hGk hSk hJk
                    refine allStep_cons (stepS_plain hGk hSk hBB hJk (by kernel_rfl) rfl ?_) ?_
                    · intro a u hb hz hj hl hp K Q hK
                      have e0 : a.tmps[0]?.getD undef = .slice (some ⟨b3, o3, none⟩) n c := gd (hl 0 (by kernel_rfl))
                      go_simp
                      exact hK _ _ (Below.refl _ _) (by intro d hd; cases hd; exact rfl)
                    refine allStep_cons (stepS_plain hGk hSk hBB hJk (by kernel_rfl) rfl ?_) ?_
                    · intro a u hb hz hj hl hp K Q hK
                      have e8 : a.tmps[8]?.getD undef = .int .i64 (k : Int) := gd (hl 8 (by kernel_rfl))
                      go_simp
                      exact hK _ _ (Below.refl _ _) (by intro d hd; cases hd; exact rfl)
                    refine allStep_cons (stepS_plain hGk hSk hBB hJk (by kernel_rfl) rfl ?_) ?_
                    · intro a u hb hz hj hl hp K Q hK
                      have e41 : a.tmps[41]?.getD undef = .slice (some ⟨b3, o3, none⟩) n c := gd (hl 41 (by kernel_rfl))
                      have e42 : a.tmps[42]?.getD undef = .int .i64 (k : Int) := gd (hl 42 (by kernel_rfl))
                      go_simp
                      exact hK _ _ (Below.refl _ _) (by intro d hd; cases hd; exact rfl)
                    refine allStep_cons (stepS_plain hGk hSk hBB hJk (by kernel_rfl) rfl ?_) ?_
                    · intro a u hb hz hj hl hp K Q hK
                      have e43 : a.tmps[43]?.getD undef = .pointer (some ⟨b3, o3 + k * 2, none⟩) := gd (hl 43 (by kernel_rfl))
                      go_simp
                      exact hK _ _ (Below.refl _ _) (by intro d hd; cases hd; exact rfl)
                    refine allStep_cons (stepS_plain hGk hSk hBB hJk (by kernel_rfl) rfl ?_) ?_
                    · intro a u hb hz hj hl hp K Q hK
                      have e44 : a.tmps[44]?.getD undef = .pointer (some ⟨b3, o3 + k * 2 + 1, none⟩) := gd (hl 44 (by kernel_rfl))
                      have c1 := (hb.cell (p := ⟨b3, o3 + k * 2 + 1, none⟩) hb3).trans c1
                      go_simp
                      exact hK _ _ (Below.refl _ _) (by intro d hd; cases hd; exact rfl)
                    refine allStep_cons (stepS_plain hGk hSk hBB hJk (by kernel_rfl) rfl ?_) ?_
                    · intro a u hb hz hj hl hp K Q hK
                      have e0 : a.tmps[0]?.getD undef = .slice (some ⟨b3, o3, none⟩) n c := gd (hl 0 (by kernel_rfl))
                      go_simp
                      exact hK _ _ (Below.refl _ _) (by intro d hd; cases hd; exact rfl)
                    refine allStep_cons (stepS_plain hGk hSk hBB hJk (by kernel_rfl) rfl ?_) ?_
                    · intro a u hb hz hj hl hp K Q hK
                      have e8 : a.tmps[8]?.getD undef = .int .i64 (k : Int) := gd (hl 8 (by kernel_rfl))
                      go_simp
                      exact hK _ _ (Below.refl _ _) (by intro d hd; cases hd; exact rfl)
                    refine allStep_cons (stepS_plain hGk hSk hBB hJk (by kernel_rfl) rfl ?_) ?_
                    · intro a u hb hz hj hl hp K Q hK
                      have e46 : a.tmps[46]?.getD undef = .slice (some ⟨b3, o3, none⟩) n c := gd (hl 46 (by kernel_rfl))
                      have e47 : a.tmps[47]?.getD undef = .int .i64 (k : Int) := gd (hl 47 (by kernel_rfl))
                      go_simp
                      exact hK _ _ (Below.refl _ _) (by intro d hd; cases hd; exact rfl)
                    refine allStep_cons (stepS_plain hGk hSk hBB hJk (by kernel_rfl) rfl ?_) ?_
                    · intro a u hb hz hj hl hp K Q hK
                      have e48 : a.tmps[48]?.getD undef = .pointer (some ⟨b3, o3 + k * 2, none⟩) := gd (hl 48 (by kernel_rfl))
                      go_simp
                      exact hK _ _ (Below.refl _ _) (by intro d hd; cases hd; exact rfl)
                    refine allStep_cons (stepS_plain hGk hSk hBB hJk (by kernel_rfl) rfl ?_) ?_
                    · intro a u hb hz hj hl hp K Q hK
                      have e49 : a.tmps[49]?.getD undef = .pointer (some ⟨b3, o3 + k * 2, none⟩) := gd (hl 49 (by kernel_rfl))
                      have c0 := (hb.cell (p := ⟨b3, o3 + k * 2, none⟩) hb3).trans c0
                      go_simp
                      exact hK _ _ (Below.refl _ _) (by intro d hd; cases hd; exact rfl)
                    refine allStep_cons (stepS_plain hGk hSk hBB hJk (by kernel_rfl) rfl ?_) ?_
                    · intro a u hb hz hj hl hp K Q hK
                      have e2 : a.tmps[2]?.getD undef = .int .i64 ck := gd (hl 2 (by kernel_rfl))
                      go_simp
                      exact hK _ _ (Below.refl _ _) (by intro d hd; cases hd; exact rfl)
                    refine allStep_cons (stepS_plain hGk hSk hBB hJk (by kernel_rfl) rfl ?_) ?_
                    · intro a u hb hz hj hl hp K Q hK
                      have e45 : a.tmps[45]?.getD undef = .int .i64 x.ln := gd (hl 45 (by kernel_rfl))
                      have e50 : a.tmps[50]?.getD undef = .int .i64 x.at_ := gd (hl 50 (by kernel_rfl))
                      have e51 : a.tmps[51]?.getD undef = .int .i64 ck := gd (hl 51 (by kernel_rfl))
                      go_simp
                      exact hK _ _ (Below.refl _ _) (by intro d hd; cases hd; exact rfl)
                    refine allStep_cons (stepS_plain hGk hSk hBB hJk (by kernel_rfl) rfl ?_) ?_
                    · intro a u hb hz hj hl hp K Q hK
                      go_simp
                      exact hK _ _ (by go_grown) (by intro d hd; cases hd; exact BoxP.new _ _ [.int .i64 0, .int .i64 0, .int .i64 0, .int .i64 0, .int .i64 0, .int .i64 0] (by omega) rfl)
                    refine allStep_cons (stepS_store (Chg w9.heap.size 62) (fun _ _ hc hb => hc.below' (by omega) hb) (fun _ _ hc => hc.size) (hold_rel ?_) ?_ ?_ rfl rfl ?_) ?_
                    · intro p hp
                      simp only [List.mem_cons, List.not_mem_nil, or_false] at hp
                      rcases hp with rfl | rfl | rfl | rfl | rfl | rfl | rfl | rfl | rfl | rfl | rfl | rfl | rfl
                      all_goals (intro u u' v hb hv; first | exact hv | exact BoxP.chg hv hb | exact RowP.chg hv hb (by decide))
                    · intro s hs hne u u' hb
                      simp only [List.mem_cons, List.not_mem_nil, or_false] at hs
                      rcases hs with rfl
                      all_goals first | exact absurd (by rfl) hne | (refine ⟨fun h => ?_, fun _ h => ?_⟩ <;> first | exact h | exact StoP.chg h hb (by decide) | exact StoR.chg h hb (by decide) (by decide) | exact Blk.chgL h hb (by omega) | exact StaR.chgL h hb (by omega) (by decide))
                    · intro u u' hb hj
                      have j0 := hj
                      exact (own_chgL j0 hb (fun k hk => (o_q.lt k hk).2))
                    · intro a u hb hz hj hl hp K Q hK
                      obtain ⟨b, exb, hB, zs, hzl, hbk⟩ : BoxP w9.heap.size 62 6 u (a.tmps.getD 9 undef) := hl 9 (by kernel_rfl)
                      have e9 := gd exb
                      have e52 : a.tmps[52]?.getD undef = .agg #[.int .i64 1, .int .i64 0, .int .i64 x.ln, .int .i64 x.at_, .int .i64 0, .int .i64 ck] := gd (hl 52 (by kernel_rfl))
                      obtain ⟨z0, z1, z2, z3, z4, z5, rfl⟩ : ∃ z0 z1 z2 z3 z4 z5, zs = [z0, z1, z2, z3, z4, z5] := (by match zs, hzl with | [z0, z1, z2, z3, z4, z5], _ => exact ⟨_, _, _, _, _, _, rfl⟩)
                      have hlt := hbk.lt
                      have g0 : u.cell? ⟨b, 0, none⟩ = some z0 := (hbk.cell 0).trans rfl
                      have f0 := hbk.frozen 0
                      have g1 : u.cell? ⟨b, 1, none⟩ = some z1 := (hbk.cell 1).trans rfl
                      have f1 := hbk.frozen 1
                      have g2 : u.cell? ⟨b, 2, none⟩ = some z2 := (hbk.cell 2).trans rfl
                      have f2 := hbk.frozen 2
                      have g3 : u.cell? ⟨b, 3, none⟩ = some z3 := (hbk.cell 3).trans rfl
                      have f3 := hbk.frozen 3
                      have g4 : u.cell? ⟨b, 4, none⟩ = some z4 := (hbk.cell 4).trans rfl
                      have f4 := hbk.frozen 4
                      have g5 : u.cell? ⟨b, 5, none⟩ = some z5 := (hbk.cell 5).trans rfl
                      have f5 := hbk.frozen 5
                      go_simp
                      refine hK undef _ (((((((Chg.refl _ _ _).set hbk hB 0 _).set (hbk.set_ 0 _) hB 1 _).set ((hbk.set_ 0 _).set_ 1 _) hB 2 _).set (((hbk.set_ 0 _).set_ 1 _).set_ 2 _) hB 3 _).set ((((hbk.set_ 0 _).set_ 1 _).set_ 2 _).set_ 3 _) hB 4 _).set (((((hbk.set_ 0 _).set_ 1 _).set_ 2 _).set_ 3 _).set_ 4 _) hB 5 _) (fun s hs he => ?_)
                      simp only [List.mem_cons, List.not_mem_nil, or_false] at hs
                      rcases hs with rfl
                      · exact ⟨b, exb, hB, ((((((hbk.set_ 0 _).set_ 1 _).set_ 2 _).set_ 3 _).set_ 4 _).set_ 5 _)⟩
                    exact allStep_nil
                  intro xT w10 hb hz hj hL hSt
                  clear r_q o_q
                  have o_q : (fun u => u.ownsRow (w.heap.size) 62 6 (.slice A9 (k + 1) c9) (k + 1) ((dList ps sz ck k).flatMap Desc.cells)) w10 := hj
                  dsimp only at o_q
                  obtain ⟨bk_0, fx9, lo0, hk0⟩ : StoP w9.heap.size 62 [.int .i64 1, .int .i64 0, .int .i64 x.ln, .int .i64 x.at_, .int .i64 0, .int .i64 ck] w10 (xT 9) := hSt _ (List.mem_of_getElem? (i := 0) rfl)
                  simp only [List.map, putAll, fx9]
                  have bl0 := hk0.lt
                  have k10 : Below w.heap.size w w10 := k9.trans hb
                  have p10 : w9.heap.size ≤ w10.heap.size := hb.size
                  have r_q := Reads.of_own o_q
                  have bx0_0 : w10.cell? ⟨bk_0, 0, none⟩ = some (.int .i64 1) := (hk0.cell 0).trans rfl
                  have fz0_0 := hk0.frozen 0
                  have bx0_1 : w10.cell? ⟨bk_0, 1, none⟩ = some (.int .i64 0) := (hk0.cell 1).trans rfl
                  have fz0_1 := hk0.frozen 1
                  have bx0_2 : w10.cell? ⟨bk_0, 2, none⟩ = some (.int .i64 x.ln) := (hk0.cell 2).trans rfl
                  have fz0_2 := hk0.frozen 2
                  have bx0_3 : w10.cell? ⟨bk_0, 3, none⟩ = some (.int .i64 x.at_) := (hk0.cell 3).trans rfl
                  have fz0_3 := hk0.frozen 3
                  have bx0_4 : w10.cell? ⟨bk_0, 4, none⟩ = some (.int .i64 0) := (hk0.cell 4).trans rfl
                  have fz0_4 := hk0.frozen 4
                  have bx0_5 : w10.cell? ⟨bk_0, 5, none⟩ = some (.int .i64 ck) := (hk0.cell 5).trans rfl
                  have fz0_5 := hk0.frozen 5
                  clear hL hSt hb hz fx9
                  go_wp2_with fail
                  have hc : ChgA (bk_0) w10 (w10.setCell ⟨bk_0, 1, none⟩ (.int .i64 1)) := (ChgA.refl _ _).set _ _
                  have hko := hk0
                  replace hk0 : Blk (w10.setCell ⟨bk_0, 1, none⟩ (.int .i64 1)) (bk_0) 62 [.int .i64 1, .int .i64 1, .int .i64 x.ln, .int .i64 x.at_, .int .i64 0, .int .i64 ck] := hk0.set_ 1 _
                  have k11 : Below w.heap.size w (w10.setCell ⟨bk_0, 1, none⟩ (.int .i64 1)) := hc.below (by omega) k10
                  have p11 : (w10.setCell ⟨bk_0, 1, none⟩ (.int .i64 1)).heap.size = w10.heap.size := hc.size
                  have bl0 := Nat.lt_of_lt_of_le bl0 (Nat.le_of_eq p11.symm)
                  replace o_q := own_chgA o_q hc (by first | exact own_ty o_q hko (by decide) | exact fun k hk => by have h1 := o_q.lt k hk; omega | exact fun k hk => by have h1 := u_q k hk; omega)
                  replace r_q := Reads.of_own o_q
                  generalize hW0 : (w10.setCell ⟨bk_0, 1, none⟩ (.int .i64 1)) = w11 at *
                  clear hW0 hc hko
                  clear bx0_0 fz0_0 bx0_1 fz0_1 bx0_2 fz0_2 bx0_3 fz0_3 bx0_4 fz0_4 bx0_5 fz0_5
                  have bx0_0 : w11.cell? ⟨bk_0, 0, none⟩ = some (.int .i64 1) := (hk0.cell 0).trans rfl
                  have fz0_0 := hk0.frozen 0
                  have bx0_1 : w11.cell? ⟨bk_0, 1, none⟩ = some (.int .i64 1) := (hk0.cell 1).trans rfl
                  have fz0_1 := hk0.frozen 1
                  have bx0_2 : w11.cell? ⟨bk_0, 2, none⟩ = some (.int .i64 x.ln) := (hk0.cell 2).trans rfl
                  have fz0_2 := hk0.frozen 2
                  have bx0_3 : w11.cell? ⟨bk_0, 3, none⟩ = some (.int .i64 x.at_) := (hk0.cell 3).trans rfl
                  have fz0_3 := hk0.frozen 3
                  have bx0_4 : w11.cell? ⟨bk_0, 4, none⟩ = some (.int .i64 0) := (hk0.cell 4).trans rfl
                  have fz0_4 := hk0.frozen 4
                  have bx0_5 : w11.cell? ⟨bk_0, 5, none⟩ = some (.int .i64 ck) := (hk0.cell 5).trans rfl
                  have fz0_5 := hk0.frozen 5
                  refine (calls_bool (specDescOk_c _ _ _ _ _ _ _) e4).mono ?_
                  rintro e w12 ⟨rfl, hb⟩
                  have k12 : Below w.heap.size w w12 := ext_step k11 (by omega) hb
                  have p12 := hb.size
                  replace hk0 := hk0.ext hb
                  clear bx0_0 fz0_0 bx0_1 fz0_1 bx0_2 fz0_2 bx0_3 fz0_3 bx0_4 fz0_4 bx0_5 fz0_5
                  have bx0_0 : w12.cell? ⟨bk_0, 0, none⟩ = some (.int .i64 1) := (hk0.cell 0).trans rfl
                  have fz0_0 := hk0.frozen 0
                  have bx0_1 : w12.cell? ⟨bk_0, 1, none⟩ = some (.int .i64 1) := (hk0.cell 1).trans rfl
                  have fz0_1 := hk0.frozen 1
                  have bx0_2 : w12.cell? ⟨bk_0, 2, none⟩ = some (.int .i64 x.ln) := (hk0.cell 2).trans rfl
                  have fz0_2 := hk0.frozen 2
                  have bx0_3 : w12.cell? ⟨bk_0, 3, none⟩ = some (.int .i64 x.at_) := (hk0.cell 3).trans rfl
                  have fz0_3 := hk0.frozen 3
                  have bx0_4 : w12.cell? ⟨bk_0, 4, none⟩ = some (.int .i64 0) := (hk0.cell 4).trans rfl
                  have fz0_4 := hk0.frozen 4
                  have bx0_5 : w12.cell? ⟨bk_0, 5, none⟩ = some (.int .i64 ck) := (hk0.cell 5).trans rfl
                  have fz0_5 := hk0.frozen 5
                  have bl0 := Nat.lt_of_lt_of_le bl0 hb.size
                  replace r_q := r_q.below (hb.mono (by omega))
                  replace o_q := own_ext o_q hb
                  clear hb
                  go_wp2_with (at_builtin; refine wpList_append_own _ rfl _ _ 67 rfl w.heap.size 62 i0 (.agg #[.int .i64 0, .int .i64 0, .int .i64 0, .int .i64 0, .int .i64 0, .int .i64 0]) 6 48 Try.underlying67 hi hz0 hz1 hz2 rfl (by decide) _ _ _ rfl (o_q.alloc _) ⟨w12.heap.size, 0, none⟩ 1 1 [.int .i64 1, .int .i64 1, .int .i64 x.ln, .int .i64 x.at_, .int .i64 0, .int .i64 ck] rfl rfl (cells_new _ _ _) ?c2 ?c3 ?c4 ?c5 ?_; (case c2 => (intro u hu; simp only [List.mem_cons, List.not_mem_nil, or_false] at hu; rcases hu with rfl | rfl | rfl | rfl | rfl | rfl <;> rfl)); (case c3 => (unfold maxLen; omega)); (case c4 => omega); (case c5 => (simp only [World.size_alloc]; omega)); intro v1 w1 hown1 hg1 hn1; have hb1 : Below w.heap.size w w1 := below_app (by go_grown) (o_q.alloc _) hg1 (by simp only [World.size_alloc]; omega); clear hn1 hg1)
                  go_roundw
                  case rel => exact ⟨k + 1, v1, by omega, by go_num, rfl, by rw [HX2.out, HD.out, List.flatMap_append]; exact hown1, hb1, HA⟩
                  case measure => simp [intOf]; omega
              · have q1 : ((k : Int) == (n : Int) - 1) = false := by simp; omega
                have hd : dItem ps.length ck k x = ⟨1, 0, x.ln, x.at_, 0, ck⟩ := by rw [dItem, HN.out, if_neg hlast]
                have HD := Lib.hid hd
                clear hd
                cases e4 : descB 1 0 x.ln x.at_ 0 ck
                · have hg : dpB ps sz ck = false := by
                    have h5 : (dList ps sz ck ps.length)[k + 1]? = some (dItem ps.length ck k x) := dList_get HXx.out
                    rw [dpB, all_at h5 (show desB (dItem ps.length ck k x) = false by rw [HD.out]; exact e4)]; simp
                  have HG := Lib.hid (dp_no hg)
                  clear hg hlast
                  go_wp2_with fail
                  have hBB : w.heap.size ≤ w9.heap.size := by omega
                  refine wp_region_slotsS (w.heap.size) [(41, fun _ v => v = .slice (some ⟨b3, o3, none⟩) n c), (42, fun _ v => v = .int .i64 (k : Int)), (43, fun _ v => v = .pointer (some ⟨b3, o3 + k * 2, none⟩)), (44, fun _ v => v = .pointer (some ⟨b3, o3 + k * 2 + 1, none⟩)), (45, fun _ v => v = .int .i64 x.ln), (46, fun _ v => v = .slice (some ⟨b3, o3, none⟩) n c), (47, fun _ v => v = .int .i64 (k : Int)), (48, fun _ v => v = .pointer (some ⟨b3, o3 + k * 2, none⟩)), (49, fun _ v => v = .pointer (some ⟨b3, o3 + k * 2, none⟩)), (50, fun _ v => v = .int .i64 x.at_), (51, fun _ v => v = .int .i64 ck), (52, fun _ v => v = .agg #[.int .i64 1, .int .i64 0, .int .i64 x.ln, .int .i64 x.at_, .int .i64 0, .int .i64 ck]), (9, BoxP w9.heap.size 62 6)] [⟨13, 9, fun _ => True, StoP w9.heap.size 62 [.int .i64 1, .int .i64 0, .int .i64 x.ln, .int .i64 x.at_, .int .i64 0, .int .i64 ck]⟩] (fun u => u.ownsRow (w.heap.size) 62 6 (.slice A9 (k + 1) c9) (k + 1) ((dList ps sz ck k).flatMap Desc.cells)) (by kernel_rfl) hBB (by kernel_rfl) (by kernel_rfl) (by kernel_rfl) (by kernel_rfl) ?_ ?_ ?_ ?_ ?_ ?_ ?_
                  · intro p hp
                    simp only [List.mem_cons, List.not_mem_nil, or_false] at hp
                    rcases hp with rfl | rfl | rfl | rfl | rfl | rfl | rfl | rfl | rfl | rfl | rfl | rfl | rfl
                    all_goals (intro u u' v hb hv; first | exact hv | exact BoxP.keep hv hb | exact RowP.keep hv hb)
                  · intro s hs u u' hb
                    simp only [List.mem_cons, List.not_mem_nil, or_false] at hs
                    rcases hs with rfl
                    all_goals (refine ⟨fun h => ?_, fun _ h => ?_⟩ <;> first | exact h | exact StoP.keep h hb | exact StoR.keep h hb | exact Blk.ext h hb | exact StaR.keep h hb)
                  · intro s hs
                    simp only [List.mem_cons, List.not_mem_nil, or_false] at hs
                    rcases hs with rfl
                    all_goals first | trivial
                  · exact o_q
                  · intro u u' hb hj
                    have j0 := hj
                    exact (own_ext j0 hb)
                  · intro hGk hSk hJk
                    refine allStep_cons (stepS_plain hGk hSk hBB hJk (by kernel_rfl) rfl ?_) ?_
                    · intro a u hb hz hj hl hp K Q hK
                      have e0 : a.tmps[0]?.getD undef = .slice (some ⟨b3, o3, none⟩) n c := gd (hl 0 (by kernel_rfl))
                      go_simp
                      exact hK _ _ (Below.refl _ _) (by intro d hd; cases hd; exact rfl)
                    refine allStep_cons (stepS_plain hGk hSk hBB hJk (by kernel_rfl) rfl ?_) ?_
                    · intro a u hb hz hj hl hp K Q hK
                      have e8 : a.tmps[8]?.getD undef = .int .i64 (k : Int) := gd (hl 8 (by kernel_rfl))
                      go_simp
                      exact hK _ _ (Below.refl _ _) (by intro d hd; cases hd; exact rfl)
                    refine allStep_cons (stepS_plain hGk hSk hBB hJk (by kernel_rfl) rfl ?_) ?_
                    · intro a u hb hz hj hl hp K Q hK
                      have e41 : a.tmps[41]?.getD undef = .slice (some ⟨b3, o3, none⟩) n c := gd (hl 41 (by kernel_rfl))
                      have e42 : a.tmps[42]?.getD undef = .int .i64 (k : Int) := gd (hl 42 (by kernel_rfl))
                      go_simp
                      exact hK _ _ (Below.refl _ _) (by intro d hd; cases hd; exact rfl)
                    refine allStep_cons (stepS_plain hGk hSk hBB hJk (by kernel_rfl) rfl ?_) ?_
                    · intro a u hb hz hj hl hp K Q hK
                      have e43 : a.tmps[43]?.getD undef = .pointer (some ⟨b3, o3 + k * 2, none⟩) := gd (hl 43 (by kernel_rfl))
                      go_simp
                      exact hK _ _ (Below.refl _ _) (by intro d hd; cases hd; exact rfl)
                    refine allStep_cons (stepS_plain hGk hSk hBB hJk (by kernel_rfl) rfl ?_) ?_
                    · intro a u hb hz hj hl hp K Q hK
                      have e44 : a.tmps[44]?.getD undef = .pointer (some ⟨b3, o3 + k * 2 + 1, none⟩) := gd (hl 44 (by kernel_rfl))
                      have c1 := (hb.cell (p := ⟨b3, o3 + k * 2 + 1, none⟩) hb3).trans c1
                      go_simp
                      exact hK _ _ (Below.refl _ _) (by intro d hd; cases hd; exact rfl)
                    refine allStep_cons (stepS_plain hGk hSk hBB hJk (by kernel_rfl) rfl ?_) ?_
                    · intro a u hb hz hj hl hp K Q hK
                      have e0 : a.tmps[0]?.getD undef = .slice (some ⟨b3, o3, none⟩) n c := gd (hl 0 (by kernel_rfl))
                      go_simp
                      exact hK _ _ (Below.refl _ _) (by intro d hd; cases hd; exact rfl)
                    refine allStep_cons (stepS_plain hGk hSk hBB hJk (by kernel_rfl) rfl ?_) ?_
                    · intro a u hb hz hj hl hp K Q hK
                      have e8 : a.tmps[8]?.getD undef = .int .i64 (k : Int) := gd (hl 8 (by kernel_rfl))
                      go_simp
                      exact hK _ _ (Below.refl _ _) (by intro d hd; cases hd; exact rfl)
                    refine allStep_cons (stepS_plain hGk hSk hBB hJk (by kernel_rfl) rfl ?_) ?_
                    · intro a u hb hz hj hl hp K Q hK
                      have e46 : a.tmps[46]?.getD undef = .slice (some ⟨b3, o3, none⟩) n c := gd (hl 46 (by kernel_rfl))
                      have e47 : a.tmps[47]?.getD undef = .int .i64 (k : Int) := gd (hl 47 (by kernel_rfl))
                      go_simp
                      exact hK _ _ (Below.refl _ _) (by intro d hd; cases hd; exact rfl)
                    refine allStep_cons (stepS_plain hGk hSk hBB hJk (by kernel_rfl) rfl ?_) ?_
                    · intro a u hb hz hj hl hp K Q hK
                      have e48 : a.tmps[48]?.getD undef = .pointer (some ⟨b3, o3 + k * 2, none⟩) := gd (hl 48 (by kernel_rfl))
                      go_simp
                      exact hK _ _ (Below.refl _ _) (by intro d hd; cases hd; exact rfl)
                    refine allStep_cons (stepS_plain hGk hSk hBB hJk (by kernel_rfl) rfl ?_) ?_
                    · intro a u hb hz hj hl hp K Q hK
                      have e49 : a.tmps[49]?.getD undef = .pointer (some ⟨b3, o3 + k * 2, none⟩) := gd (hl 49 (by kernel_rfl))
                      have c0 := (hb.cell (p := ⟨b3, o3 + k * 2, none⟩) hb3).trans c0
                      go_simp
                      exact hK _ _ (Below.refl _ _) (by intro d hd; cases hd; exact rfl)
                    refine allStep_cons (stepS_plain hGk hSk hBB hJk (by kernel_rfl) rfl ?_) ?_
                    · intro a u hb hz hj hl hp K Q hK
                      have e2 : a.tmps[2]?.getD undef = .int .i64 ck := gd (hl 2 (by kernel_rfl))
                      go_simp
                      exact hK _ _ (Below.refl _ _) (by intro d hd; cases hd; exact rfl)
                    refine allStep_cons (stepS_plain hGk hSk hBB hJk (by kernel_rfl) rfl ?_) ?_
                    · intro a u hb hz hj hl hp K Q hK
                      have e45 : a.tmps[45]?.getD undef = .int .i64 x.ln := gd (hl 45 (by kernel_rfl))
                      have e50 : a.tmps[50]?.getD undef = .int .i64 x.at_ := gd (hl 50 (by kernel_rfl))
                      have e51 : a.tmps[51]?.getD undef = .int .i64 ck := gd (hl 51 (by kernel_rfl))
                      go_simp
                      exact hK _ _ (Below.refl _ _) (by intro d hd; cases hd; exact rfl)
                    refine allStep_cons (stepS_plain hGk hSk hBB hJk (by kernel_rfl) rfl ?_) ?_
                    · intro a u hb hz hj hl hp K Q hK
                      go_simp
                      exact hK _ _ (by go_grown) (by intro d hd; cases hd; exact BoxP.new _ _ [.int .i64 0, .int .i64 0, .int .i64 0, .int .i64 0, .int .i64 0, .int .i64 0] (by omega) rfl)
                    refine allStep_cons (stepS_store (Chg w9.heap.size 62) (fun _ _ hc hb => hc.below' (by omega) hb) (fun _ _ hc => hc.size) (hold_rel ?_) ?_ ?_ rfl rfl ?_) ?_
                    · intro p hp
                      simp only [List.mem_cons, List.not_mem_nil, or_false] at hp
                      rcases hp with rfl | rfl | rfl | rfl | rfl | rfl | rfl | rfl | rfl | rfl | rfl | rfl | rfl
                      all_goals (intro u u' v hb hv; first | exact hv | exact BoxP.chg hv hb | exact RowP.chg hv hb (by decide))
                    · intro s hs hne u u' hb
                      simp only [List.mem_cons, List.not_mem_nil, or_false] at hs
                      rcases hs with rfl
                      all_goals first | exact absurd (by rfl) hne | (refine ⟨fun h => ?_, fun _ h => ?_⟩ <;> first | exact h | exact StoP.chg h hb (by decide) | exact StoR.chg h hb (by decide) (by decide) | exact Blk.chgL h hb (by omega) | exact StaR.chgL h hb (by omega) (by decide))
                    · intro u u' hb hj
                      have j0 := hj
                      exact (own_chgL j0 hb (fun k hk => (o_q.lt k hk).2))
                    · intro a u hb hz hj hl hp K Q hK
                      obtain ⟨b, exb, hB, zs, hzl, hbk⟩ : BoxP w9.heap.size 62 6 u (a.tmps.getD 9 undef) := hl 9 (by kernel_rfl)
                      have e9 := gd exb
                      have e52 : a.tmps[52]?.getD undef = .agg #[.int .i64 1, .int .i64 0, .int .i64 x.ln, .int .i64 x.at_, .int .i64 0, .int .i64 ck] := gd (hl 52 (by kernel_rfl))
                      obtain ⟨z0, z1, z2, z3, z4, z5, rfl⟩ : ∃ z0 z1 z2 z3 z4 z5, zs = [z0, z1, z2, z3, z4, z5] := (by match zs, hzl with | [z0, z1, z2, z3, z4, z5], _ => exact ⟨_, _, _, _, _, _, rfl⟩)
                      have hlt := hbk.lt
                      have g0 : u.cell? ⟨b, 0, none⟩ = some z0 := (hbk.cell 0).trans rfl
                      have f0 := hbk.frozen 0
                      have g1 : u.cell? ⟨b, 1, none⟩ = some z1 := (hbk.cell 1).trans rfl
                      have f1 := hbk.frozen 1
                      have g2 : u.cell? ⟨b, 2, none⟩ = some z2 := (hbk.cell 2).trans rfl
                      have f2 := hbk.frozen 2
                      have g3 : u.cell? ⟨b, 3, none⟩ = some z3 := (hbk.cell 3).trans rfl
                      have f3 := hbk.frozen 3
                      have g4 : u.cell? ⟨b, 4, none⟩ = some z4 := (hbk.cell 4).trans rfl
                      have f4 := hbk.frozen 4
                      have g5 : u.cell? ⟨b, 5, none⟩ = some z5 := (hbk.cell 5).trans rfl
                      have f5 := hbk.frozen 5
                      go_simp
                      refine hK undef _ (((((((Chg.refl _ _ _).set hbk hB 0 _).set (hbk.set_ 0 _) hB 1 _).set ((hbk.set_ 0 _).set_ 1 _) hB 2 _).set (((hbk.set_ 0 _).set_ 1 _).set_ 2 _) hB 3 _).set ((((hbk.set_ 0 _).set_ 1 _).set_ 2 _).set_ 3 _) hB 4 _).set (((((hbk.set_ 0 _).set_ 1 _).set_ 2 _).set_ 3 _).set_ 4 _) hB 5 _) (fun s hs he => ?_)
                      simp only [List.mem_cons, List.not_mem_nil, or_false] at hs
                      rcases hs with rfl
                      · exact ⟨b, exb, hB, ((((((hbk.set_ 0 _).set_ 1 _).set_ 2 _).set_ 3 _).set_ 4 _).set_ 5 _)⟩
                    exact allStep_nil
                  intro xT w10 hb hz hj hL hSt
                  clear r_q o_q
                  have o_q : (fun u => u.ownsRow (w.heap.size) 62 6 (.slice A9 (k + 1) c9) (k + 1) ((dList ps sz ck k).flatMap Desc.cells)) w10 := hj
                  dsimp only at o_q
                  obtain ⟨bk_0, fx9, lo0, hk0⟩ : StoP w9.heap.size 62 [.int .i64 1, .int .i64 0, .int .i64 x.ln, .int .i64 x.at_, .int .i64 0, .int .i64 ck] w10 (xT 9) := hSt _ (List.mem_of_getElem? (i := 0) rfl)
                  simp only [List.map, putAll, fx9]
                  have bl0 := hk0.lt
                  have k10 : Below w.heap.size w w10 := k9.trans hb
                  have p10 : w9.heap.size ≤ w10.heap.size := hb.size
                  have r_q := Reads.of_own o_q
                  have bx0_0 : w10.cell? ⟨bk_0, 0, none⟩ = some (.int .i64 1) := (hk0.cell 0).trans rfl
                  have fz0_0 := hk0.frozen 0
                  have bx0_1 : w10.cell? ⟨bk_0, 1, none⟩ = some (.int .i64 0) := (hk0.cell 1).trans rfl
                  have fz0_1 := hk0.frozen 1
                  have bx0_2 : w10.cell? ⟨bk_0, 2, none⟩ = some (.int .i64 x.ln) := (hk0.cell 2).trans rfl
                  have fz0_2 := hk0.frozen 2
                  have bx0_3 : w10.cell? ⟨bk_0, 3, none⟩ = some (.int .i64 x.at_) := (hk0.cell 3).trans rfl
                  have fz0_3 := hk0.frozen 3
                  have bx0_4 : w10.cell? ⟨bk_0, 4, none⟩ = some (.int .i64 0) := (hk0.cell 4).trans rfl
                  have fz0_4 := hk0.frozen 4
                  have bx0_5 : w10.cell? ⟨bk_0, 5, none⟩ = some (.int .i64 ck) := (hk0.cell 5).trans rfl
                  have fz0_5 := hk0.frozen 5
                  clear hL hSt hb hz fx9
                  go_wp2_with fail
                  refine (calls_bool (specDescOk_c _ _ _ _ _ _ _) e4).mono ?_
                  rintro e w11 ⟨rfl, hb⟩
                  have k11 : Below w.heap.size w w11 := ext_step k10 (by omega) hb
                  have p11 := hb.size
                  replace hk0 := hk0.ext hb
                  clear bx0_0 fz0_0 bx0_1 fz0_1 bx0_2 fz0_2 bx0_3 fz0_3 bx0_4 fz0_4 bx0_5 fz0_5
                  have bx0_0 : w11.cell? ⟨bk_0, 0, none⟩ = some (.int .i64 1) := (hk0.cell 0).trans rfl
                  have fz0_0 := hk0.frozen 0
                  have bx0_1 : w11.cell? ⟨bk_0, 1, none⟩ = some (.int .i64 0) := (hk0.cell 1).trans rfl
                  have fz0_1 := hk0.frozen 1
                  have bx0_2 : w11.cell? ⟨bk_0, 2, none⟩ = some (.int .i64 x.ln) := (hk0.cell 2).trans rfl
                  have fz0_2 := hk0.frozen 2
                  have bx0_3 : w11.cell? ⟨bk_0, 3, none⟩ = some (.int .i64 x.at_) := (hk0.cell 3).trans rfl
                  have fz0_3 := hk0.frozen 3
                  have bx0_4 : w11.cell? ⟨bk_0, 4, none⟩ = some (.int .i64 0) := (hk0.cell 4).trans rfl
                  have fz0_4 := hk0.frozen 4
                  have bx0_5 : w11.cell? ⟨bk_0, 5, none⟩ = some (.int .i64 ck) := (hk0.cell 5).trans rfl
                  have fz0_5 := hk0.frozen 5
                  have bl0 := Nat.lt_of_lt_of_le bl0 hb.size
                  replace r_q := r_q.below (hb.mono (by omega))
                  replace o_q := own_ext o_q hb
                  clear hb
                  go_wp2
                  go_ret
                  exact ⟨some ⟨_, 0, none⟩, 0, by rw [HG.out]; rfl, by rw [HG.out]; exact own_empty (Blk.new _ _ []) k11.size, k11.alloc k11.size _⟩
                · have HA : Hid ((dList ps sz ck (k + 1)).all desB = true) := by rw [Hid, HX2.out, List.all_append, hall.out, HD.out]; simp [desB, e4]
                  clear hlast
                  go_wp2_with fail
                  have hBB : w.heap.size ≤ w9.heap.size := by omega
                  refine wp_region_slotsS (w.heap.size) [(41, fun _ v => v = .slice (some ⟨b3, o3, none⟩) n c), (42, fun _ v => v = .int .i64 (k : Int)), (43, fun _ v => v = .pointer (some ⟨b3, o3 + k * 2, none⟩)), (44, fun _ v => v = .pointer (some ⟨b3, o3 + k * 2 + 1, none⟩)), (45, fun _ v => v = .int .i64 x.ln), (46, fun _ v => v = .slice (some ⟨b3, o3, none⟩) n c), (47, fun _ v => v = .int .i64 (k : Int)), (48, fun _ v => v = .pointer (some ⟨b3, o3 + k * 2, none⟩)), (49, fun _ v => v = .pointer (some ⟨b3, o3 + k * 2, none⟩)), (50, fun _ v => v = .int .i64 x.at_), (51, fun _ v => v = .int .i64 ck), (52, fun _ v => v = .agg #[.int .i64 1, .int .i64 0, .int .i64 x.ln, .int .i64 x.at_, .int .i64 0, .int .i64 ck]), (9, BoxP w9.heap.size 62 6)] [⟨13, 9, fun _ => True, StoP w9.heap.size 62 [.int .i64 1, .int .i64 0, .int .i64 x.ln, .int .i64 x.at_, .int .i64 0, .int .i64 ck]⟩] (fun u => u.ownsRow (w.heap.size) 62 6 (.slice A9 (k + 1) c9) (k + 1) ((dList ps sz ck k).flatMap Desc.cells)) (by kernel_rfl) hBB (by kernel_rfl) (by kernel_rfl) (by kernel_rfl) (by kernel_rfl) ?_ ?_ ?_ ?_ ?_ ?_ ?_
                  · intro p hp
                    simp only [List.mem_cons, List.not_mem_nil, or_false] at hp
                    rcases hp with rfl | rfl | rfl | rfl | rfl | rfl | rfl | rfl | rfl | rfl | rfl | rfl | rfl
                    all_goals (intro u u' v hb hv; first | exact hv | exact BoxP.keep hv hb | exact RowP.keep hv hb)
                  · intro s hs u u' hb
                    simp only [List.mem_cons, List.not_mem_nil, or_false] at hs
                    rcases hs with rfl
                    all_goals (refine ⟨fun h => ?_, fun _ h => ?_⟩ <;> first | exact h | exact StoP.keep h hb | exact StoR.keep h hb | exact Blk.ext h hb | exact StaR.keep h hb)
                  · intro s hs
                    simp only [List.mem_cons, List.not_mem_nil, or_false] at hs
                    rcases hs with rfl
                    all_goals first | trivial
                  · exact o_q
                  · intro u u' hb hj
                    have j0 := hj
                    exact (own_ext j0 hb)
                  · intro hGk hSk hJk
                    refine allStep_cons (stepS_plain hGk hSk hBB hJk (by kernel_rfl) rfl ?_) ?_
                    · intro a u hb hz hj hl hp K Q hK
                      have e0 : a.tmps[0]?.getD undef = .slice (some ⟨b3, o3, none⟩) n c := gd (hl 0 (by kernel_rfl))
                      go_simp
                      exact hK _ _ (Below.refl _ _) (by intro d hd; cases hd; exact rfl)
                    refine allStep_cons (stepS_plain hGk hSk hBB hJk (by kernel_rfl) rfl ?_) ?_
                    · intro a u hb hz hj hl hp K Q hK
                      have e8 : a.tmps[8]?.getD undef = .int .i64 (k : Int) := gd (hl 8 (by kernel_rfl))
                      go_simp
                      exact hK _ _ (Below.refl _ _) (by intro d hd; cases hd; exact rfl)
                    refine allStep_cons (stepS_plain hGk hSk hBB hJk (by kernel_rfl) rfl ?_) ?_
                    · intro a u hb hz hj hl hp K Q hK
                      have e41 : a.tmps[41]?.getD undef = .slice (some ⟨b3, o3, none⟩) n c := gd (hl 41 (by kernel_rfl))
                      have e42 : a.tmps[42]?.getD undef = .int .i64 (k : Int) := gd (hl 42 (by kernel_rfl))
                      go_simp
                      exact hK _ _ (Below.refl _ _) (by intro d hd; cases hd; exact rfl)
                    refine allStep_cons (stepS_plain hGk hSk hBB hJk (by kernel_rfl) rfl ?_) ?_
                    · intro a u hb hz hj hl hp K Q hK
                      have e43 : a.tmps[43]?.getD undef = .pointer (some ⟨b3, o3 + k * 2, none⟩) := gd (hl 43 (by kernel_rfl))
                      go_simp
                      exact hK _ _ (Below.refl _ _) (by intro d hd; cases hd; exact rfl)
                    refine allStep_cons (stepS_plain hGk hSk hBB hJk (by kernel_rfl) rfl ?_) ?_
                    · intro a u hb hz hj hl hp K Q hK
                      have e44 : a.tmps[44]?.getD undef = .pointer (some ⟨b3, o3 + k * 2 + 1, none⟩) := gd (hl 44 (by kernel_rfl))
                      have c1 := (hb.cell (p := ⟨b3, o3 + k * 2 + 1, none⟩) hb3).trans c1
                      go_simp
                      exact hK _ _ (Below.refl _ _) (by intro d hd; cases hd; exact rfl)
                    refine allStep_cons (stepS_plain hGk hSk hBB hJk (by kernel_rfl) rfl ?_) ?_
                    · intro a u hb hz hj hl hp K Q hK
                      have e0 : a.tmps[0]?.getD undef = .slice (some ⟨b3, o3, none⟩) n c := gd (hl 0 (by kernel_rfl))
                      go_simp
                      exact hK _ _ (Below.refl _ _) (by intro d hd; cases hd; exact rfl)
                    refine allStep_cons (stepS_plain hGk hSk hBB hJk (by kernel_rfl) rfl ?_) ?_
                    · intro a u hb hz hj hl hp K Q hK
                      have e8 : a.tmps[8]?.getD undef = .int .i64 (k : Int) := gd (hl 8 (by kernel_rfl))
                      go_simp
                      exact hK _ _ (Below.refl _ _) (by intro d hd; cases hd; exact rfl)
                    refine allStep_cons (stepS_plain hGk hSk hBB hJk (by kernel_rfl) rfl ?_) ?_
                    · intro a u hb hz hj hl hp K Q hK
                      have e46 : a.tmps[46]?.getD undef = .slice (some ⟨b3, o3, none⟩) n c := gd (hl 46 (by kernel_rfl))
                      have e47 : a.tmps[47]?.getD undef = .int .i64 (k : Int) := gd (hl 47 (by kernel_rfl))
                      go_simp
                      exact hK _ _ (Below.refl _ _) (by intro d hd; cases hd; exact rfl)
                    refine allStep_cons (stepS_plain hGk hSk hBB hJk (by kernel_rfl) rfl ?_) ?_
                    · intro a u hb hz hj hl hp K Q hK
                      have e48 : a.tmps[48]?.getD undef = .pointer (some ⟨b3, o3 + k * 2, none⟩) := gd (hl 48 (by kernel_rfl))
                      go_simp
                      exact hK _ _ (Below.refl _ _) (by intro d hd; cases hd; exact rfl)
                    refine allStep_cons (stepS_plain hGk hSk hBB hJk (by kernel_rfl) rfl ?_) ?_
                    · intro a u hb hz hj hl hp K Q hK
                      have e49 : a.tmps[49]?.getD undef = .pointer (some ⟨b3, o3 + k * 2, none⟩) := gd (hl 49 (by kernel_rfl))
                      have c0 := (hb.cell (p := ⟨b3, o3 + k * 2, none⟩) hb3).trans c0
                      go_simp
                      exact hK _ _ (Below.refl _ _) (by intro d hd; cases hd; exact rfl)
                    refine allStep_cons (stepS_plain hGk hSk hBB hJk (by kernel_rfl) rfl ?_) ?_
                    · intro a u hb hz hj hl hp K Q hK
                      have e2 : a.tmps[2]?.getD undef = .int .i64 ck := gd (hl 2 (by kernel_rfl))
                      go_simp
                      exact hK _ _ (Below.refl _ _) (by intro d hd; cases hd; exact rfl)
                    refine allStep_cons (stepS_plain hGk hSk hBB hJk (by kernel_rfl) rfl ?_) ?_
                    · intro a u hb hz hj hl hp K Q hK
                      have e45 : a.tmps[45]?.getD undef = .int .i64 x.ln := gd (hl 45 (by kernel_rfl))
                      have e50 : a.tmps[50]?.getD undef = .int .i64 x.at_ := gd (hl 50 (by kernel_rfl))
                      have e51 : a.tmps[51]?.getD undef = .int .i64 ck := gd (hl 51 (by kernel_rfl))
                      go_simp
                      exact hK _ _ (Below.refl _ _) (by intro d hd; cases hd; exact rfl)
                    refine allStep_cons (stepS_plain hGk hSk hBB hJk (by kernel_rfl) rfl ?_) ?_
                    · intro a u hb hz hj hl hp K Q hK
                      go_simp
                      exact hK _ _ (by go_grown) (by intro d hd; cases hd; exact BoxP.new _ _ [.int .i64 0, .int .i64 0, .int .i64 0, .int .i64 0, .int .i64 0, .int .i64 0] (by omega) rfl)
                    refine allStep_cons (stepS_store (Chg w9.heap.size 62) (fun _ _ hc hb => hc.below' (by omega) hb) (fun _ _ hc => hc.size) (hold_rel ?_) ?_ ?_ rfl rfl ?_) ?_
                    · intro p hp
                      simp only [List.mem_cons, List.not_mem_nil, or_false] at hp
                      rcases hp with rfl | rfl | rfl | rfl | rfl | rfl | rfl | rfl | rfl | rfl | rfl | rfl | rfl
                      all_goals (intro u u' v hb hv; first | exact hv | exact BoxP.chg hv hb | exact RowP.chg hv hb (by decide))
                    · intro s hs hne u u' hb
                      simp only [List.mem_cons, List.not_mem_nil, or_false] at hs
                      rcases hs with rfl
                      all_goals first | exact absurd (by rfl) hne | (refine ⟨fun h => ?_, fun _ h => ?_⟩ <;> first | exact h | exact StoP.chg h hb (by decide) | exact StoR.chg h hb (by decide) (by decide) | exact Blk.chgL h hb (by omega) | exact StaR.chgL h hb (by omega) (by decide))
                    · intro u u' hb hj
                      have j0 := hj
                      exact (own_chgL j0 hb (fun k hk => (o_q.lt k hk).2))
                    · intro a u hb hz hj hl hp K Q hK
                      obtain ⟨b, exb, hB, zs, hzl, hbk⟩ : BoxP w9.heap.size 62 6 u (a.tmps.getD 9 undef) := hl 9 (by kernel_rfl)
                      have e9 := gd exb
                      have e52 : a.tmps[52]?.getD undef = .agg #[.int .i64 1, .int .i64 0, .int .i64 x.ln, .int .i64 x.at_, .int .i64 0, .int .i64 ck] := gd (hl 52 (by kernel_rfl))
                      obtain ⟨z0, z1, z2, z3, z4, z5, rfl⟩ : ∃ z0 z1 z2 z3 z4 z5, zs = [z0, z1, z2, z3, z4, z5] := (by match zs, hzl with | [z0, z1, z2, z3, z4, z5], _ => exact ⟨_, _, _, _, _, _, rfl⟩)
                      have hlt := hbk.lt
                      have g0 : u.cell? ⟨b, 0, none⟩ = some z0 := (hbk.cell 0).trans rfl
                      have f0 := hbk.frozen 0
                      have g1 : u.cell? ⟨b, 1, none⟩ = some z1 := (hbk.cell 1).trans rfl
                      have f1 := hbk.frozen 1
                      have g2 : u.cell? ⟨b, 2, none⟩ = some z2 := (hbk.cell 2).trans rfl
                      have f2 := hbk.frozen 2
                      have g3 : u.cell? ⟨b, 3, none⟩ = some z3 := (hbk.cell 3).trans rfl
                      have f3 := hbk.frozen 3
                      have g4 : u.cell? ⟨b, 4, none⟩ = some z4 := (hbk.cell 4).trans rfl
                      have f4 := hbk.frozen 4
                      have g5 : u.cell? ⟨b, 5, none⟩ = some z5 := (hbk.cell 5).trans rfl
                      have f5 := hbk.frozen 5
                      go_simp
                      refine hK undef _ (((((((Chg.refl _ _ _).set hbk hB 0 _).set (hbk.set_ 0 _) hB 1 _).set ((hbk.set_ 0 _).set_ 1 _) hB 2 _).set (((hbk.set_ 0 _).set_ 1 _).set_ 2 _) hB 3 _).set ((((hbk.set_ 0 _).set_ 1 _).set_ 2 _).set_ 3 _) hB 4 _).set (((((hbk.set_ 0 _).set_ 1 _).set_ 2 _).set_ 3 _).set_ 4 _) hB 5 _) (fun s hs he => ?_)
                      simp only [List.mem_cons, List.not_mem_nil, or_false] at hs
                      rcases hs with rfl
                      · exact ⟨b, exb, hB, ((((((hbk.set_ 0 _).set_ 1 _).set_ 2 _).set_ 3 _).set_ 4 _).set_ 5 _)⟩
                    exact allStep_nil
                  intro xT w10 hb hz hj hL hSt
                  clear r_q o_q
                  have o_q : (fun u => u.ownsRow (w.heap.size) 62 6 (.slice A9 (k + 1) c9) (k + 1) ((dList ps sz ck k).flatMap Desc.cells)) w10 := hj
                  dsimp only at o_q
                  obtain ⟨bk_0, fx9, lo0, hk0⟩ : StoP w9.heap.size 62 [.int .i64 1, .int .i64 0, .int .i64 x.ln, .int .i64 x.at_, .int .i64 0, .int .i64 ck] w10 (xT 9) := hSt _ (List.mem_of_getElem? (i := 0) rfl)
                  simp only [List.map, putAll, fx9]
                  have bl0 := hk0.lt
                  have k10 : Below w.heap.size w w10 := k9.trans hb
                  have p10 : w9.heap.size ≤ w10.heap.size := hb.size
                  have r_q := Reads.of_own o_q
                  have bx0_0 : w10.cell? ⟨bk_0, 0, none⟩ = some (.int .i64 1) := (hk0.cell 0).trans rfl
                  have fz0_0 := hk0.frozen 0
                  have bx0_1 : w10.cell? ⟨bk_0, 1, none⟩ = some (.int .i64 0) := (hk0.cell 1).trans rfl
                  have fz0_1 := hk0.frozen 1
                  have bx0_2 : w10.cell? ⟨bk_0, 2, none⟩ = some (.int .i64 x.ln) := (hk0.cell 2).trans rfl
                  have fz0_2 := hk0.frozen 2
                  have bx0_3 : w10.cell? ⟨bk_0, 3, none⟩ = some (.int .i64 x.at_) := (hk0.cell 3).trans rfl
                  have fz0_3 := hk0.frozen 3
                  have bx0_4 : w10.cell? ⟨bk_0, 4, none⟩ = some (.int .i64 0) := (hk0.cell 4).trans rfl
                  have fz0_4 := hk0.frozen 4
                  have bx0_5 : w10.cell? ⟨bk_0, 5, none⟩ = some (.int .i64 ck) := (hk0.cell 5).trans rfl
                  have fz0_5 := hk0.frozen 5
                  clear hL hSt hb hz fx9
                  go_wp2_with fail
                  refine (calls_bool (specDescOk_c _ _ _ _ _ _ _) e4).mono ?_
                  rintro e w11 ⟨rfl, hb⟩
                  have k11 : Below w.heap.size w w11 := ext_step k10 (by omega) hb
                  have p11 := hb.size
                  replace hk0 := hk0.ext hb
                  clear bx0_0 fz0_0 bx0_1 fz0_1 bx0_2 fz0_2 bx0_3 fz0_3 bx0_4 fz0_4 bx0_5 fz0_5
                  have bx0_0 : w11.cell? ⟨bk_0, 0, none⟩ = some (.int .i64 1) := (hk0.cell 0).trans rfl
                  have fz0_0 := hk0.frozen 0
                  have bx0_1 : w11.cell? ⟨bk_0, 1, none⟩ = some (.int .i64 0) := (hk0.cell 1).trans rfl
                  have fz0_1 := hk0.frozen 1
                  have bx0_2 : w11.cell? ⟨bk_0, 2, none⟩ = some (.int .i64 x.ln) := (hk0.cell 2).trans rfl
                  have fz0_2 := hk0.frozen 2
                  have bx0_3 : w11.cell? ⟨bk_0, 3, none⟩ = some (.int .i64 x.at_) := (hk0.cell 3).trans rfl
                  have fz0_3 := hk0.frozen 3
                  have bx0_4 : w11.cell? ⟨bk_0, 4, none⟩ = some (.int .i64 0) := (hk0.cell 4).trans rfl
                  have fz0_4 := hk0.frozen 4
                  have bx0_5 : w11.cell? ⟨bk_0, 5, none⟩ = some (.int .i64 ck) := (hk0.cell 5).trans rfl
                  have fz0_5 := hk0.frozen 5
                  have bl0 := Nat.lt_of_lt_of_le bl0 hb.size
                  replace r_q := r_q.below (hb.mono (by omega))
                  replace o_q := own_ext o_q hb
                  clear hb
                  go_wp2_with (at_builtin; refine wpList_append_own _ rfl _ _ 67 rfl w.heap.size 62 i0 (.agg #[.int .i64 0, .int .i64 0, .int .i64 0, .int .i64 0, .int .i64 0, .int .i64 0]) 6 48 Try.underlying67 hi hz0 hz1 hz2 rfl (by decide) _ _ _ rfl (o_q.alloc _) ⟨w11.heap.size, 0, none⟩ 1 1 [.int .i64 1, .int .i64 0, .int .i64 x.ln, .int .i64 x.at_, .int .i64 0, .int .i64 ck] rfl rfl (cells_new _ _ _) ?c2 ?c3 ?c4 ?c5 ?_; (case c2 => (intro u hu; simp only [List.mem_cons, List.not_mem_nil, or_false] at hu; rcases hu with rfl | rfl | rfl | rfl | rfl | rfl <;> rfl)); (case c3 => (unfold maxLen; omega)); (case c4 => omega); (case c5 => (simp only [World.size_alloc]; omega)); intro v1 w1 hown1 hg1 hn1; have hb1 : Below w.heap.size w w1 := below_app (by go_grown) (o_q.alloc _) hg1 (by simp only [World.size_alloc]; omega); clear hn1 hg1)
                  go_roundw
                  case rel => exact ⟨k + 1, v1, by omega, by go_num, rfl, by rw [HX2.out, HD.out, List.flatMap_append]; exact hown1, hb1, HA⟩
                  case measure => simp [intOf]; omega
            · have hkn : n = k := by omega
              subst hkn
              have hl9 : (dList ps sz ck n).length = n + 1 := dList_len (by have := HN.out; omega)
              have hg : dpB ps sz ck = true := by
                rw [dpB, HN.out, hall.out, HO.out, H2.out]; simp; omega
              have h6 := dp_yes hg
              rw [HN.out] at h6
              have h7 := congrArg List.length h6
              rw [hl9] at h7
              have HG6 := Lib.hid h6
              have HG7 := Lib.hid h7
              clear h6 h7 hg hl9
              go_wp2
              go_ret
              exact ⟨A9, c9, by rw [HG7.out]; rfl, by rw [HG7.out, HG6.out]; exact o_q, hbw⟩
end Go.Proofs.Yteajedcoidljhaa
