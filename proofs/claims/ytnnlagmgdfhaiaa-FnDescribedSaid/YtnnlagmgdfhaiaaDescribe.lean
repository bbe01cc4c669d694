/- Contracts of DescribePacket: impl and spec. -/
import Derived.Test.YtnnlagmgdfhaiaaConvDesc
import Derived.Test.YtnnlagmgdfhaiaaPiecesOk
import Derived.Test.YtnnlagmgdfhaiaaSlots4
namespace Go.Proofs.Ytnnlagmgdfhaiaa
set_option linter.unusedSimpArgs false
set_option linter.unusedVariables false
open Go.RowKit Go.ChangeShapes Go.WideShapes
def dHead (sz ck : Int) : Desc := ⟨2, 0, 0, 0, sz, ck⟩
def dItem (n : Nat) (ck : Int) (k : Nat) (x : Piece) : Desc := ⟨1, if k + 1 = n then 1 else 0, x.ln, x.at_, 0, ck⟩
/-- The descriptors of the first k pieces, behind the head. -/
def dList (ps : List Piece) (sz ck : Int) (k : Nat) : List Desc := dHead sz ck :: (ps.take k).zipIdx.map fun p => dItem ps.length ck p.2 p.1
def desB (x : Desc) : Bool := descB x.op x.fl x.ln x.at_ x.sz x.ck
def dpB (ps : List Piece) (sz ck : Int) : Bool := !(ps.length == 0) && (piecesB ps && (inB sz 1 128 && (dList ps sz ck ps.length).all desB))
def dpL (ps : List Piece) (sz ck : Int) : List Desc := if dpB ps sz ck then dList ps sz ck ps.length else []
theorem dp_no {ps : List Piece} {sz ck : Int} (h : dpB ps sz ck = false) : dpL ps sz ck = [] := by rw [dpL, h]; rfl
theorem dp_yes {ps : List Piece} {sz ck : Int} (h : dpB ps sz ck = true) : dpL ps sz ck = dList ps sz ck ps.length := by rw [dpL, h]; rfl
theorem dList_next {ps : List Piece} {sz ck : Int} {k : Nat} {x : Piece} (hx : ps[k]? = some x) : dList ps sz ck (k + 1) = dList ps sz ck k ++ [dItem ps.length ck k x] := by
  have hk : k < ps.length := (List.getElem?_eq_some_iff.1 hx).1
  rw [dList, dList, take_next hx, List.zipIdx_append, List.map_append, List.length_take, Nat.min_eq_left (by omega)]
  simp
theorem dList_len {ps : List Piece} {sz ck : Int} {k : Nat} (hk : k ≤ ps.length) : (dList ps sz ck k).length = k + 1 := by
  rw [dList, List.length_cons, List.length_map, List.length_zipIdx, List.length_take, Nat.min_eq_left hk]
theorem dList_get {ps : List Piece} {sz ck : Int} {k : Nat} {x : Piece} (hx : ps[k]? = some x) : (dList ps sz ck ps.length)[k + 1]? = some (dItem ps.length ck k x) := by
  rw [dList, List.take_length, List.getElem?_cons_succ, List.getElem?_map, List.getElem?_zipIdx, hx]; simp
theorem cells_at2 {W : World} {k : Nat} (h : W.heap.size = k) (news : List Value) (e : TypeId) : ∀ (j : Nat) (u : Value), news[j]? = some u → (W.alloc (.cells news.toArray e)).cell? ((⟨k, 0, none⟩ : Addr).add j) = some u := by
  subst h; exact cells_new W news e
set_option maxRecDepth 100000 in
set_option maxHeartbeats 4000000 in
theorem implDescribePacket_c (A : Option Addr) (n c : Nat) (ps : List Piece) (w : World) (hn : ps.length = n) (hm : n ≤ 1048576) (hr : Reads w w.heap.size 2 A n (ps.flatMap Piece.cells)) (hi3 : ∀ x ∈ ps, x.ok) (sz ck : Int) :
    Calls Try.prog 59 #[.slice A n c, .int .i64 sz, .int .i64 ck] w fun e w' => ∃ A2 c2, e = .returned (.slice A2 (dpL ps sz ck).length c2) ∧ w'.ownsRow w.heap.size 84 6 (.slice A2 (dpL ps sz ck).length c2) (dpL ps sz ck).length ((dpL ps sz ck).flatMap Desc.cells) ∧ Below w.heap.size w w' := by
  obtain ⟨i0, hi, hz0, hz1, hz2⟩ := info_parts info_Desc
  have HN := Lib.hid hn
  have HI3 := Lib.hid hi3
  clear hi3
  have OKC := fun (w0 : World) (hb : Below w.heap.size w w0) => implPiecesOk_c A n c ps w0 hn (by omega) ((hr.below hb).more hb.size)
  by_cases h0 : n = 0
  · have hg : dpB ps sz ck = false := by rw [dpB, hn, h0]; rfl
    rw [dp_no hg]
    have h1 : ((n : Int) == 0) = true := by simp [h0]
    clear h0 hg
    go_enter Try.func59, Try.ntmps59
    go_wp2
    go_ret
    exact ⟨none, 0, rfl, own_nil _ _ _ _, Below.refl _ _⟩
  · have h1 : ((n : Int) == 0) = false := by simp; omega
    cases e1 : piecesB ps
    · have hg : dpB ps sz ck = false := by rw [dpB, e1]; simp
      rw [dp_no hg]
      clear hg
      go_enter Try.func59, Try.ntmps59
      go_wp2_with (go_at_call 104; refine (calls_bool (OKC _ (Below.refl _ _)) e1).mono ?_; rintro e w1 ⟨rfl, k1⟩)
      go_ret
      exact ⟨none, 0, rfl, own_nil _ _ _ _, k1⟩
    · cases e2 : inB sz 1 128
      · have hg : dpB ps sz ck = false := by rw [dpB, e2]; simp
        rw [dp_no hg]
        clear hg
        go_enter Try.func59, Try.ntmps59
        go_wp2_with (first | (go_at_call 104; refine (calls_bool (OKC _ (Below.refl _ _)) e1).mono ?_; rintro e w1 ⟨rfl, k1⟩) | (go_at_call 78; refine (calls_bool (between_c _ _ _ _) e2).mono ?_; rintro e w2 ⟨rfl, rfl⟩))
        go_ret
        exact ⟨none, 0, rfl, own_nil _ _ _ _, k1⟩
      · have HO := Lib.hid e1
        have HL := piecesB_len e1
        rw [hn] at HL
        have H2 := Lib.hid e2
        go_enter Try.func59, Try.ntmps59
        go_wp2_with (first | (go_at_call 104; refine (calls_bool (OKC _ (Below.refl _ _)) e1).mono ?_; rintro e w1 ⟨rfl, k1⟩) | (go_at_call 78; refine (calls_bool (between_c _ _ _ _) e2).mono ?_; rintro e w2 ⟨rfl, rfl⟩))
        clear e1 e2 OKC hn
        have zk1 := k1.size
        go_loopw [7, 32] (fun ov i wr => ∃ (k : Nat) (u : Value), k ≤ n ∧ i = .int .i64 (k : Int) ∧ ov = u ∧ wr.ownsRow w.heap.size 84 6 u (k + 1) ((dList ps sz ck k).flatMap Desc.cells) ∧ Below w.heap.size w wr) (fun _ i _ => n - (intOf i).toNat)
        case atStart => exact ⟨0, _, Nat.zero_le _, rfl, rfl, (Blk.new w1 84 ([.int .i64 2, .int .i64 0, .int .i64 0, .int .i64 0, .int .i64 sz, .int .i64 ck])).own zk1 rfl (by unfold maxLen; omega) rfl, by go_grown⟩
        case round =>
          obtain ⟨k, u, hk, rfl, hu, hown, hbw⟩ := hrel
          have hu := hu.symm
          subst hu
          have hsz := hbw.size
          by_cases hlt : k < n
          · obtain ⟨b, o, x, rfl, hb, hxx, hcx⟩ := hr.el (fun _ => rfl) (by decide) HN.out hlt
            have c0 := (hbw.cell (p := ⟨b, o + k * 2, none⟩) hb).trans (by simpa using hcx 0 _ rfl)
            have c1 := (hbw.cell (p := ⟨b, o + k * 2 + 1, none⟩) hb).trans (by simpa using hcx 1 _ rfl)
            have HXx := Lib.hid hxx
            clear hxx hcx
            obtain ⟨p1, p2, p3⟩ := piecesB_el HO.out HXx.out
            have HX2 := Lib.hid (dList_next (sz := sz) (ck := ck) HXx.out)
            by_cases hlast : k + 1 = n
            · have q1 : ((k : Int) == (n : Int) - 1) = true := by simp; omega
              have hd : dItem ps.length ck k x = ⟨1, 1, x.ln, x.at_, 0, ck⟩ := by rw [dItem, HN.out, if_pos hlast]
              have HD := Lib.hid hd
              clear hd
              go_wp2_with (at_builtin; refine wpList_append_own _ rfl _ _ 80 rfl w.heap.size 84 i0 (.agg #[.int .i64 0, .int .i64 0, .int .i64 0, .int .i64 0, .int .i64 0, .int .i64 0]) 6 48 Try.underlying80 hi hz0 hz1 hz2 rfl (by decide) _ _ _ rfl (((hown.alloc _).alloc _).alloc _) ⟨wr.heap.size + 1 + 1, 0, none⟩ 1 1 [.int .i64 1, .int .i64 1, .int .i64 x.ln, .int .i64 x.at_, .int .i64 0, .int .i64 ck] rfl rfl (cells_at2 (by simp) _ _) ?c2 ?c3 ?c4 ?c5 ?_; (case c2 => (intro u hu; simp only [List.mem_cons, List.not_mem_nil, or_false] at hu; rcases hu with rfl | rfl | rfl | rfl | rfl | rfl <;> rfl)); (case c3 => (unfold maxLen; omega)); (case c4 => omega); (case c5 => (simp only [World.size_alloc]; omega)); intro v1 w1 hown1 hg1 hn1; have hb1 : Below w.heap.size w w1 := below_app (by go_grown) (((hown.alloc _).alloc _).alloc _) hg1 (by simp only [World.size_alloc]; omega); clear hn1 hg1)
              go_roundw
              case rel => exact ⟨k + 1, v1, by omega, by go_num, rfl, by rw [HX2.out, HD.out, List.flatMap_append]; exact hown1, hb1⟩
              case measure => simp [intOf]; omega
            · have q1 : ((k : Int) == (n : Int) - 1) = false := by simp; omega
              have hd : dItem ps.length ck k x = ⟨1, 0, x.ln, x.at_, 0, ck⟩ := by rw [dItem, HN.out, if_neg hlast]
              have HD := Lib.hid hd
              clear hd
              go_wp2_with (at_builtin; refine wpList_append_own _ rfl _ _ 80 rfl w.heap.size 84 i0 (.agg #[.int .i64 0, .int .i64 0, .int .i64 0, .int .i64 0, .int .i64 0, .int .i64 0]) 6 48 Try.underlying80 hi hz0 hz1 hz2 rfl (by decide) _ _ _ rfl (((hown.alloc _).alloc _).alloc _) ⟨wr.heap.size + 1 + 1, 0, none⟩ 1 1 [.int .i64 1, .int .i64 0, .int .i64 x.ln, .int .i64 x.at_, .int .i64 0, .int .i64 ck] rfl rfl (cells_at2 (by simp) _ _) ?c2 ?c3 ?c4 ?c5 ?_; (case c2 => (intro u hu; simp only [List.mem_cons, List.not_mem_nil, or_false] at hu; rcases hu with rfl | rfl | rfl | rfl | rfl | rfl <;> rfl)); (case c3 => (unfold maxLen; omega)); (case c4 => omega); (case c5 => (simp only [World.size_alloc]; omega)); intro v1 w1 hown1 hg1 hn1; have hb1 : Below w.heap.size w w1 := below_app (by go_grown) (((hown.alloc _).alloc _).alloc _) hg1 (by simp only [World.size_alloc]; omega); clear hn1 hg1)
              go_roundw
              case rel => exact ⟨k + 1, v1, by omega, by go_num, rfl, by rw [HX2.out, HD.out, List.flatMap_append]; exact hown1, hb1⟩
              case measure => simp [intOf]; omega
          · have hkn : n = k := by omega
            subst hkn
            obtain ⟨A9, c9, rfl, hr9, hnc9, hcm9⟩ := own_form hown
            have hl9 : (dList ps sz ck n).length = n + 1 := dList_len (by have := HN.out; omega)
            have HL9 := Lib.hid hl9
            clear hl9
            obtain ⟨w9, hw9⟩ : ∃ w9 : World, w9 = wr := ⟨_, rfl⟩
            subst hw9
            go_wp2
            go_loopw [56] (fun i wr => ∃ k : Nat, k ≤ n + 1 ∧ i = .int .i64 (k : Int) ∧ Below w9.heap.size w9 wr ∧ Hid (((dList ps sz ck n).take k).all desB = true)) (fun i _ => (n + 1) - (intOf i).toNat)
            case atStart => exact ⟨0, Nat.zero_le _, rfl, Below.refl _ _, rfl⟩
            case round =>
              obtain ⟨k, hk2, rfl, hbx, hall⟩ := hrel
              have hsx := hbx.size
              by_cases hlt2 : k < n + 1
              · obtain ⟨b9, o9, y, rfl, hb9, hxy, hcy⟩ := hr9.el (fun _ => rfl) (by decide) HL9.out hlt2
                have d0 := (hbx.cell (p := ⟨b9, o9 + k * 6, none⟩) hb9).trans (by simpa using hcy 0 _ rfl)
                have d1 := (hbx.cell (p := ⟨b9, o9 + k * 6 + 1, none⟩) hb9).trans (by simpa using hcy 1 _ rfl)
                have d2 := (hbx.cell (p := ⟨b9, o9 + k * 6 + 2, none⟩) hb9).trans (by simpa using hcy 2 _ rfl)
                have d3 := (hbx.cell (p := ⟨b9, o9 + k * 6 + 3, none⟩) hb9).trans (by simpa using hcy 3 _ rfl)
                have d4 := (hbx.cell (p := ⟨b9, o9 + k * 6 + 4, none⟩) hb9).trans (by simpa using hcy 4 _ rfl)
                have d5 := (hbx.cell (p := ⟨b9, o9 + k * 6 + 5, none⟩) hb9).trans (by simpa using hcy 5 _ rfl)
                have HXy := Lib.hid hxy
                clear hxy hcy
                cases e3 : desB y
                · have hg : dpB ps sz ck = false := by rw [dpB, HN.out, all_at HXy.out e3]; simp
                  have HG := Lib.hid (dp_no hg)
                  clear hg
                  go_wp2_with (go_at_call 62; refine (calls_bool (implDescOk_c _ _ _ _ _ _ _) e3).mono ?_; rintro e w3 ⟨rfl, hb3⟩)
                  go_ret
                  exact ⟨none, 0, by rw [HG.out]; rfl, by rw [HG.out]; exact own_nil _ _ _ _, hbw.trans ((ext_step (hbx.alloc hsx _) (by go_size) hb3).mono hsz)⟩
                · have HA := Lib.hid (all_take hall.out HXy.out e3)
                  go_wp2_with (go_at_call 62; refine (calls_bool (implDescOk_c _ _ _ _ _ _ _) e3).mono ?_; rintro e w3 ⟨rfl, hb3⟩)
                  go_roundw
                  case rel => exact ⟨k + 1, by omega, by go_num, ext_step (hbx.alloc hsx _) (by go_size) hb3, HA⟩
                  case measure => simp [intOf]; omega
              · have htk := take_all HL9.out hlt2
                have hg : dpB ps sz ck = true := by
                  have h5 := hall.out
                  rw [htk] at h5
                  rw [dpB, HN.out, h5, HO.out, H2.out]; simp; omega
                have HG := Lib.hid (dp_yes hg)
                have h6 := HG.out
                rw [HN.out] at h6
                have h7 := congrArg List.length h6
                rw [HL9.out] at h7
                have HG6 := Lib.hid h6
                have HG7 := Lib.hid h7
                have hown2 := own_ext hown hbx
                clear h6 h7 hg htk
                go_wp2
                go_ret
                exact ⟨A9, c9, by rw [HG7.out]; rfl, by rw [HG7.out, HG6.out]; exact hown2, hbw.trans (hbx.mono hsz)⟩
end Go.Proofs.Ytnnlagmgdfhaiaa
