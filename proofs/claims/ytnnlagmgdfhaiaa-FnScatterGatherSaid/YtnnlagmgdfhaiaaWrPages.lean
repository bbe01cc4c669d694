/- Contracts of WritablePages: impl and spec. -/
import Derived.Test.YtnnlagmgdfhaiaaMapPage
namespace Go.Proofs.Ytnnlagmgdfhaiaa
set_option linter.unusedSimpArgs false
set_option linter.unusedVariables false
open Go.RowKit Go.ChangeShapes Go.WideShapes
def wrHit (d : Int) (p : Int) (x : Mapping) : Bool := decide (x.dom = d) && (decide (x.phy = p) && x.wr)
def wrK (l : List Mapping) (d : Int) (k : Nat) : List Int := ((List.range k).filter fun p : Nat => l.any (wrHit d p)).map fun p : Nat => (p : Int)
def wrL (l : List Mapping) (d : Int) : List Int := if mapsB l then wrK l d 64 else []
theorem wrK_yes {l : List Mapping} {d : Int} {k : Nat} (h : l.any (wrHit d k) = true) : wrK l d (k + 1) = wrK l d k ++ [(k : Int)] := by
  simp [wrK, List.range_succ, List.filter_append, h]
theorem wrK_no {l : List Mapping} {d : Int} {k : Nat} (h : l.any (wrHit d k) = false) : wrK l d (k + 1) = wrK l d k := by
  simp [wrK, List.range_succ, List.filter_append, h]
theorem wrK_len (l : List Mapping) (d : Int) (k : Nat) : (wrK l d k).length ≤ k := by
  have := List.length_filter_le (fun p : Nat => l.any (wrHit d p)) (List.range k)
  simpa [wrK] using this
theorem any_next {l : List Mapping} {p : Mapping → Bool} {k : Nat} {x : Mapping} (hx : l[k]? = some x) : (l.take (k + 1)).any p = ((l.take k).any p || p x) := by
  rw [take_next hx, List.any_append]; simp
theorem info_int8 : (Try.prog.info? 3).map (fun i => (i.zero, i.size, i.bytes)) = some (some (.int .i64 0), 1, 8) := by kernel_rfl
set_option maxRecDepth 100000 in
set_option maxHeartbeats 4000000 in
theorem implWritablePages_c (A : Option Addr) (n c : Nat) (l : List Mapping) (w : World) (hn : l.length = n) (hm : n ≤ 1048576) (hr : Reads w w.heap.size 4 A n (l.flatMap Mapping.cells)) (d : Int) :
    Calls Try.prog 34 #[.slice A n c, .int .i64 d] w fun e w' => ∃ A' c', e = .returned (.slice A' (wrL l d).length c') ∧ w'.ownsRow w.heap.size 3 1 (.slice A' (wrL l d).length c') (wrL l d).length ((wrL l d).flatMap (fun x : Int => [Value.int .i64 x])) ∧ Below w.heap.size w w' := by
  obtain ⟨i0, hi, hz0, hz1, hz2⟩ := info_parts info_int8
  cases e1 : mapsB l
  · have hL : wrL l d = [] := by rw [wrL, e1]; rfl
    rw [hL]
    go_enter Try.func34, Try.ntmps34
    go_wp2_with (go_at_call 38; refine (calls_bool (implMappingsOk_c _ _ _ l _ hn (by omega) hr) e1).mono ?_; rintro e w0 ⟨rfl, k1⟩)
    go_ret
    exact ⟨none, 0, rfl, own_nil _ _ _ _, k1⟩
  · have hL : wrL l d = wrK l d 64 := by rw [wrL, e1]; rfl
    have HL := Lib.hid hL
    have HN := Lib.hid hn
    clear hL
    go_enter Try.func34, Try.ntmps34
    go_wp2_with (go_at_call 38; refine (calls_bool (implMappingsOk_c _ _ _ l _ hn (by omega) hr) e1).mono ?_; rintro e w0 ⟨rfl, k1⟩)
    clear e1 hn
    go_loopw [5, 6] (fun ov pv wr => ∃ (p j : Nat) (u : Value), p ≤ 64 ∧ j ≤ p ∧ pv = .int .i64 (p : Int) ∧ ov = u ∧ Hid ((wrK l d p).length = j) ∧ wr.ownsRow w.heap.size 3 1 u j ((wrK l d p).flatMap (fun x : Int => [Value.int .i64 x])) ∧ Below w.heap.size w wr) (fun _ pv _ => 64 - (intOf pv).toNat)
    case atStart => exact ⟨0, 0, _, by omega, by omega, rfl, rfl, by simp [Hid, wrK], own_empty (Blk.new _ _ []) k1.size, k1.alloc k1.size _⟩
    case round =>
      obtain ⟨p, j, u, hp, hjp, rfl, hu, hxl, hown, hbw⟩ := hrel
      have hu := hu.symm
      subst hu
      have hsz := hbw.size
      by_cases hlp : p < 64
      · go_wp2
        go_loopw [7, 20] (fun s i wi => ∃ (k : Nat), k ≤ n ∧ i = .int .i64 (k : Int) ∧ s = .bool ((l.take k).any (wrHit d p)) ∧ wi.ownsRow w.heap.size 3 1 u j ((wrK l d p).flatMap (fun x : Int => [Value.int .i64 x])) ∧ Below w.heap.size w wi) (fun s i _ => n - (intOf i).toNat)
        case atStart => exact ⟨0, Nat.zero_le _, rfl, rfl, hown, hbw⟩
        case round =>
          obtain ⟨k, hk, rfl, rfl, hown, hbi⟩ := hrel
          have hzi := hbi.size
          by_cases hlt : k < n
          · obtain ⟨b, o, x, rfl, hb, hxx, hcx⟩ := hr.el (fun _ => rfl) (by decide) HN.out hlt
            have c0 := (hbi.cell (p := ⟨b, o + k * 4, none⟩) hb).trans (by simpa using hcx 0 _ rfl)
            have c1 := (hbi.cell (p := ⟨b, o + k * 4 + 1, none⟩) hb).trans (by simpa using hcx 1 _ rfl)
            have c2 := (hbi.cell (p := ⟨b, o + k * 4 + 2, none⟩) hb).trans (by simpa using hcx 2 _ rfl)
            have c3 := (hbi.cell (p := ⟨b, o + k * 4 + 3, none⟩) hb).trans (by simpa using hcx 3 _ rfl)
            have HXx := Lib.hid hxx
            clear hxx hcx
            have HA := Lib.hid (any_next (p := wrHit d p) HXx.out)
            cases hs : (l.take k).any (wrHit d p)
            · have hax : wrHit d p x = (decide (x.dom = d) && (decide (x.phy = (p : Int)) && x.wr)) := rfl
              by_cases e1 : x.dom = d
              · have b1 : (x.dom == d) = true := by simpa using e1
                by_cases e2 : x.phy = (p : Int)
                · have b2 : (x.phy == (p : Int)) = true := by simpa using e2
                  have HB := Lib.hid (show (l.take (k + 1)).any (wrHit d p) = x.wr by rw [HA.out, hs, hax, e1, e2]; simp)
                  clear e1 e2 hax hs
                  go_wp2
                  go_roundw
                  case rel => exact ⟨k + 1, by omega, by go_num, by rw [HB.out], hown.alloc _, by go_grown⟩
                  case measure => simp [intOf]; omega
                · have b2 : (x.phy == (p : Int)) = false := by simpa using e2
                  have HB := Lib.hid (show (l.take (k + 1)).any (wrHit d p) = false by rw [HA.out, hs, hax]; simp [e2])
                  clear e1 e2 hax hs
                  go_wp2
                  go_roundw
                  case rel => exact ⟨k + 1, by omega, by go_num, by rw [HB.out], hown.alloc _, by go_grown⟩
                  case measure => simp [intOf]; omega
              · have b1 : (x.dom == d) = false := by simpa using e1
                have HB := Lib.hid (show (l.take (k + 1)).any (wrHit d p) = false by rw [HA.out, hs, hax]; simp [e1])
                clear e1 hax hs
                go_wp2
                go_roundw
                case rel => exact ⟨k + 1, by omega, by go_num, by rw [HB.out], hown.alloc _, by go_grown⟩
                case measure => simp [intOf]; omega
            · have HB := Lib.hid (show (l.take (k + 1)).any (wrHit d p) = true by rw [HA.out, hs]; rfl)
              clear hs
              go_wp2
              go_roundw
              case rel => exact ⟨k + 1, by omega, by go_num, by rw [HB.out], hown.alloc _, by go_grown⟩
              case measure => simp [intOf]; omega
          · have hkn : k = n := by omega
            have htk : l.take k = l := List.take_of_length_le (by have := HN.out; omega)
            rw [htk]
            clear htk hkn
            cases hs : l.any (wrHit d p)
            · have HB := Lib.hid (wrK_no hs)
              go_wp2
              go_roundw
              case rel => exact ⟨p + 1, j, _, by omega, by omega, by go_num, rfl, by rw [Hid, HB.out]; exact hxl.out, by rw [HB.out]; exact hown, hbi⟩
              case measure => simp [intOf]; omega
            · have HB := Lib.hid (wrK_yes hs)
              go_wp2_with (at_builtin; refine wpList_append_own _ rfl _ _ 25 rfl w.heap.size 3 i0 (.int .i64 0) 1 8 Try.underlying25 hi hz0 hz1 hz2 rfl (by decide) _ _ _ rfl (hown.alloc _) ⟨wr.heap.size, 0, none⟩ 1 1 [.int .i64 (p : Int)] rfl rfl (cells_new _ _ _) ?c2 ?c3 ?c4 ?c5 ?_; (case c2 => (intro u hu; simp at hu; subst hu; rfl)); (case c3 => (unfold maxLen; omega)); (case c4 => omega); (case c5 => (simp only [World.size_alloc]; omega)); intro v1 w1 hown1 hg1 hn1; have hb1 : Below w.heap.size w w1 := below_app (hbi.alloc hzi _) (hown.alloc _) hg1 (by simp only [World.size_alloc]; omega); clear hn1 hg1)
              go_roundw
              case rel => exact ⟨p + 1, j + 1, v1, by omega, by omega, by go_num, rfl, by rw [Hid, HB.out, List.length_append, hxl.out]; rfl, by rw [HB.out, List.flatMap_append]; exact hown1, hb1⟩
              case measure => simp [intOf]; omega
      · have hpe : p = 64 := by omega
        subst hpe
        have hxl2 := hxl.out
        obtain ⟨A9, c9, rfl, _, _, _⟩ := own_form hown
        clear hxl2
        go_wp2
        go_ret
        rw [HL.out, hxl.out]
        exact ⟨A9, c9, rfl, hown, hbw⟩
end Go.Proofs.Ytnnlagmgdfhaiaa
