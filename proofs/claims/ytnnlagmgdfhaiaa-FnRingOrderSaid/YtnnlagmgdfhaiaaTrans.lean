/- Contracts of place, l17Page, Translate: impl and spec. -/
import Derived.Test.YtnnlagmgdfhaiaaMapsOk
namespace Go.Proofs.Ytnnlagmgdfhaiaa
set_option linter.unusedSimpArgs false
set_option linter.unusedVariables false
open Go.RowKit Go.ChangeShapes Go.WideShapes
set_option maxHeartbeats 2000000 in
theorem implPlace_c (A : Option Addr) (n c : Nat) (l : List Mapping) (w : World) (hn : l.length = n) (hm : n ≤ 35184372088832) (hr : Reads w w.heap.size 4 A n (l.flatMap Mapping.cells)) (d a : Int) (wr : Bool) (ha : I64 a) (hB : mapsB l = true) :
    Calls Try.prog 91 #[.slice A n c, .int .i64 d, .int .i64 a, .bool wr] w fun e w' => e = .returned (.int .i64 (placeI l d a wr)) ∧ Below w.heap.size w w' := by
  by_cases h0 : a < 0
  · have hp : placeI l d a wr = -1 := by rw [placeI, if_pos h0]
    have HP := Lib.hid hp
    clear hp
    go_enter Try.func91, Try.ntmps91
    go_wp2
    go_ret
    exact ⟨ret_int HP.out.symm, Below.refl _ _⟩
  · have h1 : 0 ≤ a := by omega
    have h2 : a ≤ 9223372036854775807 := ha.2
    rcases pm_bd l d (a / 128) with hp | ⟨k, x, hp, hx, hh⟩
    · have hres : placeI l d a wr = -1 := by rw [placeI, if_neg h0, pgI_no wr hp, if_pos (by omega)]
      have HR := Lib.hid hres
      have HP := Lib.hid hp
      clear hp hres
      go_enter Try.func91, Try.ntmps91
      go_wp2_with (go_at_call 92; refine (pageMapping_c _ _ _ l _ hn hm hr _ _).mono ?_; rintro e w1 ⟨rfl, hb⟩; rw [HP.out])
      go_ret
      exact ⟨ret_int HR.out.symm, hb⟩
    · have hlt : k < n := by rw [← hn]; exact (List.getElem?_eq_some_iff.1 hx).1
      have hq := pgI_at wr hp hx
      obtain ⟨hin, _⟩ := mapsB_el hB hx
      have hbd := mapIn_bd hin
      have HN := Lib.hid hn
      have hbw := Below.refl w.heap.size w
      obtain ⟨b, o, y, rfl, hb, hxy, hcy⟩ := hr.el (fun _ => rfl) (by decide) HN.out hlt
      have c0 := (hbw.cell (p := ⟨b, o + k * 4, none⟩) hb).trans (by simpa using hcy 0 _ rfl)
      have c1 := (hbw.cell (p := ⟨b, o + k * 4 + 1, none⟩) hb).trans (by simpa using hcy 1 _ rfl)
      have c2 := (hbw.cell (p := ⟨b, o + k * 4 + 2, none⟩) hb).trans (by simpa using hcy 2 _ rfl)
      have c3 := (hbw.cell (p := ⟨b, o + k * 4 + 3, none⟩) hb).trans (by simpa using hcy 3 _ rfl)
      have HXy := Lib.hid hxy
      clear hxy hcy
      have hxy : x = y := by have := HXy.out; rw [hx] at this; injection this
      subst hxy
      have HP := Lib.hid hp
      have k0 : (0 : Int) ≤ (k : Int) := by omega
      have k1 : (k : Int) < (n : Int) := by omega
      have kn : ¬ (k : Int) < 0 := by omega
      clear hp
      cases hw : wr && !x.wr
      · have hres : placeI l d a wr = x.phy * 128 + a % 128 := by rw [placeI, if_neg h0, hq, hw]; simp; omega
        have HR := Lib.hid hres
        obtain ⟨p0, p1, p2, p3, p4, p5⟩ := hbd
        clear hq hres
        cases wr
        · go_enter Try.func91, Try.ntmps91
          go_wp2_with (go_at_call 92; refine (pageMapping_c _ _ _ l _ hn hm hr _ _).mono ?_; rintro e w1 ⟨rfl, hb⟩; rw [HP.out]; have c0 := ccell hb _ _ _ c0; have c1 := ccell hb _ _ _ c1; have c2 := ccell hb _ _ _ c2; have c3 := ccell hb _ _ _ c3)
          go_ret
          exact ⟨ret_int HR.out.symm, hb⟩
        · have hxw : x.wr = true := by simpa using hw
          clear hw
          go_enter Try.func91, Try.ntmps91
          go_wp2_with (go_at_call 92; refine (pageMapping_c _ _ _ l _ hn hm hr _ _).mono ?_; rintro e w1 ⟨rfl, hb⟩; rw [HP.out]; have c0 := ccell hb _ _ _ c0; have c1 := ccell hb _ _ _ c1; have c2 := ccell hb _ _ _ c2; have c3 := ccell hb _ _ _ c3)
          go_ret
          exact ⟨ret_int HR.out.symm, hb⟩
      · have hres : placeI l d a wr = -1 := by rw [placeI, if_neg h0, hq, hw]; simp
        have HR := Lib.hid hres
        simp only [Bool.and_eq_true, Bool.not_eq_true'] at hw
        obtain ⟨rfl, hxw⟩ := hw
        clear hq hres
        go_enter Try.func91, Try.ntmps91
        go_wp2_with (go_at_call 92; refine (pageMapping_c _ _ _ l _ hn hm hr _ _).mono ?_; rintro e w1 ⟨rfl, hb⟩; rw [HP.out]; have c0 := ccell hb _ _ _ c0; have c1 := ccell hb _ _ _ c1; have c2 := ccell hb _ _ _ c2; have c3 := ccell hb _ _ _ c3)
        go_ret
        exact ⟨ret_int HR.out.symm, hb⟩
set_option maxHeartbeats 2000000 in
theorem specPage_c (A : Option Addr) (n c : Nat) (l : List Mapping) (w : World) (hn : l.length = n) (hm : n ≤ 35184372088832) (hr : Reads w w.heap.size 4 A n (l.flatMap Mapping.cells)) (d v : Int) (wr : Bool) :
    Calls Try.prog 97 #[.slice A n c, .int .i64 d, .int .i64 v, .bool wr] w fun e w' => e = .returned (.int .i64 (l17G l d v wr)) ∧ w = w' := by
  have HN := Lib.hid hn
  clear hn
  go_enter Try.func97, Try.ntmps97
  go_wp2
  go_loop [9] (fun i => ∃ k : Nat, k ≤ n ∧ i = .int .i64 k ∧ Hid ((l.take k).all (fun y => !hitW d v wr y) = true)) (fun i => n - (intOf i).toNat)
  case atStart => exact ⟨0, Nat.zero_le _, rfl, rfl⟩
  case round =>
    obtain ⟨k, hk, rfl, hall⟩ := hrel
    have hbw := Below.refl w.heap.size w
    by_cases hlt : k < n
    · obtain ⟨b, o, x, rfl, hb, hxx, hcx⟩ := hr.el (fun _ => rfl) (by decide) HN.out hlt
      have c0 := (hbw.cell (p := ⟨b, o + k * 4, none⟩) hb).trans (by simpa using hcx 0 _ rfl)
      have c1 := (hbw.cell (p := ⟨b, o + k * 4 + 1, none⟩) hb).trans (by simpa using hcx 1 _ rfl)
      have c2 := (hbw.cell (p := ⟨b, o + k * 4 + 2, none⟩) hb).trans (by simpa using hcx 2 _ rfl)
      have c3 := (hbw.cell (p := ⟨b, o + k * 4 + 3, none⟩) hb).trans (by simpa using hcx 3 _ rfl)
      have HXx := Lib.hid hxx
      clear hxx hcx
      cases hh : hitW d v wr x
      · have hp := all_take (p := fun y => !hitW d v wr y) hall.out HXx.out (by simp [hh])
        have HP := Lib.hid hp
        clear hp
        by_cases e1 : x.dom = d
        · have b1 : (x.dom == d) = true := by simpa using e1
          by_cases e2 : x.vir = v
          · have b2 : (x.vir == v) = true := by simpa using e2
            have e3 : x.wr = false ∧ wr = true := by simpa [hitW, hitM, e1, e2] using hh
            obtain ⟨e3, rfl⟩ := e3
            clear e1 e2 hh
            go_wp2
            go_round
            case rel => exact ⟨k + 1, by omega, by go_num, HP⟩
            case measure => simp [intOf]; omega
          · have b2 : (x.vir == v) = false := by simpa using e2
            clear e1 e2 hh
            go_wp2
            go_round
            case rel => exact ⟨k + 1, by omega, by go_num, HP⟩
            case measure => simp [intOf]; omega
        · have b1 : (x.dom == d) = false := by simpa using e1
          clear e1 hh
          go_wp2
          go_round
          case rel => exact ⟨k + 1, by omega, by go_num, HP⟩
          case measure => simp [intOf]; omega
      · have hres := l17G_at hall.out HXx.out hh
        have HR := Lib.hid hres
        clear hres
        simp only [hitW, hitM, Bool.and_eq_true, Bool.or_eq_true, decide_eq_true_eq, Bool.not_eq_true'] at hh
        obtain ⟨⟨e1, e2⟩, e3⟩ := hh
        have b1 : (x.dom == d) = true := by simpa using e1
        have b2 : (x.vir == v) = true := by simpa using e2
        clear e1 e2
        rcases e3 with e3 | rfl
        · go_wp2
          go_ret
          exact ⟨ret_int HR.out.symm, rfl⟩
        · cases e4 : x.wr
          all_goals
            go_wp2
            go_ret
            exact ⟨ret_int HR.out.symm, rfl⟩
    · have hp := hall.out
      rw [take_all HN.out hlt] at hp
      have HP := Lib.hid (l17G_none hp)
      clear hp
      go_wp2
      go_ret
      exact ⟨ret_int HP.out.symm, rfl⟩
set_option maxHeartbeats 2000000 in
theorem implTranslate_c (A : Option Addr) (n c : Nat) (l : List Mapping) (w : World) (hn : l.length = n) (hm : n ≤ 35184372088832) (hr : Reads w w.heap.size 4 A n (l.flatMap Mapping.cells)) (d a : Int) (wr : Bool) (ha : I64 a) :
    Calls Try.prog 30 #[.slice A n c, .int .i64 d, .int .i64 a, .bool wr] w fun e w' => e = .returned (.int .i64 (transI l d a wr)) ∧ Below w.heap.size w w' := by
  cases e1 : mapsB l
  · go_enter Try.func30, Try.ntmps30
    go_wp2_with (go_at_call 38; refine (calls_bool (implMappingsOk_c _ _ _ l _ hn hm hr) e1).mono ?_; rintro e w1 ⟨rfl, hb⟩; have hr1 := hr.to hb)
    go_ret
    exact ⟨ret_int (by rw [transI, e1]; simp), hb⟩
  · go_enter Try.func30, Try.ntmps30
    go_wp2_with (first | (go_at_call 38; refine (calls_bool (implMappingsOk_c _ _ _ l _ hn hm hr) e1).mono ?_; rintro e w1 ⟨rfl, hb⟩; have hr1 := hr.to hb) | (go_at_call 91; refine (implPlace_c _ _ _ l _ hn hm hr1 _ _ _ ha e1).mono ?_; rintro e w2 ⟨rfl, hb2⟩; have hb3 := ext_step hb hb.size hb2))
    go_ret
    exact ⟨ret_int (by rw [transI, e1]; simp), hb3⟩
set_option maxHeartbeats 2000000 in
theorem specTranslate_c (A : Option Addr) (n c : Nat) (l : List Mapping) (w : World) (hn : l.length = n) (hm : n ≤ 35184372088832) (hr : Reads w w.heap.size 4 A n (l.flatMap Mapping.cells)) (d a : Int) (wr : Bool) (ha : I64 a) :
    Calls Try.prog 39 #[.slice A n c, .int .i64 d, .int .i64 a, .bool wr] w fun e w' => e = .returned (.int .i64 (transI l d a wr)) ∧ Below w.heap.size w w' := by
  cases e1 : mapsB l
  · go_enter Try.func39, Try.ntmps39
    go_wp2_with (go_at_call 96; refine (calls_bool (specMappingsOk_c _ _ _ l _ hn hm hr) e1).mono ?_; rintro e w1 ⟨rfl, hb⟩; have hr1 := hr.to hb)
    go_ret
    exact ⟨ret_int (by rw [transI, e1]; simp), hb⟩
  · by_cases h0 : a < 0
    · go_enter Try.func39, Try.ntmps39
      go_wp2_with (go_at_call 96; refine (calls_bool (specMappingsOk_c _ _ _ l _ hn hm hr) e1).mono ?_; rintro e w1 ⟨rfl, hb⟩; have hr1 := hr.to hb)
      go_ret
      exact ⟨ret_int (by rw [transI, e1, placeI]; simp [h0]), hb⟩
    · have h1 : 0 ≤ a := by omega
      have h9 : a ≤ 9223372036854775807 := ha.2
      have hg := l17G_pg e1 d (a / 128) wr
      have HG := Lib.hid hg
      clear hg
      obtain ⟨g1, g2⟩ := pgI_bd e1 d (a / 128) wr
      have hres : transI l d a wr = if pgI l d (a / 128) wr < 0 then -1 else pgI l d (a / 128) wr * 128 + a % 128 := by rw [transI, e1, placeI]; simp [h0]
      generalize pgI l d (a / 128) wr = g at *
      have HR := Lib.hid hres
      clear hres
      by_cases h2 : g < 0
      · go_enter Try.func39, Try.ntmps39
        go_wp2_with (first | (go_at_call 96; refine (calls_bool (specMappingsOk_c _ _ _ l _ hn hm hr) e1).mono ?_; rintro e w1 ⟨rfl, hb⟩; have hr1 := hr.to hb) | (go_at_call 97; refine (specPage_c _ _ _ l _ hn hm hr1 _ _ _).mono ?_; rintro e w2 ⟨rfl, rfl⟩; rw [HG.out]))
        go_ret
        exact ⟨ret_int (by rw [HR.out, if_pos h2]), hb⟩
      · go_enter Try.func39, Try.ntmps39
        go_wp2_with (first | (go_at_call 96; refine (calls_bool (specMappingsOk_c _ _ _ l _ hn hm hr) e1).mono ?_; rintro e w1 ⟨rfl, hb⟩; have hr1 := hr.to hb) | (go_at_call 97; refine (specPage_c _ _ _ l _ hn hm hr1 _ _ _).mono ?_; rintro e w2 ⟨rfl, rfl⟩; rw [HG.out]))
        go_ret
        exact ⟨ret_int (by rw [HR.out, if_neg (by omega)]), hb⟩
end Go.Proofs.Ytnnlagmgdfhaiaa
