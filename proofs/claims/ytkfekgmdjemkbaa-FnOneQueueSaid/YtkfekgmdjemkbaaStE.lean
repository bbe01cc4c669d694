/- Contracts: tableSize, SpreadOk, EntryOf, SpreadQueue: impl and spec. -/
import Derived.Test.YtkfekgmdjemkbaaStD
import Derived.Test.YtkfekgmdjemkbaaSlots4
namespace Go.Proofs.Ytkfekgmdjemkbaa
set_option linter.unusedSimpArgs false
set_option linter.unusedVariables false
open Go.RowKit Go.ChangeShapes Go.WideShapes
theorem all_bad {T : Type} {p : T → Bool} {l : List T} {k : Nat} {x : T} (hx : l[k]? = some x) (h : p x = false) : l.all p = false := by
  rw [List.all_eq_false]
  exact ⟨x, List.mem_of_getElem? hx, by rw [h]; decide⟩
/-- The queue that the table gives to a flow. -/
def tabI (key : ByteArray) (l : List Int) (f : Flow) : Int := (l[(hashI key f % (l.length : Int)).toNat]?).getD 0
theorem spread_t {key : ByteArray} {l : List Int} {q : Int} (h : spreadB key l q = true) : inB q 1 4 = true ∧ key.size = 16 ∧ 1 ≤ l.length ∧ l.length ≤ 16 := by
  simp only [spreadB, sizeB, Bool.and_eq_true, Bool.or_eq_true, decide_eq_true_eq] at h
  exact ⟨h.1.1.1, h.1.1.2, by omega⟩
theorem spread_el {key : ByteArray} {l : List Int} {q : Int} (h : spreadB key l q = true) {x : Int} (hx : x ∈ l) : 0 ≤ x ∧ x ≤ q - 1 := by
  rw [spreadB, Bool.and_eq_true, List.all_eq_true] at h
  exact inB_t (h.2 x hx)
theorem tabI_bd {key : ByteArray} {l : List Int} {q : Int} (h : spreadB key l q = true) (f : Flow) : 0 ≤ tabI key l f ∧ tabI key l f ≤ q - 1 := by
  obtain ⟨_, _, h3, _⟩ := spread_t h
  have h1 := Int.emod_nonneg (hashI key f) (show (l.length : Int) ≠ 0 by omega)
  have h2 := Int.emod_lt_of_pos (hashI key f) (show (0 : Int) < l.length by omega)
  have h4 : (hashI key f % (l.length : Int)).toNat < l.length := by omega
  rw [tabI, List.getElem?_eq_getElem h4]
  exact spread_el h (List.getElem_mem h4)
set_option maxHeartbeats 1000000 in
theorem implSize_c (n : Nat) (w : World) :
    Calls Try.prog 53 #[.int .i64 n] w fun e w' => e = .returned (.bool (sizeB n)) ∧ Below w.heap.size w w' := by
  by_cases h1 : n = 1
  · subst h1
    go_enter Try.func53, Try.ntmps53
    go_wp2
    go_ret
    exact ⟨rfl, by first | exact Below.refl _ _ | go_grown⟩
  by_cases h2 : n = 2
  · subst h2
    go_enter Try.func53, Try.ntmps53
    go_wp2
    go_ret
    exact ⟨rfl, by first | exact Below.refl _ _ | go_grown⟩
  by_cases h4 : n = 4
  · subst h4
    go_enter Try.func53, Try.ntmps53
    go_wp2
    go_ret
    exact ⟨rfl, by first | exact Below.refl _ _ | go_grown⟩
  by_cases h8 : n = 8
  · subst h8
    go_enter Try.func53, Try.ntmps53
    go_wp2
    go_ret
    exact ⟨rfl, by first | exact Below.refl _ _ | go_grown⟩
  have hs : sizeB n = decide (n = 16) := by simp [sizeB, h1, h2, h4, h8]
  rw [hs]
  have i1 : ((n : Int) == 1) = false := by simp; omega
  have i2 : ((n : Int) == 2) = false := by simp; omega
  have i4 : ((n : Int) == 4) = false := by simp; omega
  have i8 : ((n : Int) == 8) = false := by simp; omega
  have i16 : ((n : Int) == 16) = decide (n = 16) := by rw [Bool.beq_eq_decide_eq]; exact decide_eq_decide.2 (by omega)
  clear h1 h2 h4 h8 hs
  go_enter Try.func53, Try.ntmps53
  go_wp2
  go_ret
  exact ⟨ret_bool rfl, by first | exact Below.refl _ _ | go_grown⟩
set_option maxHeartbeats 1000000 in
theorem specSize_c (n : Nat) (w : World) :
    Calls Try.prog 75 #[.int .i64 n] w fun e w' => e = .returned (.bool (sizeB n)) ∧ Below w.heap.size w w' := by
  by_cases h1 : n = 1
  · subst h1
    go_enter Try.func75, Try.ntmps75
    go_wp2
    go_ret
    exact ⟨rfl, by first | exact Below.refl _ _ | go_grown⟩
  by_cases h2 : n = 2
  · subst h2
    go_enter Try.func75, Try.ntmps75
    go_wp2
    go_ret
    exact ⟨rfl, by first | exact Below.refl _ _ | go_grown⟩
  by_cases h4 : n = 4
  · subst h4
    go_enter Try.func75, Try.ntmps75
    go_wp2
    go_ret
    exact ⟨rfl, by first | exact Below.refl _ _ | go_grown⟩
  by_cases h8 : n = 8
  · subst h8
    go_enter Try.func75, Try.ntmps75
    go_wp2
    go_ret
    exact ⟨rfl, by first | exact Below.refl _ _ | go_grown⟩
  have hs : sizeB n = decide (n = 16) := by simp [sizeB, h1, h2, h4, h8]
  rw [hs]
  have i1 : ((n : Int) == 1) = false := by simp; omega
  have i2 : ((n : Int) == 2) = false := by simp; omega
  have i4 : ((n : Int) == 4) = false := by simp; omega
  have i8 : ((n : Int) == 8) = false := by simp; omega
  have i16 : ((n : Int) == 16) = decide (n = 16) := by rw [Bool.beq_eq_decide_eq]; exact decide_eq_decide.2 (by omega)
  clear h1 h2 h4 h8 hs
  go_enter Try.func75, Try.ntmps75
  go_wp2
  go_ret
  exact ⟨ret_bool rfl, by first | exact Below.refl _ _ | go_grown⟩
set_option maxHeartbeats 4000000 in
theorem implSpreadOk_c (key : ByteArray) (A : Option Addr) (n c : Nat) (l : List Int) (q : Int) (w : World) (hn : l.length = n) (hm : n ≤ 1048576) (hr : Reads w w.heap.size 1 A n (l.flatMap fun x : Int => [Value.int .i64 x])) :
    Calls Try.prog 26 #[.agg #[.string key, .slice A n c], .int .i64 q] w fun e w' => e = .returned (.bool (spreadB key l q)) ∧ Below w.heap.size w w' := by
  have HN := Lib.hid hn
  have hsz := fun u => implSize_c n u
  cases h1 : inB q 1 4
  · go_enter Try.func26, Try.ntmps26
    go_wp2_with (first | (go_at_call 28; refine (calls_bool (between_c _ _ _ _) (by assumption)).mono ?_; rintro e w1 ⟨rfl, rfl⟩) | (go_at_call 53; refine (hsz _).mono ?_; rintro e w1 ⟨rfl, hbW⟩; have hk1 : Below w.heap.size w w1 := ext_step (by go_grown) (by go_size) hbW; clear hbW))
    go_ret
    exact ⟨ret_bool (by simp [spreadB, *]), by first | exact hk1 | go_grown⟩
  · by_cases hk : key.size = 16
    · have HK := Lib.hid hk
      have hk2 : (key.size : Int) = 16 := by omega
      cases h3 : sizeB n
      · simp only [h3] at hsz
        go_enter Try.func26, Try.ntmps26
        go_wp2_with (first | (go_at_call 28; refine (calls_bool (between_c _ _ _ _) (by assumption)).mono ?_; rintro e w1 ⟨rfl, rfl⟩) | (go_at_call 53; refine (hsz _).mono ?_; rintro e w1 ⟨rfl, hbW⟩; have hk1 : Below w.heap.size w w1 := ext_step (by go_grown) (by go_size) hbW; clear hbW))
        go_ret
        exact ⟨ret_bool (by simp [spreadB, *]), by first | exact hk1 | go_grown⟩
      · simp only [h3] at hsz
        have hq := inB_t h1
        have ew : IntKind.i64.wrap (q - 1) = q - 1 := IntWalk.i64_in _ ⟨by omega, by omega⟩
        clear hn hk
        go_enter Try.func26, Try.ntmps26
        go_wp2_with (first | (go_at_call 28; refine (calls_bool (between_c _ _ _ _) (by assumption)).mono ?_; rintro e w1 ⟨rfl, rfl⟩) | (go_at_call 53; refine (hsz _).mono ?_; rintro e w1 ⟨rfl, hbW⟩; have hk1 : Below w.heap.size w w1 := ext_step (by go_grown) (by go_size) hbW; have hkp := (Blk.new w 30 [.string key, .slice A n c]).ext hbW; clear hbW; have hpl := hkp.lt; have p0 := hkp.at_ 0 _ rfl; have p1 := hkp.at_ 1 _ rfl))
        go_loopw [26] (fun i wr => ∃ k : Nat, k ≤ n ∧ i = .int .i64 k ∧ Below w.heap.size w wr ∧ Blk wr w.heap.size 30 [.string key, .slice A n c] ∧ Hid ((l.take k).all (fun x => inB x 0 (q - 1)) = true)) (fun i _ => n - (intOf i).toNat)
        case atStart => exact ⟨0, Nat.zero_le _, rfl, hk1, hkp, rfl⟩
        case round =>
          obtain ⟨k, hk, rfl, hbw, hkp, hall⟩ := hrel
          have hsz1 := hbw.size
          have hpl := hkp.lt
          have p0 := hkp.at_ 0 _ rfl
          have p1 := hkp.at_ 1 _ rfl
          by_cases hlt : k < n
          · obtain ⟨b, o, x, rfl, hb, hxx, hcx⟩ := hr.el (fun _ => rfl) (by decide) HN.out hlt
            have c0 := (hbw.cell (p := ⟨b, o + k, none⟩) hb).trans (by simpa using hcx 0 _ rfl)
            have HXx := Lib.hid hxx
            clear hxx hcx
            cases e1 : inB x 0 (q - 1)
            · have HP := Lib.hid (all_bad (p := fun x => inB x 0 (q - 1)) HXx.out e1)
              go_wp2_with (go_at_call 28; refine (calls_bool (between_c _ _ _ _) (by assumption)).mono ?_; rintro e w1 ⟨rfl, rfl⟩)
              go_ret
              exact ⟨ret_bool (by rw [spreadB, HP.out]; simp), by first | exact hbw | go_grown⟩
            · have HP := Lib.hid (all_take (p := fun x => inB x 0 (q - 1)) hall.out HXx.out e1)
              go_wp2_with (go_at_call 28; refine (calls_bool (between_c _ _ _ _) (by assumption)).mono ?_; rintro e w1 ⟨rfl, rfl⟩)
              go_roundw
              case rel => exact ⟨k + 1, by omega, by go_num, by first | exact hbw | go_grown, by first | exact hkp | exact hkp.alloc _, HP⟩
              case measure => simp [intOf]; omega
          · have hp := hall.out
            rw [take_all HN.out hlt] at hp
            have HP := Lib.hid hp
            clear hp
            go_wp2
            go_ret
            exact ⟨ret_bool (by rw [spreadB, HP.out, HN.out, h1, h3, HK.out]; rfl), hbw⟩
    · have hk2 : ¬ (key.size : Int) = 16 := by omega
      go_enter Try.func26, Try.ntmps26
      go_wp2_with (first | (go_at_call 28; refine (calls_bool (between_c _ _ _ _) (by assumption)).mono ?_; rintro e w1 ⟨rfl, rfl⟩) | (go_at_call 53; refine (hsz _).mono ?_; rintro e w1 ⟨rfl, hbW⟩; have hk1 : Below w.heap.size w w1 := ext_step (by go_grown) (by go_size) hbW; clear hbW))
      go_ret
      exact ⟨ret_bool (by simp [spreadB, *]), by first | exact hk1 | go_grown⟩
set_option maxHeartbeats 4000000 in
theorem specSpreadOk_c (key : ByteArray) (A : Option Addr) (n c : Nat) (l : List Int) (q : Int) (w : World) (hn : l.length = n) (hm : n ≤ 1048576) (hr : Reads w w.heap.size 1 A n (l.flatMap fun x : Int => [Value.int .i64 x])) :
    Calls Try.prog 59 #[.agg #[.string key, .slice A n c], .int .i64 q] w fun e w' => e = .returned (.bool (spreadB key l q)) ∧ Below w.heap.size w w' := by
  have HN := Lib.hid hn
  have hsz := fun u => specSize_c n u
  cases h1 : inB q 1 4
  · go_enter Try.func59, Try.ntmps59
    go_wp2_with (first | (go_at_call 60; refine (calls_bool (l01In_c _ _ _ _) (by assumption)).mono ?_; rintro e w1 ⟨rfl, rfl⟩) | (go_at_call 75; refine (hsz _).mono ?_; rintro e w1 ⟨rfl, hbW⟩; have hk1 : Below w.heap.size w w1 := ext_step (by go_grown) (by go_size) hbW; clear hbW))
    go_ret
    exact ⟨ret_bool (by simp [spreadB, *]), by first | exact hk1 | go_grown⟩
  · by_cases hk : key.size = 16
    · have HK := Lib.hid hk
      have hk2 : (key.size : Int) = 16 := by omega
      cases h3 : sizeB n
      · simp only [h3] at hsz
        go_enter Try.func59, Try.ntmps59
        go_wp2_with (first | (go_at_call 60; refine (calls_bool (l01In_c _ _ _ _) (by assumption)).mono ?_; rintro e w1 ⟨rfl, rfl⟩) | (go_at_call 75; refine (hsz _).mono ?_; rintro e w1 ⟨rfl, hbW⟩; have hk1 : Below w.heap.size w w1 := ext_step (by go_grown) (by go_size) hbW; clear hbW))
        go_ret
        exact ⟨ret_bool (by simp [spreadB, *]), by first | exact hk1 | go_grown⟩
      · simp only [h3] at hsz
        have hq := inB_t h1
        have ew : IntKind.i64.wrap (q - 1) = q - 1 := IntWalk.i64_in _ ⟨by omega, by omega⟩
        clear hn hk
        go_enter Try.func59, Try.ntmps59
        go_wp2_with (first | (go_at_call 60; refine (calls_bool (l01In_c _ _ _ _) (by assumption)).mono ?_; rintro e w1 ⟨rfl, rfl⟩) | (go_at_call 75; refine (hsz _).mono ?_; rintro e w1 ⟨rfl, hbW⟩; have hk1 : Below w.heap.size w w1 := ext_step (by go_grown) (by go_size) hbW; have hkp := (Blk.new w 30 [.string key, .slice A n c]).ext hbW; clear hbW; have hpl := hkp.lt; have p0 := hkp.at_ 0 _ rfl; have p1 := hkp.at_ 1 _ rfl))
        go_loopw [5] (fun i wr => ∃ k : Nat, k ≤ n ∧ i = .int .i64 k ∧ Below w.heap.size w wr ∧ Blk wr w.heap.size 30 [.string key, .slice A n c] ∧ Hid ((l.take k).all (fun x => inB x 0 (q - 1)) = true)) (fun i _ => n - (intOf i).toNat)
        case atStart => exact ⟨0, Nat.zero_le _, rfl, hk1, hkp, rfl⟩
        case round =>
          obtain ⟨k, hk, rfl, hbw, hkp, hall⟩ := hrel
          have hsz1 := hbw.size
          have hpl := hkp.lt
          have p0 := hkp.at_ 0 _ rfl
          have p1 := hkp.at_ 1 _ rfl
          by_cases hlt : k < n
          · obtain ⟨b, o, x, rfl, hb, hxx, hcx⟩ := hr.el (fun _ => rfl) (by decide) HN.out hlt
            have c0 := (hbw.cell (p := ⟨b, o + k, none⟩) hb).trans (by simpa using hcx 0 _ rfl)
            have HXx := Lib.hid hxx
            clear hxx hcx
            cases e1 : inB x 0 (q - 1)
            · have HP := Lib.hid (all_bad (p := fun x => inB x 0 (q - 1)) HXx.out e1)
              go_wp2_with (go_at_call 60; refine (calls_bool (l01In_c _ _ _ _) (by assumption)).mono ?_; rintro e w1 ⟨rfl, rfl⟩)
              go_ret
              exact ⟨ret_bool (by rw [spreadB, HP.out]; simp), by first | exact hbw | go_grown⟩
            · have HP := Lib.hid (all_take (p := fun x => inB x 0 (q - 1)) hall.out HXx.out e1)
              go_wp2_with (go_at_call 60; refine (calls_bool (l01In_c _ _ _ _) (by assumption)).mono ?_; rintro e w1 ⟨rfl, rfl⟩)
              go_roundw
              case rel => exact ⟨k + 1, by omega, by go_num, by first | exact hbw | go_grown, by first | exact hkp | exact hkp.alloc _, HP⟩
              case measure => simp [intOf]; omega
          · have hp := hall.out
            rw [take_all HN.out hlt] at hp
            have HP := Lib.hid hp
            clear hp
            go_wp2
            go_ret
            exact ⟨ret_bool (by rw [spreadB, HP.out, HN.out, h1, h3, HK.out]; rfl), hbw⟩
    · have hk2 : ¬ (key.size : Int) = 16 := by omega
      go_enter Try.func59, Try.ntmps59
      go_wp2_with (first | (go_at_call 60; refine (calls_bool (l01In_c _ _ _ _) (by assumption)).mono ?_; rintro e w1 ⟨rfl, rfl⟩) | (go_at_call 75; refine (hsz _).mono ?_; rintro e w1 ⟨rfl, hbW⟩; have hk1 : Below w.heap.size w w1 := ext_step (by go_grown) (by go_size) hbW; clear hbW))
      go_ret
      exact ⟨ret_bool (by simp [spreadB, *]), by first | exact hk1 | go_grown⟩
set_option maxHeartbeats 2000000 in
theorem implEntryOf_c (key : ByteArray) (A : Option Addr) (n c : Nat) (f : Flow) (w : World) (hk : key.size = 16) (h : flowB f = true) (h0 : 0 < n) (hm : n ≤ 1048576) :
    Calls Try.prog 50 #[.agg #[.string key, .slice A n c], .agg #[.int .i64 f.kind, .int .i64 f.sip, .int .i64 f.dip, .int .i64 f.sport, .int .i64 f.dport]] w fun e w' => e = .returned (.int .i64 (hashI key f % n)) ∧ Below w.heap.size w w' := by
  have hh := fun u => implHashFlow_c key f u hk h
  have hb := hsN_bd key (inpF f) 96
  have hH : hsN key (inpF f) 96 = hashI key f := rfl
  rw [hH] at hb
  generalize hashI key f = H at *
  clear hH
  have i0 : ((n : Int) == 0) = false := by simp; omega
  have i1 : ¬ H < 0 := by omega
  go_enter Try.func50, Try.ntmps50
  go_wp2_with (go_at_call 72; refine (hh _).mono ?_; rintro e w1 ⟨rfl, hbW⟩; have hk1 : Below w.heap.size w w1 := ext_step (by go_grown) (by go_size) hbW; have hkp := ((Blk.new w 30 [.string key, .slice A n c]).alloc _).ext hbW; clear hbW; have hpl := hkp.lt; have p0 := hkp.at_ 0 _ rfl; have p1 := hkp.at_ 1 _ rfl)
  go_ret
  exact ⟨ret_int (by first | rfl | omega | (split <;> omega)), hk1⟩
set_option maxHeartbeats 2000000 in
theorem specEntryOf_c (key : ByteArray) (A : Option Addr) (n c : Nat) (f : Flow) (w : World) (hk : key.size = 16) (h : flowB f = true) (h0 : 0 < n) (hm : n ≤ 1048576) :
    Calls Try.prog 63 #[.agg #[.string key, .slice A n c], .agg #[.int .i64 f.kind, .int .i64 f.sip, .int .i64 f.dip, .int .i64 f.sport, .int .i64 f.dport]] w fun e w' => e = .returned (.int .i64 (hashI key f % n)) ∧ Below w.heap.size w w' := by
  have hh := fun u => specHashFlow_c key f u hk h
  have hb := hsN_bd key (inpF f) 96
  have hH : hsN key (inpF f) 96 = hashI key f := rfl
  rw [hH] at hb
  generalize hashI key f = H at *
  clear hH
  have i0 : ((n : Int) == 0) = false := by simp; omega
  have i1 : ¬ H < 0 := by omega
  go_enter Try.func63, Try.ntmps63
  go_wp2_with (go_at_call 76; refine (hh _).mono ?_; rintro e w1 ⟨rfl, hbW⟩; have hk1 : Below w.heap.size w w1 := ext_step (by go_grown) (by go_size) hbW; have hkp := ((Blk.new w 30 [.string key, .slice A n c]).alloc _).ext hbW; clear hbW; have hpl := hkp.lt; have p0 := hkp.at_ 0 _ rfl; have p1 := hkp.at_ 1 _ rfl)
  go_ret
  exact ⟨ret_int (by first | rfl | omega | (split <;> omega)), hk1⟩
set_option maxHeartbeats 2000000 in
theorem implSpreadQueue_c (key : ByteArray) (A : Option Addr) (n c : Nat) (l : List Int) (q : Int) (w : World) (hn : l.length = n) (hm : n ≤ 1048576) (hr : Reads w w.heap.size 1 A n (l.flatMap fun x : Int => [Value.int .i64 x])) (f : Flow) (h : flowB f = true) (hs : spreadB key l q = true) :
    Calls Try.prog 23 #[.agg #[.string key, .slice A n c], .int .i64 q, .agg #[.int .i64 f.kind, .int .i64 f.sip, .int .i64 f.dip, .int .i64 f.sport, .int .i64 f.dport]] w fun e w' => e = .returned (.int .i64 (tabI key l f)) ∧ Below w.heap.size w w' := by
  obtain ⟨z1, z2, z3⟩ := spread_t hs
  have he := fun u => implEntryOf_c key A n c f u z2 h (by omega) hm
  have hb : 0 ≤ hashI key f % (n : Int) ∧ hashI key f % (n : Int) < n := ⟨Int.emod_nonneg _ (by omega), Int.emod_lt_of_pos _ (by omega)⟩
  have hq : tabI key l f = (l[(hashI key f % (n : Int)).toNat]?).getD 0 := by rw [tabI, hn]
  rw [hq]
  generalize hashI key f % (n : Int) = E at *
  obtain ⟨k, rfl⟩ := Int.eq_ofNat_of_zero_le hb.1
  have HN := Lib.hid hn
  have hlt : k < n := by omega
  have hso := fun (u : World) (hu : Reads u u.heap.size 1 A n (l.flatMap fun x : Int => [Value.int .i64 x])) => implSpreadOk_c key A n c l q u hn hm hu
  simp only [hs] at hso
  have hr0 := hr
  rw [Int.toNat_natCast] 
  obtain ⟨b, o, x, rfl, hbl, hxx, hcx⟩ := hr.el (fun _ => rfl) (by decide) HN.out hlt
  have c0 : w.cell? ⟨b, o + k, none⟩ = some (.int .i64 x) := by simpa using hcx 0 _ rfl
  rw [hxx]
  clear hxx hcx hq hn
  go_enter Try.func23, Try.ntmps23
  go_wp2_with fail
  refine (he _).mono ?_
  rintro e w1 ⟨rfl, hbW⟩
  have hkp := ((Blk.new w 30 [.string key, .slice (some ⟨b, o, none⟩) n c]).alloc (.cells #[.int .i64 f.kind, .int .i64 f.sip, .int .i64 f.dip, .int .i64 f.sport, .int .i64 f.dport] 44)).ext hbW
  have hk1 : Below w.heap.size w w1 := ext_step (by go_grown) (by go_size) hbW
  clear hbW
  have hpl := hkp.lt
  have p0 := hkp.at_ 0 _ rfl
  have p1 := hkp.at_ 1 _ rfl
  go_wp2_with fail
  refine (hso _ ((hr0.below hk1).more hk1.size)).mono ?_
  rintro e w2 ⟨rfl, hbW⟩
  have hkp2 := hkp.ext hbW
  replace hk1 : Below w.heap.size w w2 := ext_step hk1 hk1.size hbW
  clear hbW p0 p1 hkp
  have p1 := hkp2.at_ 1 _ rfl
  have c1 := (hk1.cell (p := ⟨b, o + k, none⟩) hbl).trans c0
  go_wp2
  go_ret
  exact ⟨rfl, hk1⟩
set_option maxHeartbeats 2000000 in
theorem specSpreadQueue_c (key : ByteArray) (A : Option Addr) (n c : Nat) (l : List Int) (q : Int) (w : World) (hn : l.length = n) (hm : n ≤ 1048576) (hr : Reads w w.heap.size 1 A n (l.flatMap fun x : Int => [Value.int .i64 x])) (f : Flow) (h : flowB f = true) (hs : spreadB key l q = true) :
    Calls Try.prog 35 #[.agg #[.string key, .slice A n c], .int .i64 q, .agg #[.int .i64 f.kind, .int .i64 f.sip, .int .i64 f.dip, .int .i64 f.sport, .int .i64 f.dport]] w fun e w' => e = .returned (.int .i64 (tabI key l f)) ∧ Below w.heap.size w w' := by
  obtain ⟨z1, z2, z3⟩ := spread_t hs
  have he := fun u => specEntryOf_c key A n c f u z2 h (by omega) hm
  have hb : 0 ≤ hashI key f % (n : Int) ∧ hashI key f % (n : Int) < n := ⟨Int.emod_nonneg _ (by omega), Int.emod_lt_of_pos _ (by omega)⟩
  have hq : tabI key l f = (l[(hashI key f % (n : Int)).toNat]?).getD 0 := by rw [tabI, hn]
  rw [hq]
  generalize hashI key f % (n : Int) = E at *
  obtain ⟨k, rfl⟩ := Int.eq_ofNat_of_zero_le hb.1
  have HN := Lib.hid hn
  have hlt : k < n := by omega
  have hso := fun (u : World) (hu : Reads u u.heap.size 1 A n (l.flatMap fun x : Int => [Value.int .i64 x])) => specSpreadOk_c key A n c l q u hn hm hu
  simp only [hs] at hso
  have hr0 := hr
  rw [Int.toNat_natCast] 
  obtain ⟨b, o, x, rfl, hbl, hxx, hcx⟩ := hr.el (fun _ => rfl) (by decide) HN.out hlt
  have c0 : w.cell? ⟨b, o + k, none⟩ = some (.int .i64 x) := by simpa using hcx 0 _ rfl
  rw [hxx]
  clear hxx hcx hq hn
  go_enter Try.func35, Try.ntmps35
  go_wp2_with fail
  refine (he _).mono ?_
  rintro e w1 ⟨rfl, hbW⟩
  have hkp := ((Blk.new w 30 [.string key, .slice (some ⟨b, o, none⟩) n c]).alloc (.cells #[.int .i64 f.kind, .int .i64 f.sip, .int .i64 f.dip, .int .i64 f.sport, .int .i64 f.dport] 44)).ext hbW
  have hk1 : Below w.heap.size w w1 := ext_step (by go_grown) (by go_size) hbW
  clear hbW
  have hpl := hkp.lt
  have p0 := hkp.at_ 0 _ rfl
  have p1 := hkp.at_ 1 _ rfl
  go_wp2_with fail
  refine (hso _ ((hr0.below hk1).more hk1.size)).mono ?_
  rintro e w2 ⟨rfl, hbW⟩
  have hkp2 := hkp.ext hbW
  replace hk1 : Below w.heap.size w w2 := ext_step hk1 hk1.size hbW
  clear hbW p0 p1 hkp
  have p1 := hkp2.at_ 1 _ rfl
  have c1 := (hk1.cell (p := ⟨b, o + k, none⟩) hbl).trans c0
  go_wp2
  go_ret
  exact ⟨rfl, hk1⟩
end Go.Proofs.Ytkfekgmdjemkbaa
