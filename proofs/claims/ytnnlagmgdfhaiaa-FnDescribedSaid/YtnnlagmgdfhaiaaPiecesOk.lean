/- Contracts on slices of pieces: PiecesOk, PiecesLength. -/
import Derived.Test.YtnnlagmgdfhaiaaIn
import Derived.Test.YtnnlagmgdfhaiaaOpen
namespace Go.Proofs.Ytnnlagmgdfhaiaa
set_option linter.unusedSimpArgs false
set_option linter.unusedVariables false
open Go.RowKit Go.ChangeShapes Go.WideShapes
def pieceB (p : Piece) : Bool := decide (0 ≤ p.at_) && inB p.ln 0 4096
def piecesB (l : List Piece) : Bool := l.all pieceB && decide (l.length ≤ 16)
set_option maxHeartbeats 1000000 in
theorem implPiecesOk_c (A : Option Addr) (n c : Nat) (l : List Piece) (w : World) (hn : l.length = n) (hm : n ≤ 140737488355328) (hr : Reads w w.heap.size 2 A n (l.flatMap Piece.cells)) :
    Calls Try.prog 104 #[.slice A n c] w fun e w' => e = .returned (.bool (piecesB l)) ∧ Below w.heap.size w w' := by
  have HN := Lib.hid hn
  clear hn
  go_enter Try.func104, Try.ntmps104
  go_wp2
  go_loopw [7] (fun i wr => ∃ k : Nat, k ≤ n ∧ i = .int .i64 k ∧ Below w.heap.size w wr ∧ Hid ((l.take k).all pieceB = true)) (fun i _ => n - (intOf i).toNat)
  case atStart => exact ⟨0, Nat.zero_le _, rfl, Below.refl _ _, rfl⟩
  case round =>
    obtain ⟨k, hk, rfl, hbw, hall⟩ := hrel
    by_cases hlt : k < n
    · obtain ⟨b, o, x, rfl, hb, hx, hc⟩ := hr.el (fun _ => rfl) (by decide) HN.out hlt
      have c0 := (hbw.cell (p := ⟨b, o + k * 2, none⟩) hb).trans (hc 0 _ rfl)
      have c1 := (hbw.cell (p := ⟨b, o + k * 2 + 1, none⟩) hb).trans (hc 1 _ rfl)
      have HX := Lib.hid hx
      have hsz := hbw.size
      clear hx hc
      by_cases e1 : 0 ≤ x.at_
      · cases e2 : inB x.ln 0 4096
        · go_wp2_with (go_at_call 78; refine (calls_bool (between_c _ _ _ _) e2).mono ?_; rintro e w1 ⟨rfl, rfl⟩)
          go_ret
          exact ⟨ret_bool (by simp [piecesB, all_at HX.out (show pieceB x = false by simp [pieceB, e2])]), by go_grown⟩
        · have HP : Hid (pieceB x = true) := by simp [Hid, pieceB, e1, e2]
          go_wp2_with (go_at_call 78; refine (calls_bool (between_c _ _ _ _) e2).mono ?_; rintro e w1 ⟨rfl, rfl⟩)
          go_roundw
          case rel => exact ⟨k + 1, by omega, by go_num, by go_grown, all_take hall HX.out HP⟩
          case measure => simp [intOf]; omega
      · go_wp2_with (go_at_call 78; refine (calls_bool (between_c _ _ _ _) rfl).mono ?_; rintro e w1 ⟨rfl, rfl⟩)
        go_ret
        exact ⟨ret_bool (by simp [piecesB, all_at HX.out (show pieceB x = false by simp [pieceB]; omega)]), by go_grown⟩
    · go_wp2
      go_ret
      exact ⟨ret_bool (by have h := hall.out; rw [take_all HN.out hlt] at h; have h2 := HN.out; simp [piecesB, h]; omega), by go_grown⟩
set_option maxHeartbeats 1000000 in
theorem specPiecesOk_c (A : Option Addr) (n c : Nat) (l : List Piece) (w : World) (hn : l.length = n) (hm : n ≤ 140737488355328) (hr : Reads w w.heap.size 2 A n (l.flatMap Piece.cells)) :
    Calls Try.prog 98 #[.slice A n c] w fun e w' => e = .returned (.bool (piecesB l)) ∧ Below w.heap.size w w' := by
  have HN := Lib.hid hn
  clear hn
  go_enter Try.func98, Try.ntmps98
  go_wp2
  go_loopw [3] (fun i wr => ∃ k : Nat, k ≤ n ∧ i = .int .i64 k ∧ Below w.heap.size w wr ∧ Hid ((l.take k).all pieceB = true)) (fun i _ => n - (intOf i).toNat)
  case atStart => exact ⟨0, Nat.zero_le _, rfl, Below.refl _ _, rfl⟩
  case round =>
    obtain ⟨k, hk, rfl, hbw, hall⟩ := hrel
    by_cases hlt : k < n
    · obtain ⟨b, o, x, rfl, hb, hx, hc⟩ := hr.el (fun _ => rfl) (by decide) HN.out hlt
      have c0 := (hbw.cell (p := ⟨b, o + k * 2, none⟩) hb).trans (hc 0 _ rfl)
      have c1 := (hbw.cell (p := ⟨b, o + k * 2 + 1, none⟩) hb).trans (hc 1 _ rfl)
      have HX := Lib.hid hx
      have hsz := hbw.size
      clear hx hc
      by_cases e1 : 0 ≤ x.at_
      · cases e2 : inB x.ln 0 4096
        · go_wp2_with (go_at_call 121; refine (calls_bool (l01In_c _ _ _ _) e2).mono ?_; rintro e w1 ⟨rfl, rfl⟩)
          go_ret
          exact ⟨ret_bool (by simp [piecesB, all_at HX.out (show pieceB x = false by simp [pieceB, e2])]), by go_grown⟩
        · have HP : Hid (pieceB x = true) := by simp [Hid, pieceB, e1, e2]
          go_wp2_with (go_at_call 121; refine (calls_bool (l01In_c _ _ _ _) e2).mono ?_; rintro e w1 ⟨rfl, rfl⟩)
          go_roundw
          case rel => exact ⟨k + 1, by omega, by go_num, by go_grown, all_take hall HX.out HP⟩
          case measure => simp [intOf]; omega
      · go_wp2_with (go_at_call 121; refine (calls_bool (l01In_c _ _ _ _) rfl).mono ?_; rintro e w1 ⟨rfl, rfl⟩)
        go_ret
        exact ⟨ret_bool (by simp [piecesB, all_at HX.out (show pieceB x = false by simp [pieceB]; omega)]), by go_grown⟩
    · go_wp2
      go_ret
      exact ⟨ret_bool (by have h := hall.out; rw [take_all HN.out hlt] at h; have h2 := HN.out; simp [piecesB, h]; omega), by go_grown⟩
def sumP (l : List Piece) : Int := (l.map (·.ln)).sum
def lenP (l : List Piece) : Int := if piecesB l then sumP l else -1
theorem sumP_next {l : List Piece} {k : Nat} {x : Piece} (hx : l[k]? = some x) : sumP (l.take (k + 1)) = sumP (l.take k) + x.ln := by
  rw [take_next hx]; simp [sumP]
theorem piecesB_el {l : List Piece} (h : piecesB l = true) {k : Nat} {x : Piece} (hx : l[k]? = some x) : 0 ≤ x.at_ ∧ 0 ≤ x.ln ∧ x.ln ≤ 4096 := by
  simp only [piecesB, Bool.and_eq_true, List.all_eq_true] at h
  have := h.1 x (List.mem_of_getElem? hx)
  simp [pieceB, inB] at this
  omega
theorem piecesB_len {l : List Piece} (h : piecesB l = true) : l.length ≤ 16 := by
  simp only [piecesB, Bool.and_eq_true, decide_eq_true_eq] at h
  exact h.2
theorem sumP_bd {l : List Piece} (h : piecesB l = true) : ∀ k, k ≤ l.length → 0 ≤ sumP (l.take k) ∧ sumP (l.take k) ≤ k * 4096
  | 0, _ => by simp [sumP]
  | k + 1, hk => by
    have hx : l[k]? = some l[k] := List.getElem?_eq_getElem (by omega)
    have h1 := sumP_bd h k (by omega)
    have h2 := piecesB_el h hx
    rw [sumP_next hx]
    omega
set_option maxHeartbeats 1000000 in
theorem implPiecesLength_c (A : Option Addr) (n c : Nat) (l : List Piece) (w : World) (hn : l.length = n) (hm : n ≤ 140737488355328) (hr : Reads w w.heap.size 2 A n (l.flatMap Piece.cells)) :
    Calls Try.prog 45 #[.slice A n c] w fun e w' => e = .returned (.int .i64 (lenP l)) ∧ Below w.heap.size w w' := by
  have HN := Lib.hid hn
  clear hn
  cases hok : piecesB l
  · go_enter Try.func45, Try.ntmps45
    go_wp2_with (go_at_call 104; refine (calls_bool (implPiecesOk_c _ _ _ _ _ HN.out hm hr) hok).mono ?_; rintro e w0 ⟨rfl, hk0⟩)
    go_ret
    exact ⟨ret_int (by simp [lenP, hok]), hk0⟩
  · have HO := Lib.hid (show piecesB l = true from hok)
    have hl16 : n ≤ 16 := by rw [← HN.out]; exact piecesB_len hok
    go_enter Try.func45, Try.ntmps45
    go_wp2_with (go_at_call 104; refine (calls_bool (implPiecesOk_c _ _ _ _ _ HN.out hm hr) hok).mono ?_; rintro e w0 ⟨rfl, hk0⟩)
    clear hok
    go_loopw [3, 11] (fun s i wr => ∃ k : Nat, k ≤ n ∧ i = .int .i64 k ∧ s = .int .i64 (sumP (l.take k)) ∧ Below w.heap.size w wr) (fun _ i _ => n - (intOf i).toNat)
    case atStart => exact ⟨0, Nat.zero_le _, rfl, rfl, hk0⟩
    case round =>
      obtain ⟨k, hk, rfl, rfl, hbw⟩ := hrel
      have hsz := hbw.size
      obtain ⟨s1, s2⟩ := sumP_bd HO.out k (by rw [HN.out]; exact hk)
      by_cases hlt : k < n
      · obtain ⟨b, o, x, rfl, hb, hxx, hcx⟩ := hr.el (fun _ => rfl) (by decide) HN.out hlt
        have c0 := (hbw.cell (p := ⟨b, o + k * 2, none⟩) hb).trans (by simpa using hcx 0 _ rfl)
        have c1 := (hbw.cell (p := ⟨b, o + k * 2 + 1, none⟩) hb).trans (by simpa using hcx 1 _ rfl)
        have HXx := Lib.hid hxx
        clear hxx hcx
        obtain ⟨p1, p2, p3⟩ := piecesB_el HO.out HXx.out
        go_wp2
        go_roundw
        case rel => exact ⟨k + 1, by omega, by go_num, by rw [sumP_next HXx.out], by go_grown⟩
        case measure => simp [intOf]; omega
      · go_wp2
        go_ret
        exact ⟨ret_int (by rw [take_all HN.out hlt]; simp [lenP, HO.out]), hbw⟩
set_option maxHeartbeats 1000000 in
theorem specPiecesLength_c (A : Option Addr) (n c : Nat) (l : List Piece) (w : World) (hn : l.length = n) (hm : n ≤ 140737488355328) (hr : Reads w w.heap.size 2 A n (l.flatMap Piece.cells)) :
    Calls Try.prog 42 #[.slice A n c] w fun e w' => e = .returned (.int .i64 (lenP l)) ∧ Below w.heap.size w w' := by
  have HN := Lib.hid hn
  clear hn
  cases hok : piecesB l
  · go_enter Try.func42, Try.ntmps42
    go_wp2_with (go_at_call 98; refine (calls_bool (specPiecesOk_c _ _ _ _ _ HN.out hm hr) hok).mono ?_; rintro e w0 ⟨rfl, hk0⟩)
    go_ret
    exact ⟨ret_int (by simp [lenP, hok]), hk0⟩
  · have HO := Lib.hid (show piecesB l = true from hok)
    have hl16 : n ≤ 16 := by rw [← HN.out]; exact piecesB_len hok
    go_enter Try.func42, Try.ntmps42
    go_wp2_with (go_at_call 98; refine (calls_bool (specPiecesOk_c _ _ _ _ _ HN.out hm hr) hok).mono ?_; rintro e w0 ⟨rfl, hk0⟩)
    clear hok
    go_loopw [3, 4] (fun s i wr => ∃ k : Nat, k ≤ n ∧ i = .int .i64 k ∧ s = .int .i64 (sumP (l.take k)) ∧ Below w.heap.size w wr) (fun _ i _ => n - (intOf i).toNat)
    case atStart => exact ⟨0, Nat.zero_le _, rfl, rfl, hk0⟩
    case round =>
      obtain ⟨k, hk, rfl, rfl, hbw⟩ := hrel
      have hsz := hbw.size
      obtain ⟨s1, s2⟩ := sumP_bd HO.out k (by rw [HN.out]; exact hk)
      by_cases hlt : k < n
      · obtain ⟨b, o, x, rfl, hb, hxx, hcx⟩ := hr.el (fun _ => rfl) (by decide) HN.out hlt
        have c0 := (hbw.cell (p := ⟨b, o + k * 2, none⟩) hb).trans (by simpa using hcx 0 _ rfl)
        have c1 := (hbw.cell (p := ⟨b, o + k * 2 + 1, none⟩) hb).trans (by simpa using hcx 1 _ rfl)
        have HXx := Lib.hid hxx
        clear hxx hcx
        obtain ⟨p1, p2, p3⟩ := piecesB_el HO.out HXx.out
        go_wp2
        go_roundw
        case rel => exact ⟨k + 1, by omega, by go_num, by rw [sumP_next HXx.out], by go_grown⟩
        case measure => simp [intOf]; omega
      · go_wp2
        go_ret
        exact ⟨ret_int (by rw [take_all HN.out hlt]; simp [lenP, HO.out]), hbw⟩
end Go.Proofs.Ytnnlagmgdfhaiaa
