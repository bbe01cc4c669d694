/- Contracts of ReadMemory: impl and spec. -/
import Derived.Test.YtnnlagmgdfhaiaaWithin
import Derived.Test.YtnnlagmgdfhaiaaBytes
namespace Go.Proofs.Ytnnlagmgdfhaiaa
set_option linter.unusedSimpArgs false
set_option linter.unusedVariables false
open Go.RowKit Go.ChangeShapes Go.WideShapes
open Go.Lib (strCells strCells_length strCells_oneCell)
theorem own_app {w : World} {base n : Nat} {e : TypeId} {v : Value} {B s s' : ByteArray} (h : w.ownsRow base e 1 v n (strCells B ++ strCells s)) (hs : s = s') (hn : n = B.size + s'.size) : w.ownsRow base e 1 v (B ++ s').size (strCells (B ++ s')) := by
  subst hs; subst hn
  rw [strCells_append, ByteArray.size_append]; exact h
def partN (a n : Nat) : Nat := min n (128 - a % 128)
/-- The bytes from a on. -/
def readG (l : List ByteArray) : Nat → Nat → Nat → ByteArray → ByteArray
  | 0, _, _, out => out
  | f + 1, a, n, out => if 0 < n then readG l f (a + partN a n) (n - partN a n) (out ++ (l.getD (a / 128) ByteArray.empty).extract (a % 128) (a % 128 + partN a n)) else out
def readB (l : List ByteArray) (at_ n : Int) : ByteArray := if withB l at_ n then readG l (n.toNat + 1) at_.toNat n.toNat ByteArray.empty else ByteArray.empty
set_option maxRecDepth 100000 in
set_option maxHeartbeats 2000000 in
theorem implReadMemory_c (A : Option Addr) (n c : Nat) (l : List ByteArray) (w : World) (hn : l.length = n) (hm : n ≤ 140737488355328) (hr : Reads w w.heap.size 1 A n (l.flatMap fun x : ByteArray => [Value.string x])) (at_ x : Int) (h1 : I64 at_) (h2 : I64 x) :
    Calls Try.prog 25 #[.agg #[.slice A n c], .int .i64 at_, .int .i64 x] w fun e w' => e = .returned (.tuple #[.string (readB l at_ x), .bool (withB l at_ x)]) ∧ Below w.heap.size w w' := by
  cases e1 : withB l at_ x
  · go_enter Try.func25, Try.ntmps25
    go_wp2_with (go_at_call 86; refine (calls_bool (implWithin_c _ _ _ l _ hn hm (hr.to (by go_grown)) _ _ h1 h2) (by assumption)).mono ?_; rintro e w1 ⟨rfl, hb⟩; obtain ⟨c0, f0, z0⟩ := own_cell hb (b := w.heap.size) (o := 0) (v := .slice A n c) (by simp [go_sem]) (by simp [go_sem]); have hk : Below w.heap.size w w1 := ext_step (by go_grown) (by go_size) hb; clear hb)
    refine bodyPost_ret (v := .tuple #[.string ⟨#[]⟩, .bool false]) (by simp [results, Try.results25, go_sem]) rfl ?_
    exact ⟨by rw [readB, e1]; rfl, hk⟩
  · obtain ⟨e2, b1, b2, b3⟩ := withB_t e1
    obtain ⟨i0, hi, hz0, hz1, hz2⟩ := info_parts info_u8'
    obtain ⟨m, rfl⟩ := Int.eq_ofNat_of_zero_le b1
    obtain ⟨a, rfl⟩ := Int.eq_ofNat_of_zero_le b2
    have ll := memB_len e2
    rw [hn] at ll b3
    have hmk := fun W => run_make_rowN (P := Try.prog) 22 5 i0 _ 1 1 Try.underlying22 hi hz0 hz1 hz2 0 m (Nat.zero_le _) (by omega) (by omega) W
    rw [show ((0 : Nat) : Int) = 0 from rfl] at hmk
    have hsz0 := madeCells_len (.int .u8 0 : Value).cells (m * 1)
    have HZ := Lib.hid hsz0
    generalize (madeCells (.int .u8 0 : Value).cells (m * 1)).toList = z at *
    clear hsz0
    go_enter Try.func25, Try.ntmps25
    go_wp2_with (go_at_call 86; refine (calls_bool (implWithin_c _ _ _ l _ hn hm (hr.to (by go_grown)) _ _ h1 h2) (by assumption)).mono ?_; rintro e w1 ⟨rfl, hb⟩; obtain ⟨c0, f0, z0⟩ := own_cell hb (b := w.heap.size) (o := 0) (v := .slice A n c) (by simp [go_sem]) (by simp [go_sem]); have hk : Below w.heap.size w w1 := ext_step (by go_grown) (by go_size) hb; clear hb)
    go_loopw [1, 8] (fun av ov wr => ∃ (f a' m' : Nat) (v : Value) (B : ByteArray), av = .int .i64 a' ∧ ov = v ∧ wr.ownsRow (w.heap.size + 1) 5 1 v B.size (strCells B) ∧ B.size + m' = m ∧ a' + m' ≤ 128 * n ∧ m' < f ∧ Hid (readG l f a' m' B = readG l (m + 1) a m ByteArray.empty) ∧ Below w.heap.size w wr ∧ wr.cell? ⟨w.heap.size, 0, none⟩ = some (.slice A n c)) (fun av _ _ => 128 * n - (intOf av).toNat)
    case atStart => exact ⟨m + 1, a, m, _, ByteArray.empty, rfl, rfl, (Blk.new _ _ _).own0 (by omega) HZ.out (by unfold maxLen; omega), by simp, by omega, by omega, rfl, by go_grown, by rw [World.cell?_alloc_lt _ _ _ z0]; exact c0⟩
    case round =>
      obtain ⟨f, a', m', v, B, rfl, rfl, hown, hBm, ham, hmf, hG, hbw, hc0⟩ := hrel
      have hsz := hbw.size
      have hsz1 : w.heap.size + 1 ≤ wr.heap.size := cell_block_lt hc0
      have HN := Lib.hid hn
      obtain ⟨A2, c2, rfl, hr2, hl2, hm2⟩ := own_form hown
      by_cases hlt : 0 < m'
      · obtain ⟨b, o, x, rfl, hb, hxx, hcx⟩ := hr.el (fun _ => rfl) (by decide) HN.out (show a' / 128 < n by omega)
        have c0 := (hbw.cell (p := ⟨b, o + a' / 128, none⟩) hb).trans (by simpa using hcx 0 _ rfl)
        have HXx := Lib.hid hxx
        clear hxx hcx
        have hx128 := memB_el e2 HXx.out
        have hxs : ∀ i j, (x.extract i j).size = min j 128 - i := fun i j => by rw [ByteArray.size_extract, hx128]
        go_wp2_with (at_builtin; refine Go.Lib.wpList_append_own_string _ rfl _ _ 22 9 rfl (w.heap.size + 1) 5 i0 Try.underlying22 Try.underlying9 hi hz0 hz1 hz2 _ _ _ rfl hown _ rfl ?c1 ?c2 ?c3 ?_)
        all_goals try exact hsz1
        all_goals try (unfold maxLen; omega)
        all_goals try omega
        all_goals
          intro v1 w2 hown1 hg1 _
          have hown2 := own_app (s' := x.extract (a' % 128) (a' % 128 + partN a' m')) hown1 (by congr 1; unfold partN; omega) (by rw [hxs]; unfold partN; omega)
          have hb2 : Below w.heap.size w w2 := below_app hbw (own_base hown (Nat.le_succ _)) hg1 hsz
          have hc2 := cell_off hg1 hc0 (fun g hg => by have := (hown.lt g hg).1; omega)
          have hp1 : partN a' m' ≤ m' := Nat.min_le_left _ _
          have hp2 : 0 < partN a' m' := by unfold partN; omega
          obtain ⟨f, rfl⟩ : ∃ f', f = f' + 1 := ⟨f - 1, by omega⟩
          have hG2 := hG.out
          rw [readG, if_pos hlt, List.getD_eq_getElem?_getD, HXx.out, Option.getD_some] at hG2
          have HG2 := Lib.hid hG2
          clear hown1 hG2 hG
          go_wp2
          go_roundw
          case rel => exact ⟨f, a' + partN a' m', m' - partN a' m', v1, B ++ x.extract (a' % 128) (a' % 128 + partN a' m'), by congr 1; unfold partN; omega, rfl, hown2, by rw [ByteArray.size_append, hxs]; unfold partN; omega, by omega, by omega, HG2, hb2, hc2⟩
          case measure => simp [intOf]; omega
      · have hm0 : m' = 0 := by omega
        subst hm0
        have hG2 := hG.out
        have hBr : B = readB l a m := by
          rw [readB, e1, if_pos rfl, Int.toNat_natCast, Int.toNat_natCast, ← hG2]
          cases f with
          | zero => rfl
          | succ f => rw [readG, if_neg (by omega)]
        have HBr := Lib.hid hBr
        have hcv := own_to_string hown
        clear hG2 hG hBr
        go_wp2
        refine bodyPost_ret (v := .tuple #[.string B, .bool true]) (by simp [results, Try.results25, go_sem]) rfl ?_
        exact ⟨by rw [HBr.out], hbw⟩
set_option maxRecDepth 100000 in
set_option maxHeartbeats 2000000 in
theorem specReadMemory_c (A : Option Addr) (n c : Nat) (l : List ByteArray) (w : World) (hn : l.length = n) (hm : n ≤ 140737488355328) (hr : Reads w w.heap.size 1 A n (l.flatMap fun x : ByteArray => [Value.string x])) (at_ x : Int) (h1 : I64 at_) (h2 : I64 x) :
    Calls Try.prog 27 #[.agg #[.slice A n c], .int .i64 at_, .int .i64 x] w fun e w' => e = .returned (.tuple #[.string (readB l at_ x), .bool (withB l at_ x)]) ∧ Below w.heap.size w w' := by
  cases e1 : withB l at_ x
  · go_enter Try.func27, Try.ntmps27
    go_wp2_with (go_at_call 88; refine (calls_bool (specWithin_c _ _ _ l _ hn hm (hr.to (by go_grown)) _ _ h1 h2) (by assumption)).mono ?_; rintro e w1 ⟨rfl, hb⟩; obtain ⟨c0, f0, z0⟩ := own_cell hb (b := w.heap.size) (o := 0) (v := .slice A n c) (by simp [go_sem]) (by simp [go_sem]); have hk : Below w.heap.size w w1 := ext_step (by go_grown) (by go_size) hb; clear hb)
    refine bodyPost_ret (v := .tuple #[.string ⟨#[]⟩, .bool false]) (by simp [results, Try.results27, go_sem]) rfl ?_
    exact ⟨by rw [readB, e1]; rfl, hk⟩
  · obtain ⟨e2, b1, b2, b3⟩ := withB_t e1
    obtain ⟨m, rfl⟩ := Int.eq_ofNat_of_zero_le b1
    obtain ⟨a, rfl⟩ := Int.eq_ofNat_of_zero_le b2
    have ll := memB_len e2
    rw [hn] at ll b3
    go_enter Try.func27, Try.ntmps27
    go_wp2_with (go_at_call 88; refine (calls_bool (specWithin_c _ _ _ l _ hn hm (hr.to (by go_grown)) _ _ h1 h2) (by assumption)).mono ?_; rintro e w1 ⟨rfl, hb⟩; obtain ⟨c0, f0, z0⟩ := own_cell hb (b := w.heap.size) (o := 0) (v := .slice A n c) (by simp [go_sem]) (by simp [go_sem]); have hk : Below w.heap.size w w1 := ext_step (by go_grown) (by go_size) hb; clear hb)
    go_loopw [1, 2, 8] (fun av nv ov wr => ∃ (f a' m' : Nat) (B : ByteArray), av = .int .i64 a' ∧ nv = .int .i64 m' ∧ ov = .string B ∧ B.size + m' = m ∧ a' + m' ≤ 128 * n ∧ m' < f ∧ Hid (readG l f a' m' B = readG l (m + 1) a m ByteArray.empty) ∧ Below w.heap.size w wr ∧ wr.cell? ⟨w.heap.size, 0, none⟩ = some (.slice A n c)) (fun av _ _ _ => 128 * n - (intOf av).toNat)
    case atStart => exact ⟨m + 1, a, m, ByteArray.empty, rfl, rfl, rfl, by simp, by omega, by omega, rfl, by go_grown, c0⟩
    case round =>
      obtain ⟨f, a', m', B, rfl, rfl, rfl, hBm, ham, hmf, hG, hbw, hc0⟩ := hrel
      have hsz := hbw.size
      have HN := Lib.hid hn
      by_cases hlt : 0 < m'
      · obtain ⟨b, o, x, rfl, hb, hxx, hcx⟩ := hr.el (fun _ => rfl) (by decide) HN.out (show a' / 128 < n by omega)
        have c0 := (hbw.cell (p := ⟨b, o + a' / 128, none⟩) hb).trans (by simpa using hcx 0 _ rfl)
        have HXx := Lib.hid hxx
        clear hxx hcx
        have hx128 := memB_el e2 HXx.out
        have hxs : ∀ i j, (x.extract i j).size = min j 128 - i := fun i j => by rw [ByteArray.size_extract, hx128]
        have hp1 : partN a' m' ≤ m' := Nat.min_le_left _ _
        have hp2 : 0 < partN a' m' := by unfold partN; omega
        obtain ⟨f, rfl⟩ : ∃ f', f = f' + 1 := ⟨f - 1, by omega⟩
        have hG2 := hG.out
        rw [readG, if_pos hlt, List.getD_eq_getElem?_getD, HXx.out, Option.getD_some] at hG2
        have HG2 := Lib.hid hG2
        clear hG2 hG
        go_wp2
        go_roundw
        case rel =>
          have hd : (if 128 - (a' : Int) % 128 < (m' : Int) then 128 - (a' : Int) % 128 else (m' : Int)) = (partN a' m' : Nat) := by unfold partN; split <;> omega
          rw [hd]
          exact ⟨f, a' + partN a' m', m' - partN a' m', B ++ x.extract (a' % 128) (a' % 128 + partN a' m'), by congr 1 <;> omega, by congr 1 <;> omega, by congr 3 <;> omega, by rw [ByteArray.size_append, hxs]; unfold partN; omega, by omega, by omega, HG2, hbw, hc0⟩
        case measure =>
          have hd : (if 128 - (a' : Int) % 128 < (m' : Int) then 128 - (a' : Int) % 128 else (m' : Int)) = (partN a' m' : Nat) := by unfold partN; split <;> omega
          simp only [hd]
          simp [intOf]; omega
      · have hm0 : m' = 0 := by omega
        subst hm0
        have hG2 := hG.out
        have hBr : B = readB l a m := by
          rw [readB, e1, if_pos rfl, Int.toNat_natCast, Int.toNat_natCast, ← hG2]
          cases f with
          | zero => rfl
          | succ f => rw [readG, if_neg (by omega)]
        have HBr := Lib.hid hBr
        clear hG2 hG hBr
        go_wp2
        refine bodyPost_ret (v := .tuple #[.string B, .bool true]) (by simp [results, Try.results27, go_sem]) rfl ?_
        exact ⟨by rw [HBr.out], hbw⟩
end Go.Proofs.Ytnnlagmgdfhaiaa
