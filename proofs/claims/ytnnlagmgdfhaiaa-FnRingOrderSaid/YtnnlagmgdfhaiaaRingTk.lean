/- Contracts of RingTake: impl and spec. -/
import Derived.Test.YtnnlagmgdfhaiaaSlotAddr
import Derived.Test.YtnnlagmgdfhaiaaDmaRead
import Derived.Deep.RegionHeld3
namespace Go.Proofs.Ytnnlagmgdfhaiaa
set_option linter.unusedSimpArgs false
set_option linter.unusedVariables false
open Go.RowKit Go.ChangeShapes Go.WideShapes
section
variable (l : List Mapping) (pg : List ByteArray) (d base size head tail : Int)
def takeB : Bool := ringB base size head tail && (!(usedI size head tail == 0) && dmaOk l pg d (slotI base size head tail head) 16 false)
def takeS : ByteArray := if takeB l pg d base size head tail then dmaR l pg d (slotI base size head tail head) 16 else ⟨#[]⟩
def takeH : Int := if takeB l pg d base size head tail then (head + 1) % (2 * size) else head
end
section
variable {l : List Mapping} {pg : List ByteArray} {d base size head tail : Int}
theorem take_no (h : takeB l pg d base size head tail = false) : takeS l pg d base size head tail = ⟨#[]⟩ ∧ takeH l pg d base size head tail = head := by
  rw [takeS, takeH, h]; exact ⟨rfl, rfl⟩
theorem take_yes (h : takeB l pg d base size head tail = true) : takeS l pg d base size head tail = dmaR l pg d (slotI base size head tail head) 16 ∧ takeH l pg d base size head tail = (head + 1) % (2 * size) := by
  rw [takeS, takeH, h]; exact ⟨rfl, rfl⟩
theorem slotI_bd {count : Int} (h : ringB base size head tail = true) (h0 : 0 ≤ count) (h1 : count ≤ 9223372036854775807) : 0 ≤ slotI base size head tail count ∧ slotI base size head tail count ≤ 131184 := by
  obtain ⟨z1, z2, z3, z4, _⟩ := ringB_size h
  have m1 := Int.emod_nonneg count (show size ≠ 0 by omega)
  have m2 := Int.emod_lt_of_pos count (show 0 < size by omega)
  rw [slotI, h, show decide (0 ≤ count) = true from by simpa using h0, Bool.and_self, if_pos rfl]
  omega
end
set_option maxRecDepth 100000 in
set_option maxHeartbeats 4000000 in
theorem implRingTake_c (A A' : Option Addr) (n c n' c' : Nat) (l : List Mapping) (pg : List ByteArray) (w : World) (hn : l.length = n) (hn' : pg.length = n') (hm : n ≤ 1048576) (hm' : n' ≤ 1048576) (hr : Reads w w.heap.size 4 A n (l.flatMap Mapping.cells)) (hr' : Reads w w.heap.size 1 A' n' (pg.flatMap fun x : ByteArray => [Value.string x])) (d base size head tail : Int) (hh : I64 head) (ht : I64 tail) :
    Calls Try.prog 58 #[.slice A n c, .agg #[.slice A' n' c'], .int .i64 d, .agg #[.int .i64 base, .int .i64 size, .int .i64 head, .int .i64 tail]] w fun e w' => e = .returned (.tuple #[.string (takeS l pg d base size head tail), .agg #[.int .i64 base, .int .i64 size, .int .i64 (takeH l pg d base size head tail), .int .i64 tail], .bool (takeB l pg d base size head tail)]) ∧ Below w.heap.size w w' := by
  cases hok : ringB base size head tail
  · have hg : takeB l pg d base size head tail = false := by rw [takeB, hok]; rfl
    rw [hg, (take_no hg).1, (take_no hg).2]
    clear hg
    go_enter Try.func58, Try.ntmps58
    go_wp2_with fail
    refine (calls_bool (implRingOk_c _ _ _ _ _ hh ht) hok).mono ?_
    rintro e w1 ⟨rfl, hb⟩
    obtain ⟨m0, fm0, zm0⟩ := own_cell hb (b := w.heap.size) (o := 0) (v := .slice A' n' c') (by first | assumption | (simp [go_sem]; done) | (simp [go_sem, *]; done)) (by first | assumption | (simp [go_sem]; done) | (simp [go_sem, *]; done))
    obtain ⟨r0, fr0, zr0⟩ := own_cell hb (b := w.heap.size + 1) (o := 0) (v := .int .i64 base) (by first | assumption | (simp [go_sem]; done) | (simp [go_sem, *]; done)) (by first | assumption | (simp [go_sem]; done) | (simp [go_sem, *]; done))
    obtain ⟨r1, fr1, zr1⟩ := own_cell hb (b := w.heap.size + 1) (o := 1) (v := .int .i64 size) (by first | assumption | (simp [go_sem]; done) | (simp [go_sem, *]; done)) (by first | assumption | (simp [go_sem]; done) | (simp [go_sem, *]; done))
    obtain ⟨r2, fr2, zr2⟩ := own_cell hb (b := w.heap.size + 1) (o := 2) (v := .int .i64 head) (by first | assumption | (simp [go_sem]; done) | (simp [go_sem, *]; done)) (by first | assumption | (simp [go_sem]; done) | (simp [go_sem, *]; done))
    obtain ⟨r3, fr3, zr3⟩ := own_cell hb (b := w.heap.size + 1) (o := 3) (v := .int .i64 tail) (by first | assumption | (simp [go_sem]; done) | (simp [go_sem, *]; done)) (by first | assumption | (simp [go_sem]; done) | (simp [go_sem, *]; done))
    obtain ⟨o0, fo0, zo0⟩ := own_cell hb (b := w.heap.size + 1 + 1) (o := 0) (v := .int .i64 0) (by first | assumption | (simp [go_sem]; done) | (simp [go_sem, *]; done)) (by first | assumption | (simp [go_sem]; done) | (simp [go_sem, *]; done))
    obtain ⟨o1, fo1, zo1⟩ := own_cell hb (b := w.heap.size + 1 + 1) (o := 1) (v := .int .i64 0) (by first | assumption | (simp [go_sem]; done) | (simp [go_sem, *]; done)) (by first | assumption | (simp [go_sem]; done) | (simp [go_sem, *]; done))
    obtain ⟨o2, fo2, zo2⟩ := own_cell hb (b := w.heap.size + 1 + 1) (o := 2) (v := .int .i64 0) (by first | assumption | (simp [go_sem]; done) | (simp [go_sem, *]; done)) (by first | assumption | (simp [go_sem]; done) | (simp [go_sem, *]; done))
    obtain ⟨o3, fo3, zo3⟩ := own_cell hb (b := w.heap.size + 1 + 1) (o := 3) (v := .int .i64 0) (by first | assumption | (simp [go_sem]; done) | (simp [go_sem, *]; done)) (by first | assumption | (simp [go_sem]; done) | (simp [go_sem, *]; done))
    have k1 : Below w.heap.size w w1 := ext_step (by go_grown) (by go_size) hb
    clear hb
    go_wp2
    go_region
    all_goals
      go_wp2
      refine bodyPost_ret (v := .tuple #[.string (⟨#[]⟩), .agg #[.int .i64 base, .int .i64 size, .int .i64 (head), .int .i64 tail], .bool false]) (by simp [results, Try.results58, go_sem, *]) rfl ?_
      exact ⟨rfl, by go_grown⟩
  · obtain ⟨b1, b2, b3, b4, b5, b6, b7, b8, b9⟩ := ringB_size hok
    have hp : (2 * size == 0) = false := by simp; omega
    have hsb := slotI_bd hok b5 (by omega)
    have hI1 : I64 (slotI base size head tail head) := ⟨by omega, by omega⟩
    have hI2 : I64 16 := ⟨by omega, by omega⟩
    clear hsb
    have hu1 := usedI_bd size head tail
    by_cases hu : usedI size head tail = 0
    · have hg : takeB l pg d base size head tail = false := by rw [takeB, hu]; simp
      rw [hg, (take_no hg).1, (take_no hg).2]
      clear hg
      have hu2 : (usedI size head tail == 0) = true := by rw [hu]; rfl
      clear hu
      go_enter Try.func58, Try.ntmps58
      go_wp2_with fail
      refine (calls_bool (implRingOk_c _ _ _ _ _ hh ht) hok).mono ?_
      rintro e w1 ⟨rfl, hb⟩
      obtain ⟨m0, fm0, zm0⟩ := own_cell hb (b := w.heap.size) (o := 0) (v := .slice A' n' c') (by first | assumption | (simp [go_sem]; done) | (simp [go_sem, *]; done)) (by first | assumption | (simp [go_sem]; done) | (simp [go_sem, *]; done))
      obtain ⟨r0, fr0, zr0⟩ := own_cell hb (b := w.heap.size + 1) (o := 0) (v := .int .i64 base) (by first | assumption | (simp [go_sem]; done) | (simp [go_sem, *]; done)) (by first | assumption | (simp [go_sem]; done) | (simp [go_sem, *]; done))
      obtain ⟨r1, fr1, zr1⟩ := own_cell hb (b := w.heap.size + 1) (o := 1) (v := .int .i64 size) (by first | assumption | (simp [go_sem]; done) | (simp [go_sem, *]; done)) (by first | assumption | (simp [go_sem]; done) | (simp [go_sem, *]; done))
      obtain ⟨r2, fr2, zr2⟩ := own_cell hb (b := w.heap.size + 1) (o := 2) (v := .int .i64 head) (by first | assumption | (simp [go_sem]; done) | (simp [go_sem, *]; done)) (by first | assumption | (simp [go_sem]; done) | (simp [go_sem, *]; done))
      obtain ⟨r3, fr3, zr3⟩ := own_cell hb (b := w.heap.size + 1) (o := 3) (v := .int .i64 tail) (by first | assumption | (simp [go_sem]; done) | (simp [go_sem, *]; done)) (by first | assumption | (simp [go_sem]; done) | (simp [go_sem, *]; done))
      obtain ⟨o0, fo0, zo0⟩ := own_cell hb (b := w.heap.size + 1 + 1) (o := 0) (v := .int .i64 0) (by first | assumption | (simp [go_sem]; done) | (simp [go_sem, *]; done)) (by first | assumption | (simp [go_sem]; done) | (simp [go_sem, *]; done))
      obtain ⟨o1, fo1, zo1⟩ := own_cell hb (b := w.heap.size + 1 + 1) (o := 1) (v := .int .i64 0) (by first | assumption | (simp [go_sem]; done) | (simp [go_sem, *]; done)) (by first | assumption | (simp [go_sem]; done) | (simp [go_sem, *]; done))
      obtain ⟨o2, fo2, zo2⟩ := own_cell hb (b := w.heap.size + 1 + 1) (o := 2) (v := .int .i64 0) (by first | assumption | (simp [go_sem]; done) | (simp [go_sem, *]; done)) (by first | assumption | (simp [go_sem]; done) | (simp [go_sem, *]; done))
      obtain ⟨o3, fo3, zo3⟩ := own_cell hb (b := w.heap.size + 1 + 1) (o := 3) (v := .int .i64 0) (by first | assumption | (simp [go_sem]; done) | (simp [go_sem, *]; done)) (by first | assumption | (simp [go_sem]; done) | (simp [go_sem, *]; done))
      have k1 : Below w.heap.size w w1 := ext_step (by go_grown) (by go_size) hb
      clear hb
      go_wp2_with fail
      refine (implRingUsed_c _ _ _ _ _ hh ht).mono ?_
      rintro e w2 ⟨rfl, hb⟩
      obtain ⟨m0, fm0, zm0⟩ := own_cell hb m0 fm0
      obtain ⟨r0, fr0, zr0⟩ := own_cell hb r0 fr0
      obtain ⟨r1, fr1, zr1⟩ := own_cell hb r1 fr1
      obtain ⟨r2, fr2, zr2⟩ := own_cell hb r2 fr2
      obtain ⟨r3, fr3, zr3⟩ := own_cell hb r3 fr3
      obtain ⟨o0, fo0, zo0⟩ := own_cell hb o0 fo0
      obtain ⟨o1, fo1, zo1⟩ := own_cell hb o1 fo1
      obtain ⟨o2, fo2, zo2⟩ := own_cell hb o2 fo2
      obtain ⟨o3, fo3, zo3⟩ := own_cell hb o3 fo3
      have k2 := ext_step k1 k1.size hb
      clear hb
      go_wp2
      go_region
      all_goals
        go_wp2
        refine bodyPost_ret (v := .tuple #[.string (⟨#[]⟩), .agg #[.int .i64 base, .int .i64 size, .int .i64 (head), .int .i64 tail], .bool false]) (by simp [results, Try.results58, go_sem, *]) rfl ?_
        exact ⟨rfl, by go_grown⟩
    · have hu2 : (usedI size head tail == 0) = false := by simpa using hu
      have m1 := Int.emod_nonneg (head + 1) (show 2 * size ≠ 0 by omega)
      have m2 := Int.emod_lt_of_pos (head + 1) (show 0 < 2 * size by omega)
      cases hd : dmaOk l pg d (slotI base size head tail head) 16 false
      · have hg : takeB l pg d base size head tail = false := by rw [takeB, hd]; simp
        rw [hg, (take_no hg).1, (take_no hg).2]
        clear hg
        have HD := Lib.hid hd
        clear hd hu
        go_enter Try.func58, Try.ntmps58
        go_wp2_with fail
        refine (calls_bool (implRingOk_c _ _ _ _ _ hh ht) hok).mono ?_
        rintro e w1 ⟨rfl, hb⟩
        obtain ⟨m0, fm0, zm0⟩ := own_cell hb (b := w.heap.size) (o := 0) (v := .slice A' n' c') (by first | assumption | (simp [go_sem]; done) | (simp [go_sem, *]; done)) (by first | assumption | (simp [go_sem]; done) | (simp [go_sem, *]; done))
        obtain ⟨r0, fr0, zr0⟩ := own_cell hb (b := w.heap.size + 1) (o := 0) (v := .int .i64 base) (by first | assumption | (simp [go_sem]; done) | (simp [go_sem, *]; done)) (by first | assumption | (simp [go_sem]; done) | (simp [go_sem, *]; done))
        obtain ⟨r1, fr1, zr1⟩ := own_cell hb (b := w.heap.size + 1) (o := 1) (v := .int .i64 size) (by first | assumption | (simp [go_sem]; done) | (simp [go_sem, *]; done)) (by first | assumption | (simp [go_sem]; done) | (simp [go_sem, *]; done))
        obtain ⟨r2, fr2, zr2⟩ := own_cell hb (b := w.heap.size + 1) (o := 2) (v := .int .i64 head) (by first | assumption | (simp [go_sem]; done) | (simp [go_sem, *]; done)) (by first | assumption | (simp [go_sem]; done) | (simp [go_sem, *]; done))
        obtain ⟨r3, fr3, zr3⟩ := own_cell hb (b := w.heap.size + 1) (o := 3) (v := .int .i64 tail) (by first | assumption | (simp [go_sem]; done) | (simp [go_sem, *]; done)) (by first | assumption | (simp [go_sem]; done) | (simp [go_sem, *]; done))
        obtain ⟨o0, fo0, zo0⟩ := own_cell hb (b := w.heap.size + 1 + 1) (o := 0) (v := .int .i64 0) (by first | assumption | (simp [go_sem]; done) | (simp [go_sem, *]; done)) (by first | assumption | (simp [go_sem]; done) | (simp [go_sem, *]; done))
        obtain ⟨o1, fo1, zo1⟩ := own_cell hb (b := w.heap.size + 1 + 1) (o := 1) (v := .int .i64 0) (by first | assumption | (simp [go_sem]; done) | (simp [go_sem, *]; done)) (by first | assumption | (simp [go_sem]; done) | (simp [go_sem, *]; done))
        obtain ⟨o2, fo2, zo2⟩ := own_cell hb (b := w.heap.size + 1 + 1) (o := 2) (v := .int .i64 0) (by first | assumption | (simp [go_sem]; done) | (simp [go_sem, *]; done)) (by first | assumption | (simp [go_sem]; done) | (simp [go_sem, *]; done))
        obtain ⟨o3, fo3, zo3⟩ := own_cell hb (b := w.heap.size + 1 + 1) (o := 3) (v := .int .i64 0) (by first | assumption | (simp [go_sem]; done) | (simp [go_sem, *]; done)) (by first | assumption | (simp [go_sem]; done) | (simp [go_sem, *]; done))
        have k1 : Below w.heap.size w w1 := ext_step (by go_grown) (by go_size) hb
        clear hb
        go_wp2_with fail
        refine (implRingUsed_c _ _ _ _ _ hh ht).mono ?_
        rintro e w2 ⟨rfl, hb⟩
        obtain ⟨m0, fm0, zm0⟩ := own_cell hb m0 fm0
        obtain ⟨r0, fr0, zr0⟩ := own_cell hb r0 fr0
        obtain ⟨r1, fr1, zr1⟩ := own_cell hb r1 fr1
        obtain ⟨r2, fr2, zr2⟩ := own_cell hb r2 fr2
        obtain ⟨r3, fr3, zr3⟩ := own_cell hb r3 fr3
        obtain ⟨o0, fo0, zo0⟩ := own_cell hb o0 fo0
        obtain ⟨o1, fo1, zo1⟩ := own_cell hb o1 fo1
        obtain ⟨o2, fo2, zo2⟩ := own_cell hb o2 fo2
        obtain ⟨o3, fo3, zo3⟩ := own_cell hb o3 fo3
        have k2 := ext_step k1 k1.size hb
        clear hb
        go_wp2
        have hdr : Below w2.heap.size w2 w2.drew := (Below.refl _ _).drew
        go_region_held3 (fun w' => w'.cell? ⟨w.heap.size, 0, none⟩ = some (.slice A' n' c') ∧ w'.cell? ⟨w.heap.size + 1, 0, none⟩ = some (.int .i64 base) ∧ w'.cell? ⟨w.heap.size + 1, 1, none⟩ = some (.int .i64 size) ∧ w'.cell? ⟨w.heap.size + 1, 2, none⟩ = some (.int .i64 head) ∧ w'.cell? ⟨w.heap.size + 1, 3, none⟩ = some (.int .i64 tail)) (first | exact ⟨m0, r0, r1, r2, r3⟩ | (simp [go_sem, *]; done))
          (first | (go_at_call 53; refine (implSlotAddress_c _ _ _ _ _ _ hh ht hh).mono ?_; rintro e w3 ⟨rfl, hb⟩; have hb : Below w2.heap.size w2 w3 := below_undrew hb; obtain ⟨m0, fm0, zm0⟩ := own_cell hb m0 fm0; obtain ⟨r0, fr0, zr0⟩ := own_cell hb r0 fr0; obtain ⟨r1, fr1, zr1⟩ := own_cell hb r1 fr1; obtain ⟨r2, fr2, zr2⟩ := own_cell hb r2 fr2; obtain ⟨r3, fr3, zr3⟩ := own_cell hb r3 fr3; obtain ⟨o0, fo0, zo0⟩ := own_cell hb o0 fo0; obtain ⟨o1, fo1, zo1⟩ := own_cell hb o1 fo1; obtain ⟨o2, fo2, zo2⟩ := own_cell hb o2 fo2; obtain ⟨o3, fo3, zo3⟩ := own_cell hb o3 fo3; have k3 := ext_step k2 k2.size hb; clear hb) | (go_at_call 32; refine (implDmaRead_c _ _ _ _ _ _ l pg _ hn hn' hm hm' (hr.to k3) (hr'.to k3) _ _ _ hI1 hI2).mono ?_; rintro e w4 ⟨rfl, hb⟩; rw [HD.out]; obtain ⟨m0, fm0, zm0⟩ := own_cell hb m0 fm0; obtain ⟨r0, fr0, zr0⟩ := own_cell hb r0 fr0; obtain ⟨r1, fr1, zr1⟩ := own_cell hb r1 fr1; obtain ⟨r2, fr2, zr2⟩ := own_cell hb r2 fr2; obtain ⟨r3, fr3, zr3⟩ := own_cell hb r3 fr3; obtain ⟨o0, fo0, zo0⟩ := own_cell hb o0 fo0; obtain ⟨o1, fo1, zo1⟩ := own_cell hb o1 fo1; obtain ⟨o2, fo2, zo2⟩ := own_cell hb o2 fo2; obtain ⟨o3, fo3, zo3⟩ := own_cell hb o3 fo3; have k4 := ext_step k3 k3.size hb; clear hb))
        go_wp2
        go_region
        all_goals
          go_wp2
          refine bodyPost_ret (v := .tuple #[.string (⟨#[]⟩), .agg #[.int .i64 base, .int .i64 size, .int .i64 (head), .int .i64 tail], .bool false]) (by simp [results, Try.results58, go_sem, *]) rfl ?_
          exact ⟨rfl, by go_grown⟩
      · have hg : takeB l pg d base size head tail = true := by rw [takeB, hok, hd, hu2]; rfl
        rw [hg, (take_yes hg).1, (take_yes hg).2]
        clear hg
        have HD := Lib.hid hd
        clear hd hu
        go_enter Try.func58, Try.ntmps58
        go_wp2_with fail
        refine (calls_bool (implRingOk_c _ _ _ _ _ hh ht) hok).mono ?_
        rintro e w1 ⟨rfl, hb⟩
        obtain ⟨m0, fm0, zm0⟩ := own_cell hb (b := w.heap.size) (o := 0) (v := .slice A' n' c') (by first | assumption | (simp [go_sem]; done) | (simp [go_sem, *]; done)) (by first | assumption | (simp [go_sem]; done) | (simp [go_sem, *]; done))
        obtain ⟨r0, fr0, zr0⟩ := own_cell hb (b := w.heap.size + 1) (o := 0) (v := .int .i64 base) (by first | assumption | (simp [go_sem]; done) | (simp [go_sem, *]; done)) (by first | assumption | (simp [go_sem]; done) | (simp [go_sem, *]; done))
        obtain ⟨r1, fr1, zr1⟩ := own_cell hb (b := w.heap.size + 1) (o := 1) (v := .int .i64 size) (by first | assumption | (simp [go_sem]; done) | (simp [go_sem, *]; done)) (by first | assumption | (simp [go_sem]; done) | (simp [go_sem, *]; done))
        obtain ⟨r2, fr2, zr2⟩ := own_cell hb (b := w.heap.size + 1) (o := 2) (v := .int .i64 head) (by first | assumption | (simp [go_sem]; done) | (simp [go_sem, *]; done)) (by first | assumption | (simp [go_sem]; done) | (simp [go_sem, *]; done))
        obtain ⟨r3, fr3, zr3⟩ := own_cell hb (b := w.heap.size + 1) (o := 3) (v := .int .i64 tail) (by first | assumption | (simp [go_sem]; done) | (simp [go_sem, *]; done)) (by first | assumption | (simp [go_sem]; done) | (simp [go_sem, *]; done))
        obtain ⟨o0, fo0, zo0⟩ := own_cell hb (b := w.heap.size + 1 + 1) (o := 0) (v := .int .i64 0) (by first | assumption | (simp [go_sem]; done) | (simp [go_sem, *]; done)) (by first | assumption | (simp [go_sem]; done) | (simp [go_sem, *]; done))
        obtain ⟨o1, fo1, zo1⟩ := own_cell hb (b := w.heap.size + 1 + 1) (o := 1) (v := .int .i64 0) (by first | assumption | (simp [go_sem]; done) | (simp [go_sem, *]; done)) (by first | assumption | (simp [go_sem]; done) | (simp [go_sem, *]; done))
        obtain ⟨o2, fo2, zo2⟩ := own_cell hb (b := w.heap.size + 1 + 1) (o := 2) (v := .int .i64 0) (by first | assumption | (simp [go_sem]; done) | (simp [go_sem, *]; done)) (by first | assumption | (simp [go_sem]; done) | (simp [go_sem, *]; done))
        obtain ⟨o3, fo3, zo3⟩ := own_cell hb (b := w.heap.size + 1 + 1) (o := 3) (v := .int .i64 0) (by first | assumption | (simp [go_sem]; done) | (simp [go_sem, *]; done)) (by first | assumption | (simp [go_sem]; done) | (simp [go_sem, *]; done))
        have k1 : Below w.heap.size w w1 := ext_step (by go_grown) (by go_size) hb
        clear hb
        go_wp2_with fail
        refine (implRingUsed_c _ _ _ _ _ hh ht).mono ?_
        rintro e w2 ⟨rfl, hb⟩
        obtain ⟨m0, fm0, zm0⟩ := own_cell hb m0 fm0
        obtain ⟨r0, fr0, zr0⟩ := own_cell hb r0 fr0
        obtain ⟨r1, fr1, zr1⟩ := own_cell hb r1 fr1
        obtain ⟨r2, fr2, zr2⟩ := own_cell hb r2 fr2
        obtain ⟨r3, fr3, zr3⟩ := own_cell hb r3 fr3
        obtain ⟨o0, fo0, zo0⟩ := own_cell hb o0 fo0
        obtain ⟨o1, fo1, zo1⟩ := own_cell hb o1 fo1
        obtain ⟨o2, fo2, zo2⟩ := own_cell hb o2 fo2
        obtain ⟨o3, fo3, zo3⟩ := own_cell hb o3 fo3
        have k2 := ext_step k1 k1.size hb
        clear hb
        go_wp2
        have hdr : Below w2.heap.size w2 w2.drew := (Below.refl _ _).drew
        go_region_held3 (fun w' => w'.cell? ⟨w.heap.size, 0, none⟩ = some (.slice A' n' c') ∧ w'.cell? ⟨w.heap.size + 1, 0, none⟩ = some (.int .i64 base) ∧ w'.cell? ⟨w.heap.size + 1, 1, none⟩ = some (.int .i64 size) ∧ w'.cell? ⟨w.heap.size + 1, 2, none⟩ = some (.int .i64 head) ∧ w'.cell? ⟨w.heap.size + 1, 3, none⟩ = some (.int .i64 tail)) (first | exact ⟨m0, r0, r1, r2, r3⟩ | (simp [go_sem, *]; done))
          (first | (go_at_call 53; refine (implSlotAddress_c _ _ _ _ _ _ hh ht hh).mono ?_; rintro e w3 ⟨rfl, hb⟩; have hb : Below w2.heap.size w2 w3 := below_undrew hb; obtain ⟨m0, fm0, zm0⟩ := own_cell hb m0 fm0; obtain ⟨r0, fr0, zr0⟩ := own_cell hb r0 fr0; obtain ⟨r1, fr1, zr1⟩ := own_cell hb r1 fr1; obtain ⟨r2, fr2, zr2⟩ := own_cell hb r2 fr2; obtain ⟨r3, fr3, zr3⟩ := own_cell hb r3 fr3; obtain ⟨o0, fo0, zo0⟩ := own_cell hb o0 fo0; obtain ⟨o1, fo1, zo1⟩ := own_cell hb o1 fo1; obtain ⟨o2, fo2, zo2⟩ := own_cell hb o2 fo2; obtain ⟨o3, fo3, zo3⟩ := own_cell hb o3 fo3; have k3 := ext_step k2 k2.size hb; clear hb) | (go_at_call 32; refine (implDmaRead_c _ _ _ _ _ _ l pg _ hn hn' hm hm' (hr.to k3) (hr'.to k3) _ _ _ hI1 hI2).mono ?_; rintro e w4 ⟨rfl, hb⟩; rw [HD.out]; obtain ⟨m0, fm0, zm0⟩ := own_cell hb m0 fm0; obtain ⟨r0, fr0, zr0⟩ := own_cell hb r0 fr0; obtain ⟨r1, fr1, zr1⟩ := own_cell hb r1 fr1; obtain ⟨r2, fr2, zr2⟩ := own_cell hb r2 fr2; obtain ⟨r3, fr3, zr3⟩ := own_cell hb r3 fr3; obtain ⟨o0, fo0, zo0⟩ := own_cell hb o0 fo0; obtain ⟨o1, fo1, zo1⟩ := own_cell hb o1 fo1; obtain ⟨o2, fo2, zo2⟩ := own_cell hb o2 fo2; obtain ⟨o3, fo3, zo3⟩ := own_cell hb o3 fo3; have k4 := ext_step k3 k3.size hb; clear hb))
        go_wp2
        go_region
        all_goals
          go_wp2
          refine bodyPost_ret (v := .tuple #[.string (dmaR l pg d (slotI base size head tail head) 16), .agg #[.int .i64 base, .int .i64 size, .int .i64 ((head + 1) % (2 * size)), .int .i64 tail], .bool true]) (by simp [results, Try.results58, go_sem, *]) rfl ?_
          exact ⟨rfl, by go_grown⟩
end Go.Proofs.Ytnnlagmgdfhaiaa
