/- Contracts of TakeBuffers: impl and spec. -/
import Derived.Test.YtnnlagmgdfhaiaaPoolFn
namespace Go.Proofs.Ytnnlagmgdfhaiaa
set_option linter.unusedSimpArgs false
set_option linter.unusedVariables false
open Go.RowKit Go.ChangeShapes Go.WideShapes
theorem flat_takeG {T : Type} {cells : T → List Value} {size : Nat} (hs : ∀ x, (cells x).length = size) (l : List T) : ∀ k : Nat, (l.flatMap cells).take (k * size) = (l.take k).flatMap cells := by
  induction l with
  | nil => intro k; simp
  | cons x l ih =>
    intro k
    cases k with
    | zero => simp
    | succ k => rw [List.flatMap_cons, List.take_succ_cons, List.flatMap_cons, show (k + 1) * size = (cells x).length + k * size by rw [hs, Nat.add_mul]; omega, List.take_length_add_append, ih]
theorem flat_dropG {T : Type} {cells : T → List Value} {size : Nat} (hs : ∀ x, (cells x).length = size) (l : List T) : ∀ k : Nat, (l.flatMap cells).drop (k * size) = (l.drop k).flatMap cells := by
  induction l with
  | nil => intro k; simp
  | cons x l ih =>
    intro k
    cases k with
    | zero => simp
    | succ k => rw [List.flatMap_cons, List.drop_succ_cons, show (k + 1) * size = (cells x).length + k * size by rw [hs, Nat.add_mul]; omega, List.drop_length_add_append, ih]
theorem Reads.take {w : World} {B size n k : Nat} {A : Option Addr} {xs : List Value} (h : Reads w B size A n xs) (hk : k ≤ n) : Reads w B size A k (xs.take (k * size)) := by
  have hle : k * size ≤ n * size := Nat.mul_le_mul_right _ hk
  refine ⟨by rw [List.length_take, h.1]; omega, fun hk0 => ?_⟩
  obtain ⟨b, o, hA, hb, hc⟩ := h.2 (by omega)
  refine ⟨b, o, hA, hb, fun j u hu => ?_⟩
  rw [List.getElem?_take] at hu
  split at hu
  · exact hc j u hu
  · cases hu
def tkOk (base size count : Int) (l : List Int) (x : Int) : Bool := poolB base size count l && inB x 0 l.length
def tkF (base size count : Int) (l : List Int) (x : Int) : List Int := if tkOk base size count l x then l.drop x.toNat else l
def tkL (base size count : Int) (l : List Int) (x : Int) : List Int := if tkOk base size count l x then l.take x.toNat else []
set_option maxRecDepth 100000 in
set_option maxHeartbeats 4000000 in
theorem implTakeBuffers_c (base size count : Int) (A : Option Addr) (n c : Nat) (l : List Int) (w : World) (hn : l.length = n) (hm : n ≤ 1048576) (hnc : n ≤ c) (hr : Reads w w.heap.size 1 A n (l.flatMap fun x : Int => [Value.int .i64 x])) (x : Int) :
    Calls Try.prog 17 #[.agg #[.int .i64 base, .int .i64 size, .int .i64 count, .slice A n c], .int .i64 x] w fun e w' => ∃ A' c' A'' c'' m, e = .returned (.tuple #[.agg #[.int .i64 base, .int .i64 size, .int .i64 count, .slice A' (tkF base size count l x).length c'], .slice A'' (tkL base size count l x).length c'', .bool (tkOk base size count l x)]) ∧ w'.ownsRow w.heap.size 3 1 (.slice A' (tkF base size count l x).length c') (tkF base size count l x).length ((tkF base size count l x).flatMap (fun x : Int => [Value.int .i64 x])) ∧ (∀ k, (Value.slice A' (tkF base size count l x).length c').ownBlock = some k → k < m) ∧ w.heap.size ≤ m ∧ w'.ownsRow m 3 1 (.slice A'' (tkL base size count l x).length c'') (tkL base size count l x).length ((tkL base size count l x).flatMap (fun x : Int => [Value.int .i64 x])) ∧ Below w.heap.size w w' := by
  cases e1 : poolB base size count l
  · have hO : tkOk base size count l x = false := by simp [tkOk, e1]
    have hF : tkF base size count l x = l := by rw [tkF, hO]; rfl
    have hL : tkL base size count l x = [] := by rw [tkL, hO]; rfl
    rw [hF, hL, hO, hn]
    clear hF hL hO
    go_enter Try.func17, Try.ntmps17
    go_wp2_with fail
    refine (copyPool_c _ _ _ _ _ _ l _ hn (by omega) (hr.to (by go_grown))).mono ?_
    rintro e w1 ⟨A1, c1, rfl, ho, hb⟩
    obtain ⟨p0, fp0, zp0⟩ := own_cell hb (b := w.heap.size) (o := 0) (v := .int .i64 base) (by first | assumption | (simp [go_sem]; done) | (simp [go_sem, *]; done)) (by first | assumption | (simp [go_sem]; done) | (simp [go_sem, *]; done))
    obtain ⟨p1, fp1, zp1⟩ := own_cell hb (b := w.heap.size) (o := 1) (v := .int .i64 size) (by first | assumption | (simp [go_sem]; done) | (simp [go_sem, *]; done)) (by first | assumption | (simp [go_sem]; done) | (simp [go_sem, *]; done))
    obtain ⟨p2, fp2, zp2⟩ := own_cell hb (b := w.heap.size) (o := 2) (v := .int .i64 count) (by first | assumption | (simp [go_sem]; done) | (simp [go_sem, *]; done)) (by first | assumption | (simp [go_sem]; done) | (simp [go_sem, *]; done))
    obtain ⟨p3, fp3, zp3⟩ := own_cell hb (b := w.heap.size) (o := 3) (v := .slice A n c) (by first | assumption | (simp [go_sem]; done) | (simp [go_sem, *]; done)) (by first | assumption | (simp [go_sem]; done) | (simp [go_sem, *]; done))
    obtain ⟨d0, fd0, zd0⟩ := own_cell hb (b := w.heap.size + 1) (o := 0) (v := .int .i64 0) (by first | assumption | (simp [go_sem]; done) | (simp [go_sem, *]; done)) (by first | assumption | (simp [go_sem]; done) | (simp [go_sem, *]; done))
    obtain ⟨d1, fd1, zd1⟩ := own_cell hb (b := w.heap.size + 1) (o := 1) (v := .int .i64 0) (by first | assumption | (simp [go_sem]; done) | (simp [go_sem, *]; done)) (by first | assumption | (simp [go_sem]; done) | (simp [go_sem, *]; done))
    obtain ⟨d2, fd2, zd2⟩ := own_cell hb (b := w.heap.size + 1) (o := 2) (v := .int .i64 0) (by first | assumption | (simp [go_sem]; done) | (simp [go_sem, *]; done)) (by first | assumption | (simp [go_sem]; done) | (simp [go_sem, *]; done))
    obtain ⟨d3, fd3, zd3⟩ := own_cell hb (b := w.heap.size + 1) (o := 3) (v := .slice none 0 0) (by first | assumption | (simp [go_sem]; done) | (simp [go_sem, *]; done)) (by first | assumption | (simp [go_sem]; done) | (simp [go_sem, *]; done))
    have k1 : Below w.heap.size w w1 := ext_step (by go_grown) (by go_size) hb
    have q1 : ∀ k, (Value.slice A1 n c1).ownBlock = some k → w.heap.size + 1 < k := fun k hk => by have := (ho.lt k hk).1; simp at this; omega
    have q2 := fun k hk => (ho.lt k hk).2
    have ho := own_base ho (base' := w.heap.size) (by simp; omega)
    have ka : Below w1.heap.size w1 (w1.alloc (.cells #[.int .i64 base, .int .i64 size, .int .i64 count, .slice A1 n c1] 27)) := (Below.refl _ _).alloc (Nat.le_refl _) _
    have hr1 := hr.to (k1.trans (ka.mono k1.size))
    clear hb
    go_wp2_with fail
    refine (calls_bool (implPoolOk_c _ _ _ _ _ _ l _ hn (by omega) hr1) e1).mono ?_
    rintro e w2 ⟨rfl, hb⟩
    have hb1 := ext_step ka ka.size hb
    obtain ⟨p0, fp0, zp0⟩ := own_cell hb1 p0 fp0
    obtain ⟨p1, fp1, zp1⟩ := own_cell hb1 p1 fp1
    obtain ⟨p2, fp2, zp2⟩ := own_cell hb1 p2 fp2
    obtain ⟨p3, fp3, zp3⟩ := own_cell hb1 p3 fp3
    obtain ⟨d0, fd0, zd0⟩ := own_cell hb1 d0 fd0
    obtain ⟨d1, fd1, zd1⟩ := own_cell hb1 d1 fd1
    obtain ⟨d2, fd2, zd2⟩ := own_cell hb1 d2 fd2
    obtain ⟨d3, fd3, zd3⟩ := own_cell hb1 d3 fd3
    obtain ⟨o0, fo0, zo0⟩ := own_cell hb (b := w1.heap.size) (o := 0) (v := .int .i64 base) (by first | assumption | (simp [go_sem]; done) | (simp [go_sem, *]; done)) (by first | assumption | (simp [go_sem]; done) | (simp [go_sem, *]; done))
    obtain ⟨o1, fo1, zo1⟩ := own_cell hb (b := w1.heap.size) (o := 1) (v := .int .i64 size) (by first | assumption | (simp [go_sem]; done) | (simp [go_sem, *]; done)) (by first | assumption | (simp [go_sem]; done) | (simp [go_sem, *]; done))
    obtain ⟨o2, fo2, zo2⟩ := own_cell hb (b := w1.heap.size) (o := 2) (v := .int .i64 count) (by first | assumption | (simp [go_sem]; done) | (simp [go_sem, *]; done)) (by first | assumption | (simp [go_sem]; done) | (simp [go_sem, *]; done))
    obtain ⟨o3, fo3, zo3⟩ := own_cell hb (b := w1.heap.size) (o := 3) (v := .slice A1 n c1) (by first | assumption | (simp [go_sem]; done) | (simp [go_sem, *]; done)) (by first | assumption | (simp [go_sem]; done) | (simp [go_sem, *]; done))
    have ho := own_ext ho hb1
    have k2 := ext_step k1 k1.size hb1
    have z1 := hb1.size
    have hr2 := hr.to k2
    clear hb hb1 ka hr1
    go_wp2
    refine bodyPost_ret (v := .tuple #[.agg #[.int .i64 base, .int .i64 size, .int .i64 count, .slice A1 n c1], .slice none 0 0, .bool false]) (by simp [results, Try.results17, go_sem, d0, d1, d2, d3, o0, o1, o2, o3]) rfl ?_
    exact ⟨A1, c1, none, 0, w1.heap.size, rfl, (by repeat (first | (with_reducible exact ho) | refine own_set_ne ?_ (fun e => by have := q1 _ e; (try dsimp only at this); omega) _)), q2, k1.size, own_nil _ _ _ _, by go_grown⟩
  · cases e2 : inB x 0 (n : Int)
    · have hO : tkOk base size count l x = false := by simp [tkOk, e1, e2, hn]
      have hF : tkF base size count l x = l := by rw [tkF, hO]; rfl
      have hL : tkL base size count l x = [] := by rw [tkL, hO]; rfl
      rw [hF, hL, hO, hn]
      clear hF hL hO
      go_enter Try.func17, Try.ntmps17
      go_wp2_with fail
      refine (copyPool_c _ _ _ _ _ _ l _ hn (by omega) (hr.to (by go_grown))).mono ?_
      rintro e w1 ⟨A1, c1, rfl, ho, hb⟩
      obtain ⟨p0, fp0, zp0⟩ := own_cell hb (b := w.heap.size) (o := 0) (v := .int .i64 base) (by first | assumption | (simp [go_sem]; done) | (simp [go_sem, *]; done)) (by first | assumption | (simp [go_sem]; done) | (simp [go_sem, *]; done))
      obtain ⟨p1, fp1, zp1⟩ := own_cell hb (b := w.heap.size) (o := 1) (v := .int .i64 size) (by first | assumption | (simp [go_sem]; done) | (simp [go_sem, *]; done)) (by first | assumption | (simp [go_sem]; done) | (simp [go_sem, *]; done))
      obtain ⟨p2, fp2, zp2⟩ := own_cell hb (b := w.heap.size) (o := 2) (v := .int .i64 count) (by first | assumption | (simp [go_sem]; done) | (simp [go_sem, *]; done)) (by first | assumption | (simp [go_sem]; done) | (simp [go_sem, *]; done))
      obtain ⟨p3, fp3, zp3⟩ := own_cell hb (b := w.heap.size) (o := 3) (v := .slice A n c) (by first | assumption | (simp [go_sem]; done) | (simp [go_sem, *]; done)) (by first | assumption | (simp [go_sem]; done) | (simp [go_sem, *]; done))
      obtain ⟨d0, fd0, zd0⟩ := own_cell hb (b := w.heap.size + 1) (o := 0) (v := .int .i64 0) (by first | assumption | (simp [go_sem]; done) | (simp [go_sem, *]; done)) (by first | assumption | (simp [go_sem]; done) | (simp [go_sem, *]; done))
      obtain ⟨d1, fd1, zd1⟩ := own_cell hb (b := w.heap.size + 1) (o := 1) (v := .int .i64 0) (by first | assumption | (simp [go_sem]; done) | (simp [go_sem, *]; done)) (by first | assumption | (simp [go_sem]; done) | (simp [go_sem, *]; done))
      obtain ⟨d2, fd2, zd2⟩ := own_cell hb (b := w.heap.size + 1) (o := 2) (v := .int .i64 0) (by first | assumption | (simp [go_sem]; done) | (simp [go_sem, *]; done)) (by first | assumption | (simp [go_sem]; done) | (simp [go_sem, *]; done))
      obtain ⟨d3, fd3, zd3⟩ := own_cell hb (b := w.heap.size + 1) (o := 3) (v := .slice none 0 0) (by first | assumption | (simp [go_sem]; done) | (simp [go_sem, *]; done)) (by first | assumption | (simp [go_sem]; done) | (simp [go_sem, *]; done))
      have k1 : Below w.heap.size w w1 := ext_step (by go_grown) (by go_size) hb
      have q1 : ∀ k, (Value.slice A1 n c1).ownBlock = some k → w.heap.size + 1 < k := fun k hk => by have := (ho.lt k hk).1; simp at this; omega
      have q2 := fun k hk => (ho.lt k hk).2
      have ho := own_base ho (base' := w.heap.size) (by simp; omega)
      have ka : Below w1.heap.size w1 (w1.alloc (.cells #[.int .i64 base, .int .i64 size, .int .i64 count, .slice A1 n c1] 27)) := (Below.refl _ _).alloc (Nat.le_refl _) _
      have hr1 := hr.to (k1.trans (ka.mono k1.size))
      clear hb
      go_wp2_with fail
      refine (calls_bool (implPoolOk_c _ _ _ _ _ _ l _ hn (by omega) hr1) e1).mono ?_
      rintro e w2 ⟨rfl, hb⟩
      have hb1 := ext_step ka ka.size hb
      obtain ⟨p0, fp0, zp0⟩ := own_cell hb1 p0 fp0
      obtain ⟨p1, fp1, zp1⟩ := own_cell hb1 p1 fp1
      obtain ⟨p2, fp2, zp2⟩ := own_cell hb1 p2 fp2
      obtain ⟨p3, fp3, zp3⟩ := own_cell hb1 p3 fp3
      obtain ⟨d0, fd0, zd0⟩ := own_cell hb1 d0 fd0
      obtain ⟨d1, fd1, zd1⟩ := own_cell hb1 d1 fd1
      obtain ⟨d2, fd2, zd2⟩ := own_cell hb1 d2 fd2
      obtain ⟨d3, fd3, zd3⟩ := own_cell hb1 d3 fd3
      obtain ⟨o0, fo0, zo0⟩ := own_cell hb (b := w1.heap.size) (o := 0) (v := .int .i64 base) (by first | assumption | (simp [go_sem]; done) | (simp [go_sem, *]; done)) (by first | assumption | (simp [go_sem]; done) | (simp [go_sem, *]; done))
      obtain ⟨o1, fo1, zo1⟩ := own_cell hb (b := w1.heap.size) (o := 1) (v := .int .i64 size) (by first | assumption | (simp [go_sem]; done) | (simp [go_sem, *]; done)) (by first | assumption | (simp [go_sem]; done) | (simp [go_sem, *]; done))
      obtain ⟨o2, fo2, zo2⟩ := own_cell hb (b := w1.heap.size) (o := 2) (v := .int .i64 count) (by first | assumption | (simp [go_sem]; done) | (simp [go_sem, *]; done)) (by first | assumption | (simp [go_sem]; done) | (simp [go_sem, *]; done))
      obtain ⟨o3, fo3, zo3⟩ := own_cell hb (b := w1.heap.size) (o := 3) (v := .slice A1 n c1) (by first | assumption | (simp [go_sem]; done) | (simp [go_sem, *]; done)) (by first | assumption | (simp [go_sem]; done) | (simp [go_sem, *]; done))
      have ho := own_ext ho hb1
      have k2 := ext_step k1 k1.size hb1
      have z1 := hb1.size
      have hr2 := hr.to k2
      clear hb hb1 ka hr1
      go_wp2_with (go_at_call 78; refine (calls_bool (between_c _ _ _ _) e2).mono ?_; rintro e w9 ⟨rfl, rfl⟩)
      refine bodyPost_ret (v := .tuple #[.agg #[.int .i64 base, .int .i64 size, .int .i64 count, .slice A1 n c1], .slice none 0 0, .bool false]) (by simp [results, Try.results17, go_sem, d0, d1, d2, d3, o0, o1, o2, o3]) rfl ?_
      exact ⟨A1, c1, none, 0, w1.heap.size, rfl, (by repeat (first | (with_reducible exact ho) | refine own_set_ne ?_ (fun e => by have := q1 _ e; (try dsimp only at this); omega) _)), q2, k1.size, own_nil _ _ _ _, by go_grown⟩
    · obtain ⟨x1, x2⟩ := inB_t e2
      obtain ⟨m, rfl⟩ := Int.eq_ofNat_of_zero_le x1
      have hmn : m ≤ n := by omega
      have hO : tkOk base size count l m = true := by simp [tkOk, e1, e2, hn]
      have hF : tkF base size count l m = l.drop m := by rw [tkF, hO]; simp
      have hL : tkL base size count l m = l.take m := by rw [tkL, hO]; simp
      have hnF : (l.drop m).length = n - m := by simp [hn]
      have hnL : (l.take m).length = m := by simp [hn]; omega
      have HF := Lib.hid hF
      have HL := Lib.hid hL
      have HO := Lib.hid hO
      have HNF := Lib.hid hnF
      have HNL := Lib.hid hnL
      have a1 : (m : Int) ≤ (c : Int) := by omega
      clear hF hL hO hnF hnL
      go_enter Try.func17, Try.ntmps17
      go_wp2_with fail
      refine (copyPool_c _ _ _ _ _ _ l _ hn (by omega) (hr.to (by go_grown))).mono ?_
      rintro e w1 ⟨A1, c1, rfl, ho, hb⟩
      obtain ⟨p0, fp0, zp0⟩ := own_cell hb (b := w.heap.size) (o := 0) (v := .int .i64 base) (by first | assumption | (simp [go_sem]; done) | (simp [go_sem, *]; done)) (by first | assumption | (simp [go_sem]; done) | (simp [go_sem, *]; done))
      obtain ⟨p1, fp1, zp1⟩ := own_cell hb (b := w.heap.size) (o := 1) (v := .int .i64 size) (by first | assumption | (simp [go_sem]; done) | (simp [go_sem, *]; done)) (by first | assumption | (simp [go_sem]; done) | (simp [go_sem, *]; done))
      obtain ⟨p2, fp2, zp2⟩ := own_cell hb (b := w.heap.size) (o := 2) (v := .int .i64 count) (by first | assumption | (simp [go_sem]; done) | (simp [go_sem, *]; done)) (by first | assumption | (simp [go_sem]; done) | (simp [go_sem, *]; done))
      obtain ⟨p3, fp3, zp3⟩ := own_cell hb (b := w.heap.size) (o := 3) (v := .slice A n c) (by first | assumption | (simp [go_sem]; done) | (simp [go_sem, *]; done)) (by first | assumption | (simp [go_sem]; done) | (simp [go_sem, *]; done))
      obtain ⟨d0, fd0, zd0⟩ := own_cell hb (b := w.heap.size + 1) (o := 0) (v := .int .i64 0) (by first | assumption | (simp [go_sem]; done) | (simp [go_sem, *]; done)) (by first | assumption | (simp [go_sem]; done) | (simp [go_sem, *]; done))
      obtain ⟨d1, fd1, zd1⟩ := own_cell hb (b := w.heap.size + 1) (o := 1) (v := .int .i64 0) (by first | assumption | (simp [go_sem]; done) | (simp [go_sem, *]; done)) (by first | assumption | (simp [go_sem]; done) | (simp [go_sem, *]; done))
      obtain ⟨d2, fd2, zd2⟩ := own_cell hb (b := w.heap.size + 1) (o := 2) (v := .int .i64 0) (by first | assumption | (simp [go_sem]; done) | (simp [go_sem, *]; done)) (by first | assumption | (simp [go_sem]; done) | (simp [go_sem, *]; done))
      obtain ⟨d3, fd3, zd3⟩ := own_cell hb (b := w.heap.size + 1) (o := 3) (v := .slice none 0 0) (by first | assumption | (simp [go_sem]; done) | (simp [go_sem, *]; done)) (by first | assumption | (simp [go_sem]; done) | (simp [go_sem, *]; done))
      have k1 : Below w.heap.size w w1 := ext_step (by go_grown) (by go_size) hb
      have q1 : ∀ k, (Value.slice A1 n c1).ownBlock = some k → w.heap.size + 1 < k := fun k hk => by have := (ho.lt k hk).1; simp at this; omega
      have q2 := fun k hk => (ho.lt k hk).2
      have ho := own_base ho (base' := w.heap.size) (by simp; omega)
      have ka : Below w1.heap.size w1 (w1.alloc (.cells #[.int .i64 base, .int .i64 size, .int .i64 count, .slice A1 n c1] 27)) := (Below.refl _ _).alloc (Nat.le_refl _) _
      have hr1 := hr.to (k1.trans (ka.mono k1.size))
      clear hb
      go_wp2_with fail
      refine (calls_bool (implPoolOk_c _ _ _ _ _ _ l _ hn (by omega) hr1) e1).mono ?_
      rintro e w2 ⟨rfl, hb⟩
      have hb1 := ext_step ka ka.size hb
      obtain ⟨p0, fp0, zp0⟩ := own_cell hb1 p0 fp0
      obtain ⟨p1, fp1, zp1⟩ := own_cell hb1 p1 fp1
      obtain ⟨p2, fp2, zp2⟩ := own_cell hb1 p2 fp2
      obtain ⟨p3, fp3, zp3⟩ := own_cell hb1 p3 fp3
      obtain ⟨d0, fd0, zd0⟩ := own_cell hb1 d0 fd0
      obtain ⟨d1, fd1, zd1⟩ := own_cell hb1 d1 fd1
      obtain ⟨d2, fd2, zd2⟩ := own_cell hb1 d2 fd2
      obtain ⟨d3, fd3, zd3⟩ := own_cell hb1 d3 fd3
      obtain ⟨o0, fo0, zo0⟩ := own_cell hb (b := w1.heap.size) (o := 0) (v := .int .i64 base) (by first | assumption | (simp [go_sem]; done) | (simp [go_sem, *]; done)) (by first | assumption | (simp [go_sem]; done) | (simp [go_sem, *]; done))
      obtain ⟨o1, fo1, zo1⟩ := own_cell hb (b := w1.heap.size) (o := 1) (v := .int .i64 size) (by first | assumption | (simp [go_sem]; done) | (simp [go_sem, *]; done)) (by first | assumption | (simp [go_sem]; done) | (simp [go_sem, *]; done))
      obtain ⟨o2, fo2, zo2⟩ := own_cell hb (b := w1.heap.size) (o := 2) (v := .int .i64 count) (by first | assumption | (simp [go_sem]; done) | (simp [go_sem, *]; done)) (by first | assumption | (simp [go_sem]; done) | (simp [go_sem, *]; done))
      obtain ⟨o3, fo3, zo3⟩ := own_cell hb (b := w1.heap.size) (o := 3) (v := .slice A1 n c1) (by first | assumption | (simp [go_sem]; done) | (simp [go_sem, *]; done)) (by first | assumption | (simp [go_sem]; done) | (simp [go_sem, *]; done))
      have ho := own_ext ho hb1
      have k2 := ext_step k1 k1.size hb1
      have z1 := hb1.size
      have hr2 := hr.to k2
      clear hb hb1 ka hr1
      have hsrc := hr2.cut (k := m) hmn hnc
      rw [Nat.mul_one, show (l.flatMap (fun x : Int => [Value.int .i64 x])).drop m = (l.drop m).flatMap (fun x : Int => [Value.int .i64 x]) by have := flat_dropG (cells := (fun x : Int => [Value.int .i64 x])) (size := 1) (fun _ => rfl) l m; rwa [Nat.mul_one] at this] at hsrc
      by_cases hc : c = m
      all_goals
        first
          | rw [if_pos hc] at hsrc
          | rw [if_neg hc] at hsrc
        go_wp2_with (go_at_call 78; refine (calls_bool (between_c _ _ _ _) e2).mono ?_; rintro e w9 ⟨rfl, rfl⟩)
        refine (copyInts_c _ _ _ (l.drop m) _ HNF.out (by omega) hsrc).mono ?_
        rintro e w3 ⟨v3, rfl, ho3, hb⟩
        obtain ⟨p0, fp0, zp0⟩ := own_cell hb p0 fp0
        obtain ⟨p1, fp1, zp1⟩ := own_cell hb p1 fp1
        obtain ⟨p2, fp2, zp2⟩ := own_cell hb p2 fp2
        obtain ⟨p3, fp3, zp3⟩ := own_cell hb p3 fp3
        obtain ⟨d0, fd0, zd0⟩ := own_cell hb d0 fd0
        obtain ⟨d1, fd1, zd1⟩ := own_cell hb d1 fd1
        obtain ⟨d2, fd2, zd2⟩ := own_cell hb d2 fd2
        obtain ⟨d3, fd3, zd3⟩ := own_cell hb d3 fd3
        obtain ⟨o0, fo0, zo0⟩ := own_cell hb o0 fo0
        obtain ⟨o1, fo1, zo1⟩ := own_cell hb o1 fo1
        obtain ⟨o2, fo2, zo2⟩ := own_cell hb o2 fo2
        obtain ⟨o3, fo3, zo3⟩ := own_cell hb o3 fo3
        have k3 := ext_step k2 k2.size hb
        have z3 := hb.size
        have z4 := k2.size
        have q3 := fun k hk => ho3.lt k hk
        obtain ⟨A3, c3, rfl, _, _, _⟩ := own_form ho3
        have kS : Below w.heap.size w (w3.setCell ⟨w1.heap.size, 3, none⟩ (.slice A3 (n - m) c3)) := k3.setCell k1.size _
        have s0 : (w3.setCell ⟨w1.heap.size, 3, none⟩ (.slice A3 (n - m) c3)).cell? ⟨w1.heap.size, 0, none⟩ = some (.int .i64 base) := by simp [go_sem, o0]
        have s1 : (w3.setCell ⟨w1.heap.size, 3, none⟩ (.slice A3 (n - m) c3)).cell? ⟨w1.heap.size, 1, none⟩ = some (.int .i64 size) := by simp [go_sem, o1]
        have s2 : (w3.setCell ⟨w1.heap.size, 3, none⟩ (.slice A3 (n - m) c3)).cell? ⟨w1.heap.size, 2, none⟩ = some (.int .i64 count) := by simp [go_sem, o2]
        have s3 : (w3.setCell ⟨w1.heap.size, 3, none⟩ (.slice A3 (n - m) c3)).cell? ⟨w1.heap.size, 3, none⟩ = some (.slice A3 (n - m) c3) := by simp [go_sem, o3]
        have t3 : (w3.setCell ⟨w1.heap.size, 3, none⟩ (.slice A3 (n - m) c3)).cell? ⟨w.heap.size, 3, none⟩ = some (.slice A n c) := by rw [World.cell?_setCell_other _ _ _ _ (by simp <;> omega)]; exact p3
        have hrt := (hr.to (kS.trans ((Below.refl _ _).drew))).take hmn
        rw [Nat.mul_one, show (l.flatMap (fun x : Int => [Value.int .i64 x])).take m = (l.take m).flatMap (fun x : Int => [Value.int .i64 x]) by have := flat_takeG (cells := (fun x : Int => [Value.int .i64 x])) (size := 1) (fun _ => rfl) l m; rwa [Nat.mul_one] at this] at hrt
        clear hb hsrc
        have ne1 : ¬ w.heap.size + 1 = w1.heap.size := by omega
        have ne2 : ¬ w1.heap.size = w.heap.size + 1 := by omega
        have hdr : Below (w3.setCell ⟨w1.heap.size, 3, none⟩ (.slice A3 (n - m) c3)).heap.size (w3.setCell ⟨w1.heap.size, 3, none⟩ (.slice A3 (n - m) c3)) (w3.setCell ⟨w1.heap.size, 3, none⟩ (.slice A3 (n - m) c3)).drew := (Below.refl _ _).drew
        have s0' := ccell hdr _ _ _ s0
        have s1' := ccell hdr _ _ _ s1
        have s2' := ccell hdr _ _ _ s2
        have s3' := ccell hdr _ _ _ s3
        have t3' := ccell hdr _ _ _ t3
        have d0 : (w3.setCell ⟨w1.heap.size, 3, none⟩ (.slice A3 (n - m) c3)).drew.cell? ⟨w.heap.size + 1, 0, none⟩ = some (.int .i64 0) := by simp [go_sem, d0, ne1]
        have fd0 : (w3.setCell ⟨w1.heap.size, 3, none⟩ (.slice A3 (n - m) c3)).drew.frozen? ⟨w.heap.size + 1, 0, none⟩ = false := by simpa [go_sem] using fd0
        have d1 : (w3.setCell ⟨w1.heap.size, 3, none⟩ (.slice A3 (n - m) c3)).drew.cell? ⟨w.heap.size + 1, 1, none⟩ = some (.int .i64 0) := by simp [go_sem, d1, ne1]
        have fd1 : (w3.setCell ⟨w1.heap.size, 3, none⟩ (.slice A3 (n - m) c3)).drew.frozen? ⟨w.heap.size + 1, 1, none⟩ = false := by simpa [go_sem] using fd1
        have d2 : (w3.setCell ⟨w1.heap.size, 3, none⟩ (.slice A3 (n - m) c3)).drew.cell? ⟨w.heap.size + 1, 2, none⟩ = some (.int .i64 0) := by simp [go_sem, d2, ne1]
        have fd2 : (w3.setCell ⟨w1.heap.size, 3, none⟩ (.slice A3 (n - m) c3)).drew.frozen? ⟨w.heap.size + 1, 2, none⟩ = false := by simpa [go_sem] using fd2
        have d3 : (w3.setCell ⟨w1.heap.size, 3, none⟩ (.slice A3 (n - m) c3)).drew.cell? ⟨w.heap.size + 1, 3, none⟩ = some (.slice none 0 0) := by simp [go_sem, d3, ne1]
        have fd3 : (w3.setCell ⟨w1.heap.size, 3, none⟩ (.slice A3 (n - m) c3)).drew.frozen? ⟨w.heap.size + 1, 3, none⟩ = false := by simpa [go_sem] using fd3
        have q4 : ∀ k, (Value.slice A3 (n - m) c3).ownBlock = some k → w.heap.size + 1 < k ∧ k ≠ w1.heap.size ∧ k < w3.heap.size := fun k hk => by have := q3 k hk; omega
        have hoS := own_set_ne (p := ⟨w1.heap.size, 3, none⟩) ho3 (fun e => (q4 _ e).2.1 rfl) (.slice A3 (n - m) c3)
        have hoS := own_ext hoS hdr
        have kD := kS.trans (hdr.mono kS.size)
        have zD : w3.heap.size ≤ (w3.setCell ⟨w1.heap.size, 3, none⟩ (.slice A3 (n - m) c3)).drew.heap.size := by simp
        clear hdr ho3 q3
        go_wp2_with fail
        go_region_held3 (fun w' => w'.cell? ⟨w1.heap.size, 0, none⟩ = some (.int .i64 base) ∧ w'.cell? ⟨w1.heap.size, 1, none⟩ = some (.int .i64 size) ∧ w'.cell? ⟨w1.heap.size, 2, none⟩ = some (.int .i64 count) ∧ w'.cell? ⟨w1.heap.size, 3, none⟩ = some (.slice A3 (n - m) c3) ∧ w'.cell? ⟨w.heap.size, 3, none⟩ = some (.slice A n c)) (first | exact ⟨s0, s1, s2, s3, t3⟩ | exact ⟨s0', s1', s2', s3', t3'⟩ | (refine ⟨?_, ?_, ?_, ?_, ?_⟩ <;> simp [go_sem, *]; done))
          ((go_at_call 79; refine (copyInts_c _ _ _ (l.take m) _ HNL.out (by omega) hrt).mono ?_; rintro e w4 ⟨v4, rfl, ho4, hb⟩; obtain ⟨d0, fd0, zd0⟩ := own_cell hb d0 fd0; obtain ⟨d1, fd1, zd1⟩ := own_cell hb d1 fd1; obtain ⟨d2, fd2, zd2⟩ := own_cell hb d2 fd2; obtain ⟨d3, fd3, zd3⟩ := own_cell hb d3 fd3; have s0 := ccell hb _ _ _ s0'; have s1 := ccell hb _ _ _ s1'; have s2 := ccell hb _ _ _ s2'; have s3 := ccell hb _ _ _ s3'; have t3 := ccell hb _ _ _ t3'; have hoT := own_ext hoS hb; have kT := ext_step kD kD.size hb; obtain ⟨A4, c4, rfl, _, _, _⟩ := own_form ho4; have zT := hb.size; have q5 := fun k hk => (ho4.lt k hk).1; clear hb))
        go_wp2
        refine bodyPost_ret (v := .tuple #[.agg #[.int .i64 base, .int .i64 size, .int .i64 count, .slice A3 (n - m) c3], .slice A4 m c4, .bool true]) (by simp [results, Try.results17, go_sem, d0, d1, d2, d3]) rfl ?_
        rw [HF.out, HL.out, HO.out, HNF.out, HNL.out]
        have hoT := own_base hoT (base' := w.heap.size) (by omega)
        have hoV := own_base ho4 (base' := w3.heap.size) zD
        exact ⟨A3, c3, A4, c4, w3.heap.size, rfl, by repeat (first | (with_reducible exact hoT) | refine own_set_ne ?_ (fun e => by have := q4 _ e; (try dsimp only at this); omega) _), fun k hk => (q4 k hk).2.2, by omega, by repeat (first | (with_reducible exact hoV) | refine own_set_ne ?_ (fun e => by have := q5 _ e; (try dsimp only at this); omega) _), by go_grown⟩
end Go.Proofs.Ytnnlagmgdfhaiaa
