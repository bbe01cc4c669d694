/- Contract of TakeBuffers: spec. -/
import Derived.Test.YtojkakafomieiaaTakeBuf
namespace Go.Proofs.Ytojkakafomieiaa
set_option linter.unusedSimpArgs false
set_option linter.unusedVariables false
open Go.RowKit Go.ChangeShapes Go.WideShapes
theorem blk_at {X : World} {k : Nat} {e : TypeId} {cs : List Value} (h : X.heap.size = k) : Blk (X.alloc (.cells cs.toArray e)) k e cs := by
  subst h; exact Blk.new X e cs
set_option maxRecDepth 100000 in
set_option maxHeartbeats 4000000 in
theorem specTakeBuffers_c (base size count : Int) (A : Option Addr) (n c : Nat) (l : List Int) (w : World) (hn : l.length = n) (hm : n ≤ 1048576) (hnc : n ≤ c) (hr : Reads w w.heap.size 1 A n (l.flatMap fun x : Int => [Value.int .i64 x])) (x : Int) :
    Calls Try.prog 26 #[.agg #[.int .i64 base, .int .i64 size, .int .i64 count, .slice A n c], .int .i64 x] w fun e w' => ∃ A' c' A'' c'', e = .returned (.tuple #[.agg #[.int .i64 base, .int .i64 size, .int .i64 count, .slice A' (tkF base size count l x).length c'], .slice A'' (tkL base size count l x).length c'', .bool (tkOk base size count l x)]) ∧ w'.ownsRow w.heap.size 3 1 (.slice A' (tkF base size count l x).length c') (tkF base size count l x).length ((tkF base size count l x).flatMap (fun x : Int => [Value.int .i64 x])) ∧ w'.ownsRow w.heap.size 3 1 (.slice A'' (tkL base size count l x).length c'') (tkL base size count l x).length ((tkL base size count l x).flatMap (fun x : Int => [Value.int .i64 x])) ∧ Below w.heap.size w w' := by
  obtain ⟨i0, hi, hz0, hz1, hz2⟩ := info_parts info_int9
  cases e1 : poolB base size count l
  · have hO : tkOk base size count l x = false := by simp [tkOk, e1]
    have hF : tkF base size count l x = l := by rw [tkF, hO]; rfl
    have hL : tkL base size count l x = [] := by rw [tkL, hO]; rfl
    rw [hF, hL, hO, hn]
    clear hF hL hO
    go_enter Try.func26, Try.ntmps26
    go_wp2_with fail
    refine (l21Copy_c _ _ _ _ _ _ l _ hn (by omega) (hr.to (by go_grown))).mono ?_
    rintro e w1 ⟨A1, c1, rfl, ho, hb⟩
    obtain ⟨p0, fp0, zp0⟩ := own_cell hb (b := w.heap.size) (o := 0) (v := .int .i64 base) (by first | assumption | (simp [go_sem]; done) | (simp [go_sem, *]; done)) (by first | assumption | (simp [go_sem]; done) | (simp [go_sem, *]; done))
    obtain ⟨p1, fp1, zp1⟩ := own_cell hb (b := w.heap.size) (o := 1) (v := .int .i64 size) (by first | assumption | (simp [go_sem]; done) | (simp [go_sem, *]; done)) (by first | assumption | (simp [go_sem]; done) | (simp [go_sem, *]; done))
    obtain ⟨p2, fp2, zp2⟩ := own_cell hb (b := w.heap.size) (o := 2) (v := .int .i64 count) (by first | assumption | (simp [go_sem]; done) | (simp [go_sem, *]; done)) (by first | assumption | (simp [go_sem]; done) | (simp [go_sem, *]; done))
    obtain ⟨p3, fp3, zp3⟩ := own_cell hb (b := w.heap.size) (o := 3) (v := .slice A n c) (by first | assumption | (simp [go_sem]; done) | (simp [go_sem, *]; done)) (by first | assumption | (simp [go_sem]; done) | (simp [go_sem, *]; done))
    obtain ⟨d0, fd0, zd0⟩ := own_cell hb (b := w.heap.size + 1) (o := 0) (v := .int .i64 0) (by first | assumption | (simp [go_sem]; done) | (simp [go_sem, *]; done)) (by first | assumption | (simp [go_sem]; done) | (simp [go_sem, *]; done))
    obtain ⟨d1, fd1, zd1⟩ := own_cell hb (b := w.heap.size + 1) (o := 1) (v := .int .i64 0) (by first | assumption | (simp [go_sem]; done) | (simp [go_sem, *]; done)) (by first | assumption | (simp [go_sem]; done) | (simp [go_sem, *]; done))
    obtain ⟨d2, fd2, zd2⟩ := own_cell hb (b := w.heap.size + 1) (o := 2) (v := .int .i64 0) (by first | assumption | (simp [go_sem]; done) | (simp [go_sem, *]; done)) (by first | assumption | (simp [go_sem]; done) | (simp [go_sem, *]; done))
    obtain ⟨d3, fd3, zd3⟩ := own_cell hb (b := w.heap.size + 1) (o := 3) (v := .slice none 0 0) (by first | assumption | (simp [go_sem]; done) | (simp [go_sem, *]; done)) (by first | assumption | (simp [go_sem]; done) | (simp [go_sem, *]; done))
    have k1 : Below w.heap.size w w1 := ext_step (by go_grown) (by go_size) hb
    have q1 : ∀ k, (Value.slice A1 n c1).ownBlock = some k → w.heap.size + 1 < k := fun k hk => by have := (ho.lt k hk).1; simp at this; omega
    have q2 := fun k hk => (ho.lt k hk).2
    have ho := own_base ho (base' := w.heap.size) (by simp; omega)
    have ka : Below w1.heap.size w1 (w1.alloc (.cells #[.int .i64 base, .int .i64 size, .int .i64 count, .slice A1 n c1] 27)) := (Below.refl _ _).alloc (Nat.le_refl _) _
    have hr1 := hr.to (k1.trans (ka.mono k1.size))
    clear hb
    go_wp2_with fail
    refine (calls_bool (specPoolOk_c _ _ _ _ _ _ l _ hn (by omega) hr1) e1).mono ?_
    rintro e w2 ⟨rfl, hb⟩
    have hb1 := ext_step ka ka.size hb
    obtain ⟨p0, fp0, zp0⟩ := own_cell hb1 p0 fp0
    obtain ⟨p1, fp1, zp1⟩ := own_cell hb1 p1 fp1
    obtain ⟨p2, fp2, zp2⟩ := own_cell hb1 p2 fp2
    obtain ⟨p3, fp3, zp3⟩ := own_cell hb1 p3 fp3
    obtain ⟨d0, fd0, zd0⟩ := own_cell hb1 d0 fd0
    obtain ⟨d1, fd1, zd1⟩ := own_cell hb1 d1 fd1
    obtain ⟨d2, fd2, zd2⟩ := own_cell hb1 d2 fd2
    obtain ⟨d3, fd3, zd3⟩ := own_cell hb1 d3 fd3
    obtain ⟨o0, fo0, zo0⟩ := own_cell hb (b := w1.heap.size) (o := 0) (v := .int .i64 base) (by first | assumption | (simp [go_sem]; done) | (simp [go_sem, *]; done)) (by first | assumption | (simp [go_sem]; done) | (simp [go_sem, *]; done))
    obtain ⟨o1, fo1, zo1⟩ := own_cell hb (b := w1.heap.size) (o := 1) (v := .int .i64 size) (by first | assumption | (simp [go_sem]; done) | (simp [go_sem, *]; done)) (by first | assumption | (simp [go_sem]; done) | (simp [go_sem, *]; done))
    obtain ⟨o2, fo2, zo2⟩ := own_cell hb (b := w1.heap.size) (o := 2) (v := .int .i64 count) (by first | assumption | (simp [go_sem]; done) | (simp [go_sem, *]; done)) (by first | assumption | (simp [go_sem]; done) | (simp [go_sem, *]; done))
    obtain ⟨o3, fo3, zo3⟩ := own_cell hb (b := w1.heap.size) (o := 3) (v := .slice A1 n c1) (by first | assumption | (simp [go_sem]; done) | (simp [go_sem, *]; done)) (by first | assumption | (simp [go_sem]; done) | (simp [go_sem, *]; done))
    have ho := own_ext ho hb1
    have k2 := ext_step k1 k1.size hb1
    have z1 := hb1.size
    have hr2 := hr.to k2
    clear hb hb1 ka hr1
    go_wp2
    refine bodyPost_ret (v := .tuple #[.agg #[.int .i64 base, .int .i64 size, .int .i64 count, .slice A1 n c1], .slice (some ⟨w2.heap.size, 0, none⟩) 0 0, .bool false]) (by simp [results, Try.results26, go_sem, d0, d1, d2, d3, o0, o1, o2, o3, zd0]) rfl ?_
    exact ⟨A1, c1, some ⟨w2.heap.size, 0, none⟩, 0, rfl, World.ownsRow.alloc (by repeat (first | (with_reducible exact ho) | refine own_set_ne ?_ (fun e => by have := q1 _ e; (try dsimp only at this); omega) _)) _, own_empty (blk_at (by simp)) k2.size, by go_grown⟩
  · cases e2 : inB x 0 (n : Int)
    · have hO : tkOk base size count l x = false := by simp [tkOk, e1, e2, hn]
      have hF : tkF base size count l x = l := by rw [tkF, hO]; rfl
      have hL : tkL base size count l x = [] := by rw [tkL, hO]; rfl
      rw [hF, hL, hO, hn]
      clear hF hL hO
      go_enter Try.func26, Try.ntmps26
      go_wp2_with fail
      refine (l21Copy_c _ _ _ _ _ _ l _ hn (by omega) (hr.to (by go_grown))).mono ?_
      rintro e w1 ⟨A1, c1, rfl, ho, hb⟩
      obtain ⟨p0, fp0, zp0⟩ := own_cell hb (b := w.heap.size) (o := 0) (v := .int .i64 base) (by first | assumption | (simp [go_sem]; done) | (simp [go_sem, *]; done)) (by first | assumption | (simp [go_sem]; done) | (simp [go_sem, *]; done))
      obtain ⟨p1, fp1, zp1⟩ := own_cell hb (b := w.heap.size) (o := 1) (v := .int .i64 size) (by first | assumption | (simp [go_sem]; done) | (simp [go_sem, *]; done)) (by first | assumption | (simp [go_sem]; done) | (simp [go_sem, *]; done))
      obtain ⟨p2, fp2, zp2⟩ := own_cell hb (b := w.heap.size) (o := 2) (v := .int .i64 count) (by first | assumption | (simp [go_sem]; done) | (simp [go_sem, *]; done)) (by first | assumption | (simp [go_sem]; done) | (simp [go_sem, *]; done))
      obtain ⟨p3, fp3, zp3⟩ := own_cell hb (b := w.heap.size) (o := 3) (v := .slice A n c) (by first | assumption | (simp [go_sem]; done) | (simp [go_sem, *]; done)) (by first | assumption | (simp [go_sem]; done) | (simp [go_sem, *]; done))
      obtain ⟨d0, fd0, zd0⟩ := own_cell hb (b := w.heap.size + 1) (o := 0) (v := .int .i64 0) (by first | assumption | (simp [go_sem]; done) | (simp [go_sem, *]; done)) (by first | assumption | (simp [go_sem]; done) | (simp [go_sem, *]; done))
      obtain ⟨d1, fd1, zd1⟩ := own_cell hb (b := w.heap.size + 1) (o := 1) (v := .int .i64 0) (by first | assumption | (simp [go_sem]; done) | (simp [go_sem, *]; done)) (by first | assumption | (simp [go_sem]; done) | (simp [go_sem, *]; done))
      obtain ⟨d2, fd2, zd2⟩ := own_cell hb (b := w.heap.size + 1) (o := 2) (v := .int .i64 0) (by first | assumption | (simp [go_sem]; done) | (simp [go_sem, *]; done)) (by first | assumption | (simp [go_sem]; done) | (simp [go_sem, *]; done))
      obtain ⟨d3, fd3, zd3⟩ := own_cell hb (b := w.heap.size + 1) (o := 3) (v := .slice none 0 0) (by first | assumption | (simp [go_sem]; done) | (simp [go_sem, *]; done)) (by first | assumption | (simp [go_sem]; done) | (simp [go_sem, *]; done))
      have k1 : Below w.heap.size w w1 := ext_step (by go_grown) (by go_size) hb
      have q1 : ∀ k, (Value.slice A1 n c1).ownBlock = some k → w.heap.size + 1 < k := fun k hk => by have := (ho.lt k hk).1; simp at this; omega
      have q2 := fun k hk => (ho.lt k hk).2
      have ho := own_base ho (base' := w.heap.size) (by simp; omega)
      have ka : Below w1.heap.size w1 (w1.alloc (.cells #[.int .i64 base, .int .i64 size, .int .i64 count, .slice A1 n c1] 27)) := (Below.refl _ _).alloc (Nat.le_refl _) _
      have hr1 := hr.to (k1.trans (ka.mono k1.size))
      clear hb
      go_wp2_with fail
      refine (calls_bool (specPoolOk_c _ _ _ _ _ _ l _ hn (by omega) hr1) e1).mono ?_
      rintro e w2 ⟨rfl, hb⟩
      have hb1 := ext_step ka ka.size hb
      obtain ⟨p0, fp0, zp0⟩ := own_cell hb1 p0 fp0
      obtain ⟨p1, fp1, zp1⟩ := own_cell hb1 p1 fp1
      obtain ⟨p2, fp2, zp2⟩ := own_cell hb1 p2 fp2
      obtain ⟨p3, fp3, zp3⟩ := own_cell hb1 p3 fp3
      obtain ⟨d0, fd0, zd0⟩ := own_cell hb1 d0 fd0
      obtain ⟨d1, fd1, zd1⟩ := own_cell hb1 d1 fd1
      obtain ⟨d2, fd2, zd2⟩ := own_cell hb1 d2 fd2
      obtain ⟨d3, fd3, zd3⟩ := own_cell hb1 d3 fd3
      obtain ⟨o0, fo0, zo0⟩ := own_cell hb (b := w1.heap.size) (o := 0) (v := .int .i64 base) (by first | assumption | (simp [go_sem]; done) | (simp [go_sem, *]; done)) (by first | assumption | (simp [go_sem]; done) | (simp [go_sem, *]; done))
      obtain ⟨o1, fo1, zo1⟩ := own_cell hb (b := w1.heap.size) (o := 1) (v := .int .i64 size) (by first | assumption | (simp [go_sem]; done) | (simp [go_sem, *]; done)) (by first | assumption | (simp [go_sem]; done) | (simp [go_sem, *]; done))
      obtain ⟨o2, fo2, zo2⟩ := own_cell hb (b := w1.heap.size) (o := 2) (v := .int .i64 count) (by first | assumption | (simp [go_sem]; done) | (simp [go_sem, *]; done)) (by first | assumption | (simp [go_sem]; done) | (simp [go_sem, *]; done))
      obtain ⟨o3, fo3, zo3⟩ := own_cell hb (b := w1.heap.size) (o := 3) (v := .slice A1 n c1) (by first | assumption | (simp [go_sem]; done) | (simp [go_sem, *]; done)) (by first | assumption | (simp [go_sem]; done) | (simp [go_sem, *]; done))
      have ho := own_ext ho hb1
      have k2 := ext_step k1 k1.size hb1
      have z1 := hb1.size
      have hr2 := hr.to k2
      clear hb hb1 ka hr1
      go_wp2_with (go_at_call 61; refine (calls_bool (l01In_c _ _ _ _) e2).mono ?_; rintro e w9 ⟨rfl, rfl⟩)
      refine bodyPost_ret (v := .tuple #[.agg #[.int .i64 base, .int .i64 size, .int .i64 count, .slice A1 n c1], .slice (some ⟨w2.heap.size, 0, none⟩) 0 0, .bool false]) (by simp [results, Try.results26, go_sem, d0, d1, d2, d3, o0, o1, o2, o3, zd0]) rfl ?_
      exact ⟨A1, c1, some ⟨w2.heap.size, 0, none⟩, 0, rfl, World.ownsRow.alloc (by repeat (first | (with_reducible exact ho) | refine own_set_ne ?_ (fun e => by have := q1 _ e; (try dsimp only at this); omega) _)) _, own_empty (blk_at (by simp)) k2.size, by go_grown⟩
    · obtain ⟨x1, x2⟩ := inB_t e2
      obtain ⟨m, rfl⟩ := Int.eq_ofNat_of_zero_le x1
      have hmn : m ≤ n := by omega
      have hO : tkOk base size count l m = true := by simp [tkOk, e1, e2, hn]
      have hF : tkF base size count l m = l.drop m := by rw [tkF, hO]; simp
      have hL : tkL base size count l m = l.take m := by rw [tkL, hO]; simp
      have hnF : (l.drop m).length = n - m := by simp [hn]
      have hnL : (l.take m).length = m := by simp [hn]; omega
      rw [hF, hL, hO, hnF, hnL]
      have a1 : (m : Int) ≤ (c : Int) := by omega
      clear hF hL hO hnF hnL
      go_enter Try.func26, Try.ntmps26
      go_wp2_with fail
      refine (l21Copy_c _ _ _ _ _ _ l _ hn (by omega) (hr.to (by go_grown))).mono ?_
      rintro e w1 ⟨A1, c1, rfl, ho, hb⟩
      obtain ⟨p0, fp0, zp0⟩ := own_cell hb (b := w.heap.size) (o := 0) (v := .int .i64 base) (by first | assumption | (simp [go_sem]; done) | (simp [go_sem, *]; done)) (by first | assumption | (simp [go_sem]; done) | (simp [go_sem, *]; done))
      obtain ⟨p1, fp1, zp1⟩ := own_cell hb (b := w.heap.size) (o := 1) (v := .int .i64 size) (by first | assumption | (simp [go_sem]; done) | (simp [go_sem, *]; done)) (by first | assumption | (simp [go_sem]; done) | (simp [go_sem, *]; done))
      obtain ⟨p2, fp2, zp2⟩ := own_cell hb (b := w.heap.size) (o := 2) (v := .int .i64 count) (by first | assumption | (simp [go_sem]; done) | (simp [go_sem, *]; done)) (by first | assumption | (simp [go_sem]; done) | (simp [go_sem, *]; done))
      obtain ⟨p3, fp3, zp3⟩ := own_cell hb (b := w.heap.size) (o := 3) (v := .slice A n c) (by first | assumption | (simp [go_sem]; done) | (simp [go_sem, *]; done)) (by first | assumption | (simp [go_sem]; done) | (simp [go_sem, *]; done))
      obtain ⟨d0, fd0, zd0⟩ := own_cell hb (b := w.heap.size + 1) (o := 0) (v := .int .i64 0) (by first | assumption | (simp [go_sem]; done) | (simp [go_sem, *]; done)) (by first | assumption | (simp [go_sem]; done) | (simp [go_sem, *]; done))
      obtain ⟨d1, fd1, zd1⟩ := own_cell hb (b := w.heap.size + 1) (o := 1) (v := .int .i64 0) (by first | assumption | (simp [go_sem]; done) | (simp [go_sem, *]; done)) (by first | assumption | (simp [go_sem]; done) | (simp [go_sem, *]; done))
      obtain ⟨d2, fd2, zd2⟩ := own_cell hb (b := w.heap.size + 1) (o := 2) (v := .int .i64 0) (by first | assumption | (simp [go_sem]; done) | (simp [go_sem, *]; done)) (by first | assumption | (simp [go_sem]; done) | (simp [go_sem, *]; done))
      obtain ⟨d3, fd3, zd3⟩ := own_cell hb (b := w.heap.size + 1) (o := 3) (v := .slice none 0 0) (by first | assumption | (simp [go_sem]; done) | (simp [go_sem, *]; done)) (by first | assumption | (simp [go_sem]; done) | (simp [go_sem, *]; done))
      have k1 : Below w.heap.size w w1 := ext_step (by go_grown) (by go_size) hb
      have q1 : ∀ k, (Value.slice A1 n c1).ownBlock = some k → w.heap.size + 1 < k := fun k hk => by have := (ho.lt k hk).1; simp at this; omega
      have q2 := fun k hk => (ho.lt k hk).2
      have ho := own_base ho (base' := w.heap.size) (by simp; omega)
      have ka : Below w1.heap.size w1 (w1.alloc (.cells #[.int .i64 base, .int .i64 size, .int .i64 count, .slice A1 n c1] 27)) := (Below.refl _ _).alloc (Nat.le_refl _) _
      have hr1 := hr.to (k1.trans (ka.mono k1.size))
      clear hb
      go_wp2_with fail
      refine (calls_bool (specPoolOk_c _ _ _ _ _ _ l _ hn (by omega) hr1) e1).mono ?_
      rintro e w2 ⟨rfl, hb⟩
      have hb1 := ext_step ka ka.size hb
      obtain ⟨p0, fp0, zp0⟩ := own_cell hb1 p0 fp0
      obtain ⟨p1, fp1, zp1⟩ := own_cell hb1 p1 fp1
      obtain ⟨p2, fp2, zp2⟩ := own_cell hb1 p2 fp2
      obtain ⟨p3, fp3, zp3⟩ := own_cell hb1 p3 fp3
      obtain ⟨d0, fd0, zd0⟩ := own_cell hb1 d0 fd0
      obtain ⟨d1, fd1, zd1⟩ := own_cell hb1 d1 fd1
      obtain ⟨d2, fd2, zd2⟩ := own_cell hb1 d2 fd2
      obtain ⟨d3, fd3, zd3⟩ := own_cell hb1 d3 fd3
      obtain ⟨o0, fo0, zo0⟩ := own_cell hb (b := w1.heap.size) (o := 0) (v := .int .i64 base) (by first | assumption | (simp [go_sem]; done) | (simp [go_sem, *]; done)) (by first | assumption | (simp [go_sem]; done) | (simp [go_sem, *]; done))
      obtain ⟨o1, fo1, zo1⟩ := own_cell hb (b := w1.heap.size) (o := 1) (v := .int .i64 size) (by first | assumption | (simp [go_sem]; done) | (simp [go_sem, *]; done)) (by first | assumption | (simp [go_sem]; done) | (simp [go_sem, *]; done))
      obtain ⟨o2, fo2, zo2⟩ := own_cell hb (b := w1.heap.size) (o := 2) (v := .int .i64 count) (by first | assumption | (simp [go_sem]; done) | (simp [go_sem, *]; done)) (by first | assumption | (simp [go_sem]; done) | (simp [go_sem, *]; done))
      obtain ⟨o3, fo3, zo3⟩ := own_cell hb (b := w1.heap.size) (o := 3) (v := .slice A1 n c1) (by first | assumption | (simp [go_sem]; done) | (simp [go_sem, *]; done)) (by first | assumption | (simp [go_sem]; done) | (simp [go_sem, *]; done))
      have ho := own_ext ho hb1
      have k2 := ext_step k1 k1.size hb1
      have z1 := hb1.size
      have hr2 := hr.to k2
      clear hb hb1 ka hr1
      have hsrc := hr2.cut (k := m) hmn hnc
      rw [Nat.mul_one, show (l.flatMap (fun x : Int => [Value.int .i64 x])).drop m = (l.drop m).flatMap (fun x : Int => [Value.int .i64 x]) by have := flat_dropG (cells := (fun x : Int => [Value.int .i64 x])) (size := 1) (fun _ => rfl) l m; rwa [Nat.mul_one] at this] at hsrc
      have hrt := hr2.take hmn
      rw [Nat.mul_one, show (l.flatMap (fun x : Int => [Value.int .i64 x])).take m = (l.take m).flatMap (fun x : Int => [Value.int .i64 x]) by have := flat_takeG (cells := (fun x : Int => [Value.int .i64 x])) (size := 1) (fun _ => rfl) l m; rwa [Nat.mul_one] at this] at hrt
      by_cases hc : c = m
      all_goals
        first
          | rw [if_pos hc] at hsrc
          | rw [if_neg hc] at hsrc
        have z4' := k2.size
        go_wp2_with (first | (go_at_call 61; refine (calls_bool (l01In_c _ _ _ _) e2).mono ?_; rintro e w9 ⟨rfl, rfl⟩) | (at_builtin; refine wpList_append_any _ rfl _ _ 22 rfl _ 3 i0 (.int .i64 0) 1 8 Try.underlying22 hi hz0 hz1 hz2 rfl (by decide) _ 0 [] rfl (own_empty (Blk.new _ _ []) (Nat.le_refl _)) _ _ (n - m) _ ((l.drop m).flatMap (fun x : Int => [Value.int .i64 x])) rfl (hsrc3.alloc (Nat.le_refl _) _) (one_flat fun x u hu => by simp [] at hu; subst hu; rfl) (by unfold maxLen; omega) (by omega) (by go_size) ?_; intro v4 w4 hown hg hat; have hb : Below w3.heap.size w3 w4 := below_app ((Below.refl _ _).alloc (Nat.le_refl _) _) (own_empty (Blk.new _ _ []) (Nat.le_refl _) (size := 1)) hg (by simp); rw [Nat.zero_add, List.nil_append] at hown; have ho4 := hown; have ho5 := own_ext ho3 hb; have hoQ := own_ext hoP hb; have k4 := ext_step k3 k3.size hb; have z4 := hb.size; have q4 := (fun k hk => (ho4.lt k hk).1); obtain ⟨p0, fp0, zp0⟩ := own_cell hb p0 fp0; obtain ⟨p1, fp1, zp1⟩ := own_cell hb p1 fp1; obtain ⟨p2, fp2, zp2⟩ := own_cell hb p2 fp2; obtain ⟨p3, fp3, zp3⟩ := own_cell hb p3 fp3; obtain ⟨d0, fd0, zd0⟩ := own_cell hb d0 fd0; obtain ⟨d1, fd1, zd1⟩ := own_cell hb d1 fd1; obtain ⟨d2, fd2, zd2⟩ := own_cell hb d2 fd2; obtain ⟨d3, fd3, zd3⟩ := own_cell hb d3 fd3; obtain ⟨o0, fo0, zo0⟩ := own_cell hb o0 fo0; obtain ⟨o1, fo1, zo1⟩ := own_cell hb o1 fo1; obtain ⟨o2, fo2, zo2⟩ := own_cell hb o2 fo2; obtain ⟨o3, fo3, zo3⟩ := own_cell hb o3 fo3; obtain ⟨A4, c4, rfl, _, _, _⟩ := own_form ho4; clear hb hown hsrc3; clear hg hat) | (at_builtin; refine wpList_append_any _ rfl _ _ 22 rfl _ 3 i0 (.int .i64 0) 1 8 Try.underlying22 hi hz0 hz1 hz2 rfl (by decide) _ 0 [] rfl (own_empty (Blk.new _ _ []) (Nat.le_refl _)) _ A m _ ((l.take m).flatMap (fun x : Int => [Value.int .i64 x])) rfl (hrt.alloc (Nat.le_refl _) _) (one_flat fun x u hu => by simp [] at hu; subst hu; rfl) (by unfold maxLen; omega) (by omega) (by go_size) ?_; intro v3 w3 hown hg hat; have hb : Below w2.heap.size w2 w3 := below_app ((Below.refl _ _).alloc (Nat.le_refl _) _) (own_empty (Blk.new _ _ []) (Nat.le_refl _) (size := 1)) hg (by simp); rw [Nat.zero_add, List.nil_append] at hown; have ho3 := hown; have hoP := own_ext ho hb; have k3 := ext_step k2 k2.size hb; have z3 := hb.size; have hsrc3 := hsrc.to hb; obtain ⟨p0, fp0, zp0⟩ := own_cell hb p0 fp0; obtain ⟨p1, fp1, zp1⟩ := own_cell hb p1 fp1; obtain ⟨p2, fp2, zp2⟩ := own_cell hb p2 fp2; obtain ⟨p3, fp3, zp3⟩ := own_cell hb p3 fp3; obtain ⟨d0, fd0, zd0⟩ := own_cell hb d0 fd0; obtain ⟨d1, fd1, zd1⟩ := own_cell hb d1 fd1; obtain ⟨d2, fd2, zd2⟩ := own_cell hb d2 fd2; obtain ⟨d3, fd3, zd3⟩ := own_cell hb d3 fd3; obtain ⟨o0, fo0, zo0⟩ := own_cell hb o0 fo0; obtain ⟨o1, fo1, zo1⟩ := own_cell hb o1 fo1; obtain ⟨o2, fo2, zo2⟩ := own_cell hb o2 fo2; obtain ⟨o3, fo3, zo3⟩ := own_cell hb o3 fo3; obtain ⟨A3, c3, rfl, _, _, _⟩ := own_form ho3; clear hb hown; clear hg hat))
        refine bodyPost_ret (v := .tuple #[.agg #[.int .i64 base, .int .i64 size, .int .i64 count, .slice A4 (n - m) c4], .slice A3 m c3, .bool true]) (by simp [results, Try.results26, go_sem, d0, d1, d2, d3, o0, o1, o2, o3]) rfl ?_
        have ho4 := own_base ho4 (base' := w.heap.size) (by omega)
        have q5 := fun k hk => (ho5.lt k hk).1
        have ho5 := own_base ho5 (base' := w.heap.size) (by omega)
        exact ⟨A4, c4, A3, c3, rfl, by repeat (first | (with_reducible exact ho4) | refine own_set_ne ?_ (fun e => by have := q4 _ e; (try dsimp only at this); omega) _), by repeat (first | (with_reducible exact ho5) | refine own_set_ne ?_ (fun e => by have := q5 _ e; (try dsimp only at this); omega) _), by go_grown⟩
end Go.Proofs.Ytojkakafomieiaa
