/- Contracts of ScatterPieces: impl and spec. -/
import Derived.Test.YtnnlagmgdfhaiaaPiecesOk
import Derived.Test.YtnnlagmgdfhaiaaDmaPut
import Derived.Test.YtnnlagmgdfhaiaaDmaPutS
import Derived.Test.YtnnlagmgdfhaiaaSlots4
namespace Go.Proofs.Ytnnlagmgdfhaiaa
set_option linter.unusedSimpArgs false
set_option linter.unusedVariables false
open Go.RowKit Go.ChangeShapes Go.WideShapes
/-- How many bytes go to a piece. -/
def scN (x : Piece) (t : ByteArray) : Nat := min x.ln.toNat t.size
/-- The pages behind the writes to the pieces. -/
def scG (l : List Mapping) (d : Int) : List Piece → List ByteArray → ByteArray → Option (List ByteArray)
  | [], p, _ => some p
  | x :: ps, p, t => if dmaOk l p d x.at_ (t.extract 0 (scN x t)).size true = true then scG l d ps (dmaW l p d x.at_ (t.extract 0 (scN x t)) true) (t.extract (scN x t) t.size) else none
def scatB (l : List Mapping) (pg : List ByteArray) (d : Int) (ps : List Piece) (s : ByteArray) : Bool := decide ((s.size : Int) ≤ lenP ps) && (scG l d ps pg s).isSome
def scatM (l : List Mapping) (pg : List ByteArray) (d : Int) (ps : List Piece) (s : ByteArray) : List ByteArray := if scatB l pg d ps s then (scG l d ps pg s).getD pg else pg
section
variable {l : List Mapping} {pg : List ByteArray} {d : Int} {ps : List Piece} {s : ByteArray}
theorem scat_long (h : lenP ps < (s.size : Int)) : scatB l pg d ps s = false := by
  rw [scatB, show decide ((s.size : Int) ≤ lenP ps) = false by simpa using h, Bool.false_and]
theorem scat_none (h : scG l d ps pg s = none) : scatB l pg d ps s = false := by rw [scatB, h]; simp
theorem scat_some {q : List ByteArray} (h0 : ¬ lenP ps < (s.size : Int)) (h : scG l d ps pg s = some q) : scatB l pg d ps s = true ∧ scatM l pg d ps s = q := by
  have h1 : scatB l pg d ps s = true := by rw [scatB, h, show decide ((s.size : Int) ≤ lenP ps) = true by simpa using h0]; rfl
  exact ⟨h1, by rw [scatM, if_pos h1, h]; rfl⟩
theorem scat_no (h : scatB l pg d ps s = false) : scatM l pg d ps s = pg := by rw [scatM, h]; rfl
theorem scG_len : ∀ (ps : List Piece) (p q : List ByteArray) (t : ByteArray), scG l d ps p t = some q → q.length = p.length
  | [], p, q, t, h => by rw [scG] at h; injection h with h; rw [h]
  | x :: ps, p, q, t, h => by
    rw [scG] at h
    split at h
    · rw [scG_len ps _ _ _ h, dmaW_len]
    · cases h
theorem scatM_len : (scatM l pg d ps s).length = pg.length := by
  unfold scatM
  split
  · cases h : scG l d ps pg s with
    | none => rfl
    | some q => exact scG_len _ _ _ _ h
  · rfl
theorem scG_step {p : List ByteArray} {t : ByteArray} {k : Nat} {x : Piece} (hx : ps[k]? = some x) :
    scG l d (ps.drop k) p t = if dmaOk l p d x.at_ (t.extract 0 (scN x t)).size true = true then scG l d (ps.drop (k + 1)) (dmaW l p d x.at_ (t.extract 0 (scN x t)) true) (t.extract (scN x t) t.size) else none := by
  have hk : k < ps.length := (List.getElem?_eq_some_iff.1 hx).1
  have hxe : ps[k] = x := (List.getElem?_eq_some_iff.1 hx).2
  rw [List.drop_eq_getElem_cons hk, hxe, scG]
theorem lenP_ok (h : ¬ lenP ps < (s.size : Int)) : piecesB ps = true := by
  cases hp : piecesB ps with
  | true => rfl
  | false => exfalso; rw [lenP, hp] at h; simp at h; omega
end
set_option maxRecDepth 100000 in
set_option maxHeartbeats 8000000 in
theorem implScatterPieces_c (A A' A3 : Option Addr) (n c n' c' n3 c3 : Nat) (l : List Mapping) (pg : List ByteArray) (ps : List Piece) (w : World) (hn_a : l.length = n) (hn_b : pg.length = n') (hn_p : ps.length = n3) (hs_a : n ≤ 1048576) (hs_b : n' ≤ 1048576) (hs_p : n3 ≤ 1048576) (r_a : Reads w w.heap.size 4 A n (l.flatMap Mapping.cells)) (r_b : Reads w w.heap.size 1 A' n' (pg.flatMap fun x : ByteArray => [Value.string x])) (r_p : Reads w w.heap.size 2 A3 n3 (ps.flatMap Piece.cells)) (d : Int) (hi3 : ∀ x ∈ ps, x.ok) (s : ByteArray) (hsz : s.size ≤ 1048576) :
    Calls Try.prog 44 #[.slice A n c, .agg #[.slice A' n' c'], .int .i64 d, .slice A3 n3 c3, .string s] w fun e w' => ∃ A2 c2, e = .returned (.tuple #[.agg #[.slice A2 n' c2], .bool (scatB l pg d ps s)]) ∧ w'.ownsRow w.heap.size 9 1 (.slice A2 n' c2) n' ((scatM l pg d ps s).flatMap fun x : ByteArray => [Value.string x]) ∧ Below w.heap.size w w' := by
  have HN3 := Lib.hid hn_p
  have HI3 := Lib.hid hi3
  clear hi3
  by_cases hl : lenP ps < (s.size : Int)
  · rw [scat_no (scat_long hl), scat_long hl]
    cases hok : piecesB ps
    · have ra0 := r_a
      have rb0 := r_b
      have rp0 := r_p
      go_enter Try.func44, Try.ntmps44
      go_wp2_with fail
      have k0 : Below w.heap.size w ((w.alloc (.cells #[.slice A' n' c'] 39)).alloc (.cells #[.slice none 0 0] 39)) := by go_grown
      have bx0_0 : ((w.alloc (.cells #[.slice A' n' c'] 39)).alloc (.cells #[.slice none 0 0] 39)).cell? ⟨w.heap.size, 0, none⟩ = some (.slice A' n' c') := by simp [go_sem]
      have bl0 : w.heap.size < ((w.alloc (.cells #[.slice A' n' c'] 39)).alloc (.cells #[.slice none 0 0] 39)).heap.size := by go_size
      have hk0 : Blk ((w.alloc (.cells #[.slice A' n' c'] 39)).alloc (.cells #[.slice none 0 0] 39)) (w.heap.size) 39 [.slice A' n' c'] := by simpa using (Blk.new w 39 [.slice A' n' c']).alloc (.cells #[.slice none 0 0] 39)
      have bx1_0 : ((w.alloc (.cells #[.slice A' n' c'] 39)).alloc (.cells #[.slice none 0 0] 39)).cell? ⟨w.heap.size + 1, 0, none⟩ = some (.slice none 0 0) := by simp [go_sem]
      have bl1 : w.heap.size + 1 < ((w.alloc (.cells #[.slice A' n' c'] 39)).alloc (.cells #[.slice none 0 0] 39)).heap.size := by go_size
      have hk1 : Blk ((w.alloc (.cells #[.slice A' n' c'] 39)).alloc (.cells #[.slice none 0 0] 39)) (w.heap.size + 1) 39 [.slice none 0 0] := by simpa using Blk.new (w.alloc (.cells #[.slice A' n' c'] 39)) 39 [.slice none 0 0]
      have r_a := r_a.below k0
      have r_b := r_b.below k0
      have r_p := r_p.below k0
      have p0 := k0.size
      generalize hW0 : ((w.alloc (.cells #[.slice A' n' c'] 39)).alloc (.cells #[.slice none 0 0] 39)) = w0 at *
      clear hW0
      have bx0_0 : w0.cell? ⟨w.heap.size, 0, none⟩ = some (.slice A' n' c') := (hk0.cell 0).trans rfl
      have fz0_0 := hk0.frozen 0
      have bx1_0 : w0.cell? ⟨w.heap.size + 1, 0, none⟩ = some (.slice none 0 0) := (hk1.cell 0).trans rfl
      have fz1_0 := hk1.frozen 0
      refine (calls_bool (implPiecesOk_c _ _ _ _ _ hn_p (by omega) (r_p.more (by omega))) hok).mono ?_
      rintro e w1 ⟨rfl, hb⟩
      have k1 : Below w.heap.size w w1 := ext_step k0 (by omega) hb
      have p1 := hb.size
      have hk0 := hk0.ext hb
      have hk1 := hk1.ext hb
      have bx0_0 : w1.cell? ⟨w.heap.size, 0, none⟩ = some (.slice A' n' c') := (hk0.cell 0).trans rfl
      have fz0_0 := hk0.frozen 0
      have bx1_0 : w1.cell? ⟨w.heap.size + 1, 0, none⟩ = some (.slice none 0 0) := (hk1.cell 0).trans rfl
      have fz1_0 := hk1.frozen 0
      have bl0 := Nat.lt_of_lt_of_le bl0 hb.size
      have bl1 := Nat.lt_of_lt_of_le bl1 hb.size
      have r_a := r_a.below (hb.mono (by omega))
      have r_b := r_b.below (hb.mono (by omega))
      have r_p := r_p.below (hb.mono (by omega))
      clear hb
      go_wp2_with fail
      refine (copyMemory_c _ _ _ pg _ hn_b (by omega) (r_b.more (by omega))).mono ?_
      rintro e w2 ⟨A_q, c_q, rfl, o_q, hb⟩
      have k2 : Below w.heap.size w w2 := ext_step k1 (by omega) hb
      have p2 := hb.size
      have hk0 := hk0.ext hb
      have hk1 := hk1.ext hb
      have bx0_0 : w2.cell? ⟨w.heap.size, 0, none⟩ = some (.slice A' n' c') := (hk0.cell 0).trans rfl
      have fz0_0 := hk0.frozen 0
      have bx1_0 : w2.cell? ⟨w.heap.size + 1, 0, none⟩ = some (.slice none 0 0) := (hk1.cell 0).trans rfl
      have fz1_0 := hk1.frozen 0
      have bl0 := Nat.lt_of_lt_of_le bl0 hb.size
      have bl1 := Nat.lt_of_lt_of_le bl1 hb.size
      have r_a := r_a.below (hb.mono (by omega))
      have r_b := r_b.below (hb.mono (by omega))
      have r_p := r_p.below (hb.mono (by omega))
      have r_q := Reads.of_own o_q
      have u_q := fun k hk => (o_q.lt k hk).2
      clear hb
      go_wp2_with fail
      have hc : ChgA (w.heap.size + 1) w2 (w2.setCell ⟨w.heap.size + 1, 0, none⟩ (.slice A_q n' c_q)) := (ChgA.refl _ _).set _ _
      have hko := hk1
      have hk0 := hk0.chgA hc (by omega)
      have hk1 : Blk (w2.setCell ⟨w.heap.size + 1, 0, none⟩ (.slice A_q n' c_q)) (w.heap.size + 1) 39 [.slice A_q n' c_q] := hk1.set_ 0 _
      have k3 : Below w.heap.size w (w2.setCell ⟨w.heap.size + 1, 0, none⟩ (.slice A_q n' c_q)) := hc.below (by omega) k2
      have p3 : (w2.setCell ⟨w.heap.size + 1, 0, none⟩ (.slice A_q n' c_q)).heap.size = w2.heap.size := hc.size
      have bl0 := Nat.lt_of_lt_of_le bl0 (Nat.le_of_eq p3.symm)
      have bl1 := Nat.lt_of_lt_of_le bl1 (Nat.le_of_eq p3.symm)
      have r_a := r_a.below (hc.below (by omega) (Below.refl _ _))
      have r_b := r_b.below (hc.below (by omega) (Below.refl _ _))
      have r_p := r_p.below (hc.below (by omega) (Below.refl _ _))
      have o_q := own_chgA o_q hc (by first | exact own_ty o_q hko (by decide) | exact fun k hk => by have h1 := o_q.lt k hk; omega)
      have r_q := Reads.of_own o_q
      generalize hW0 : (w2.setCell ⟨w.heap.size + 1, 0, none⟩ (.slice A_q n' c_q)) = w3 at *
      clear hW0 hc hko
      have bx0_0 : w3.cell? ⟨w.heap.size, 0, none⟩ = some (.slice A' n' c') := (hk0.cell 0).trans rfl
      have fz0_0 := hk0.frozen 0
      have bx1_0 : w3.cell? ⟨w.heap.size + 1, 0, none⟩ = some (.slice A_q n' c_q) := (hk1.cell 0).trans rfl
      have fz1_0 := hk1.frozen 0
      refine bodyPost_ret (v := .tuple #[.agg #[.slice A_q n' c_q], .bool false]) (by simp [results, Try.results44, go_sem, bx1_0]) rfl ?_
      exact ⟨A_q, c_q, rfl, own_base o_q (by omega), k3⟩
    · have ra0 := r_a
      have rb0 := r_b
      have rp0 := r_p
      go_enter Try.func44, Try.ntmps44
      go_wp2_with fail
      have k0 : Below w.heap.size w ((w.alloc (.cells #[.slice A' n' c'] 39)).alloc (.cells #[.slice none 0 0] 39)) := by go_grown
      have bx0_0 : ((w.alloc (.cells #[.slice A' n' c'] 39)).alloc (.cells #[.slice none 0 0] 39)).cell? ⟨w.heap.size, 0, none⟩ = some (.slice A' n' c') := by simp [go_sem]
      have bl0 : w.heap.size < ((w.alloc (.cells #[.slice A' n' c'] 39)).alloc (.cells #[.slice none 0 0] 39)).heap.size := by go_size
      have hk0 : Blk ((w.alloc (.cells #[.slice A' n' c'] 39)).alloc (.cells #[.slice none 0 0] 39)) (w.heap.size) 39 [.slice A' n' c'] := by simpa using (Blk.new w 39 [.slice A' n' c']).alloc (.cells #[.slice none 0 0] 39)
      have bx1_0 : ((w.alloc (.cells #[.slice A' n' c'] 39)).alloc (.cells #[.slice none 0 0] 39)).cell? ⟨w.heap.size + 1, 0, none⟩ = some (.slice none 0 0) := by simp [go_sem]
      have bl1 : w.heap.size + 1 < ((w.alloc (.cells #[.slice A' n' c'] 39)).alloc (.cells #[.slice none 0 0] 39)).heap.size := by go_size
      have hk1 : Blk ((w.alloc (.cells #[.slice A' n' c'] 39)).alloc (.cells #[.slice none 0 0] 39)) (w.heap.size + 1) 39 [.slice none 0 0] := by simpa using Blk.new (w.alloc (.cells #[.slice A' n' c'] 39)) 39 [.slice none 0 0]
      have r_a := r_a.below k0
      have r_b := r_b.below k0
      have r_p := r_p.below k0
      have p0 := k0.size
      generalize hW0 : ((w.alloc (.cells #[.slice A' n' c'] 39)).alloc (.cells #[.slice none 0 0] 39)) = w0 at *
      clear hW0
      have bx0_0 : w0.cell? ⟨w.heap.size, 0, none⟩ = some (.slice A' n' c') := (hk0.cell 0).trans rfl
      have fz0_0 := hk0.frozen 0
      have bx1_0 : w0.cell? ⟨w.heap.size + 1, 0, none⟩ = some (.slice none 0 0) := (hk1.cell 0).trans rfl
      have fz1_0 := hk1.frozen 0
      refine (calls_bool (implPiecesOk_c _ _ _ _ _ hn_p (by omega) (r_p.more (by omega))) hok).mono ?_
      rintro e w1 ⟨rfl, hb⟩
      have k1 : Below w.heap.size w w1 := ext_step k0 (by omega) hb
      have p1 := hb.size
      have hk0 := hk0.ext hb
      have hk1 := hk1.ext hb
      have bx0_0 : w1.cell? ⟨w.heap.size, 0, none⟩ = some (.slice A' n' c') := (hk0.cell 0).trans rfl
      have fz0_0 := hk0.frozen 0
      have bx1_0 : w1.cell? ⟨w.heap.size + 1, 0, none⟩ = some (.slice none 0 0) := (hk1.cell 0).trans rfl
      have fz1_0 := hk1.frozen 0
      have bl0 := Nat.lt_of_lt_of_le bl0 hb.size
      have bl1 := Nat.lt_of_lt_of_le bl1 hb.size
      have r_a := r_a.below (hb.mono (by omega))
      have r_b := r_b.below (hb.mono (by omega))
      have r_p := r_p.below (hb.mono (by omega))
      clear hb
      go_wp2_with fail
      refine (implPiecesLength_c _ _ _ _ _ hn_p (by omega) (r_p.more (by omega))).mono ?_
      rintro e w2 ⟨rfl, hb⟩
      have k2 : Below w.heap.size w w2 := ext_step k1 (by omega) hb
      have p2 := hb.size
      have hk0 := hk0.ext hb
      have hk1 := hk1.ext hb
      have bx0_0 : w2.cell? ⟨w.heap.size, 0, none⟩ = some (.slice A' n' c') := (hk0.cell 0).trans rfl
      have fz0_0 := hk0.frozen 0
      have bx1_0 : w2.cell? ⟨w.heap.size + 1, 0, none⟩ = some (.slice none 0 0) := (hk1.cell 0).trans rfl
      have fz1_0 := hk1.frozen 0
      have bl0 := Nat.lt_of_lt_of_le bl0 hb.size
      have bl1 := Nat.lt_of_lt_of_le bl1 hb.size
      have r_a := r_a.below (hb.mono (by omega))
      have r_b := r_b.below (hb.mono (by omega))
      have r_p := r_p.below (hb.mono (by omega))
      clear hb
      go_wp2_with fail
      refine (copyMemory_c _ _ _ pg _ hn_b (by omega) (r_b.more (by omega))).mono ?_
      rintro e w3 ⟨A_q, c_q, rfl, o_q, hb⟩
      have k3 : Below w.heap.size w w3 := ext_step k2 (by omega) hb
      have p3 := hb.size
      have hk0 := hk0.ext hb
      have hk1 := hk1.ext hb
      have bx0_0 : w3.cell? ⟨w.heap.size, 0, none⟩ = some (.slice A' n' c') := (hk0.cell 0).trans rfl
      have fz0_0 := hk0.frozen 0
      have bx1_0 : w3.cell? ⟨w.heap.size + 1, 0, none⟩ = some (.slice none 0 0) := (hk1.cell 0).trans rfl
      have fz1_0 := hk1.frozen 0
      have bl0 := Nat.lt_of_lt_of_le bl0 hb.size
      have bl1 := Nat.lt_of_lt_of_le bl1 hb.size
      have r_a := r_a.below (hb.mono (by omega))
      have r_b := r_b.below (hb.mono (by omega))
      have r_p := r_p.below (hb.mono (by omega))
      have r_q := Reads.of_own o_q
      have u_q := fun k hk => (o_q.lt k hk).2
      clear hb
      go_wp2_with fail
      have hc : ChgA (w.heap.size + 1) w3 (w3.setCell ⟨w.heap.size + 1, 0, none⟩ (.slice A_q n' c_q)) := (ChgA.refl _ _).set _ _
      have hko := hk1
      have hk0 := hk0.chgA hc (by omega)
      have hk1 : Blk (w3.setCell ⟨w.heap.size + 1, 0, none⟩ (.slice A_q n' c_q)) (w.heap.size + 1) 39 [.slice A_q n' c_q] := hk1.set_ 0 _
      have k4 : Below w.heap.size w (w3.setCell ⟨w.heap.size + 1, 0, none⟩ (.slice A_q n' c_q)) := hc.below (by omega) k3
      have p4 : (w3.setCell ⟨w.heap.size + 1, 0, none⟩ (.slice A_q n' c_q)).heap.size = w3.heap.size := hc.size
      have bl0 := Nat.lt_of_lt_of_le bl0 (Nat.le_of_eq p4.symm)
      have bl1 := Nat.lt_of_lt_of_le bl1 (Nat.le_of_eq p4.symm)
      have r_a := r_a.below (hc.below (by omega) (Below.refl _ _))
      have r_b := r_b.below (hc.below (by omega) (Below.refl _ _))
      have r_p := r_p.below (hc.below (by omega) (Below.refl _ _))
      have o_q := own_chgA o_q hc (by first | exact own_ty o_q hko (by decide) | exact fun k hk => by have h1 := o_q.lt k hk; omega)
      have r_q := Reads.of_own o_q
      generalize hW0 : (w3.setCell ⟨w.heap.size + 1, 0, none⟩ (.slice A_q n' c_q)) = w4 at *
      clear hW0 hc hko
      have bx0_0 : w4.cell? ⟨w.heap.size, 0, none⟩ = some (.slice A' n' c') := (hk0.cell 0).trans rfl
      have fz0_0 := hk0.frozen 0
      have bx1_0 : w4.cell? ⟨w.heap.size + 1, 0, none⟩ = some (.slice A_q n' c_q) := (hk1.cell 0).trans rfl
      have fz1_0 := hk1.frozen 0
      refine bodyPost_ret (v := .tuple #[.agg #[.slice A_q n' c_q], .bool false]) (by simp [results, Try.results44, go_sem, bx1_0]) rfl ?_
      exact ⟨A_q, c_q, rfl, own_base o_q (by omega), k4⟩
  · have HL := Lib.hid hl
    have hok := lenP_ok hl
    have HO := Lib.hid hok
    have ra0 := r_a
    have rb0 := r_b
    have rp0 := r_p
    go_enter Try.func44, Try.ntmps44
    go_wp2_with fail
    have k0 : Below w.heap.size w ((w.alloc (.cells #[.slice A' n' c'] 39)).alloc (.cells #[.slice none 0 0] 39)) := by go_grown
    have bx0_0 : ((w.alloc (.cells #[.slice A' n' c'] 39)).alloc (.cells #[.slice none 0 0] 39)).cell? ⟨w.heap.size, 0, none⟩ = some (.slice A' n' c') := by simp [go_sem]
    have bl0 : w.heap.size < ((w.alloc (.cells #[.slice A' n' c'] 39)).alloc (.cells #[.slice none 0 0] 39)).heap.size := by go_size
    have hk0 : Blk ((w.alloc (.cells #[.slice A' n' c'] 39)).alloc (.cells #[.slice none 0 0] 39)) (w.heap.size) 39 [.slice A' n' c'] := by simpa using (Blk.new w 39 [.slice A' n' c']).alloc (.cells #[.slice none 0 0] 39)
    have bx1_0 : ((w.alloc (.cells #[.slice A' n' c'] 39)).alloc (.cells #[.slice none 0 0] 39)).cell? ⟨w.heap.size + 1, 0, none⟩ = some (.slice none 0 0) := by simp [go_sem]
    have bl1 : w.heap.size + 1 < ((w.alloc (.cells #[.slice A' n' c'] 39)).alloc (.cells #[.slice none 0 0] 39)).heap.size := by go_size
    have hk1 : Blk ((w.alloc (.cells #[.slice A' n' c'] 39)).alloc (.cells #[.slice none 0 0] 39)) (w.heap.size + 1) 39 [.slice none 0 0] := by simpa using Blk.new (w.alloc (.cells #[.slice A' n' c'] 39)) 39 [.slice none 0 0]
    have r_a := r_a.below k0
    have r_b := r_b.below k0
    have r_p := r_p.below k0
    have p0 := k0.size
    generalize hW0 : ((w.alloc (.cells #[.slice A' n' c'] 39)).alloc (.cells #[.slice none 0 0] 39)) = w0 at *
    clear hW0
    have bx0_0 : w0.cell? ⟨w.heap.size, 0, none⟩ = some (.slice A' n' c') := (hk0.cell 0).trans rfl
    have fz0_0 := hk0.frozen 0
    have bx1_0 : w0.cell? ⟨w.heap.size + 1, 0, none⟩ = some (.slice none 0 0) := (hk1.cell 0).trans rfl
    have fz1_0 := hk1.frozen 0
    refine (calls_bool (implPiecesOk_c _ _ _ _ _ hn_p (by omega) (r_p.more (by omega))) hok).mono ?_
    rintro e w1 ⟨rfl, hb⟩
    have k1 : Below w.heap.size w w1 := ext_step k0 (by omega) hb
    have p1 := hb.size
    have hk0 := hk0.ext hb
    have hk1 := hk1.ext hb
    have bx0_0 : w1.cell? ⟨w.heap.size, 0, none⟩ = some (.slice A' n' c') := (hk0.cell 0).trans rfl
    have fz0_0 := hk0.frozen 0
    have bx1_0 : w1.cell? ⟨w.heap.size + 1, 0, none⟩ = some (.slice none 0 0) := (hk1.cell 0).trans rfl
    have fz1_0 := hk1.frozen 0
    have bl0 := Nat.lt_of_lt_of_le bl0 hb.size
    have bl1 := Nat.lt_of_lt_of_le bl1 hb.size
    have r_a := r_a.below (hb.mono (by omega))
    have r_b := r_b.below (hb.mono (by omega))
    have r_p := r_p.below (hb.mono (by omega))
    clear hb
    go_wp2_with fail
    refine (implPiecesLength_c _ _ _ _ _ hn_p (by omega) (r_p.more (by omega))).mono ?_
    rintro e w2 ⟨rfl, hb⟩
    have k2 : Below w.heap.size w w2 := ext_step k1 (by omega) hb
    have p2 := hb.size
    have hk0 := hk0.ext hb
    have hk1 := hk1.ext hb
    have bx0_0 : w2.cell? ⟨w.heap.size, 0, none⟩ = some (.slice A' n' c') := (hk0.cell 0).trans rfl
    have fz0_0 := hk0.frozen 0
    have bx1_0 : w2.cell? ⟨w.heap.size + 1, 0, none⟩ = some (.slice none 0 0) := (hk1.cell 0).trans rfl
    have fz1_0 := hk1.frozen 0
    have bl0 := Nat.lt_of_lt_of_le bl0 hb.size
    have bl1 := Nat.lt_of_lt_of_le bl1 hb.size
    have r_a := r_a.below (hb.mono (by omega))
    have r_b := r_b.below (hb.mono (by omega))
    have r_p := r_p.below (hb.mono (by omega))
    clear hb
    go_wp2_with fail
    refine (copyMemory_c _ _ _ pg _ hn_b (by omega) (r_b.more (by omega))).mono ?_
    rintro e w3 ⟨A_q, c_q, rfl, o_q, hb⟩
    have k3 : Below w.heap.size w w3 := ext_step k2 (by omega) hb
    have p3 := hb.size
    have hk0 := hk0.ext hb
    have hk1 := hk1.ext hb
    have bx0_0 : w3.cell? ⟨w.heap.size, 0, none⟩ = some (.slice A' n' c') := (hk0.cell 0).trans rfl
    have fz0_0 := hk0.frozen 0
    have bx1_0 : w3.cell? ⟨w.heap.size + 1, 0, none⟩ = some (.slice none 0 0) := (hk1.cell 0).trans rfl
    have fz1_0 := hk1.frozen 0
    have bl0 := Nat.lt_of_lt_of_le bl0 hb.size
    have bl1 := Nat.lt_of_lt_of_le bl1 hb.size
    have r_a := r_a.below (hb.mono (by omega))
    have r_b := r_b.below (hb.mono (by omega))
    have r_p := r_p.below (hb.mono (by omega))
    have r_q := Reads.of_own o_q
    have u_q := fun k hk => (o_q.lt k hk).2
    clear hb
    go_wp2_with fail
    have hb : Below w3.heap.size w3 (w3.alloc (.cells #[.slice A_q n' c_q] 39)) := by go_grown
    have bx2_0 : (w3.alloc (.cells #[.slice A_q n' c_q] 39)).cell? ⟨w3.heap.size, 0, none⟩ = some (.slice A_q n' c_q) := by simp [go_sem]
    have bl2 : w3.heap.size < (w3.alloc (.cells #[.slice A_q n' c_q] 39)).heap.size := by go_size
    have hk2 : Blk (w3.alloc (.cells #[.slice A_q n' c_q] 39)) (w3.heap.size) 39 [.slice A_q n' c_q] := Blk.new _ _ _
    generalize hW0 : (w3.alloc (.cells #[.slice A_q n' c_q] 39)) = w4 at *
    clear hW0
    have k4 : Below w.heap.size w w4 := ext_step k3 (by omega) hb
    have p4 := hb.size
    have hk0 := hk0.ext hb
    have hk1 := hk1.ext hb
    have bx0_0 : w4.cell? ⟨w.heap.size, 0, none⟩ = some (.slice A' n' c') := (hk0.cell 0).trans rfl
    have fz0_0 := hk0.frozen 0
    have bx1_0 : w4.cell? ⟨w.heap.size + 1, 0, none⟩ = some (.slice none 0 0) := (hk1.cell 0).trans rfl
    have fz1_0 := hk1.frozen 0
    have bl0 := Nat.lt_of_lt_of_le bl0 hb.size
    have bl1 := Nat.lt_of_lt_of_le bl1 hb.size
    have r_a := r_a.below (hb.mono (by omega))
    have r_b := r_b.below (hb.mono (by omega))
    have r_p := r_p.below (hb.mono (by omega))
    have r_q := r_q.below (hb.mono (by omega))
    have o_q := own_ext o_q hb
    have bx0_0 : w4.cell? ⟨w.heap.size, 0, none⟩ = some (.slice A' n' c') := (hk0.cell 0).trans rfl
    have fz0_0 := hk0.frozen 0
    have bx1_0 : w4.cell? ⟨w.heap.size + 1, 0, none⟩ = some (.slice none 0 0) := (hk1.cell 0).trans rfl
    have fz1_0 := hk1.frozen 0
    have bx2_0 : w4.cell? ⟨w3.heap.size, 0, none⟩ = some (.slice A_q n' c_q) := (hk2.cell 0).trans rfl
    have fz2_0 := hk2.frozen 0
    skip
    clear hb
    go_loopw [4, 34] (fun sv i wr => ∃ (k : Nat) (p : List ByteArray) (t : ByteArray) (A4 : Option Addr) (c4 : Nat), k ≤ n3 ∧ i = .int .i64 (k : Int) ∧ sv = .string t ∧ t.size ≤ 1048576 ∧ Hid (p.length = n') ∧ Hid (scG l d (ps.drop k) p t = scG l d ps pg s) ∧ Below w.heap.size w wr ∧ w3.heap.size < wr.heap.size ∧ Blk wr (w.heap.size) 39 [.slice A' n' c'] ∧ Blk wr (w.heap.size + 1) 39 [.slice none 0 0] ∧ Blk wr (w3.heap.size) 39 [.slice A4 n' c4] ∧ wr.ownsRow (w.heap.size + 1 + 1) 9 1 (.slice A4 n' c4) n' (p.flatMap fun x : ByteArray => [Value.string x])) (fun _ i _ => n3 - (intOf i).toNat)
    case atStart => exact ⟨0, pg, s, A_q, c_q, Nat.zero_le _, rfl, rfl, hsz, hn_b, rfl, k4, bl2, hk0, hk1, hk2, own_base o_q (by omega)⟩
    case round =>
      obtain ⟨k, p, t, A4, c4, hk, rfl, rfl, ht, hpl, hsc, hbw, hw5, hk0, hk1, hk2, o_q⟩ := hrel
      obtain ⟨w9, hw9⟩ : ∃ w9 : World, w9 = wr := ⟨_, rfl⟩
      subst hw9
      have k9 := hbw
      have bl0 := hk0.lt
      have bl1 := hk1.lt
      have bl2 := hk2.lt
      have p9 := hbw.size
      have r_a := ra0.below hbw
      have r_b := rb0.below hbw
      have r_p := rp0.below hbw
      have r_q := Reads.of_own o_q
      by_cases hlt : k < n3
      · skip
        obtain ⟨b3, o3, x, rfl, hb3, hxx, hcx⟩ := rp0.el (fun _ => rfl) (by decide) HN3.out hlt
        have c0 := (hbw.cell (p := ⟨b3, o3 + k * 2, none⟩) hb3).trans (by simpa using hcx 0 _ rfl)
        have c1 := (hbw.cell (p := ⟨b3, o3 + k * 2 + 1, none⟩) hb3).trans (by simpa using hcx 1 _ rfl)
        have HXx := Lib.hid hxx
        clear hxx hcx
        obtain ⟨p1, p2, p3⟩ := piecesB_el HO.out HXx.out
        have pI := HI3.out x (List.mem_of_getElem? HXx.out)
        have hI1 : I64 x.at_ := pI.1
        have i0 : (0 : Int) ≤ (k : Int) := by omega
        have i1 : (k : Int) < (n3 : Int) := by omega
        have hst := (scG_step (l := l) (d := d) (p := p) (t := t) HXx.out)
        have hmd : scN x t = min x.ln.toNat t.size := rfl
        generalize scN x t = m at *
        have hsm : (t.extract 0 m).size = m := by rw [ByteArray.size_extract]; omega
        rw [hsm] at hst
        have HSM := Lib.hid hsm
        clear hsm
        have m0 : m ≤ t.size := by omega
        have m1 : m ≤ 4096 := by omega
        have hE : (t.extract 0 m).size ≤ 1048576 := by rw [ByteArray.size_extract]; omega
        have hE2 : (t.extract m t.size).size ≤ 1048576 := by rw [ByteArray.size_extract]; omega
        have j0 : (0 : Int) ≤ (m : Int) := by omega
        have j1 : (m : Int) ≤ (t.size : Int) := by omega
        have j2 : (m : Int) ≤ 1048576 := by omega
        have hmi : (if (t.size : Int) < x.ln then (t.size : Int) else x.ln) = (m : Int) := by split <;> omega
        clear hmd
        cases hd : dmaOk l p d x.at_ (m : Int) true
        · skip
          have hno : scG l d ps pg s = none := by rw [← hsc.out, hst, hd]; rfl
          have HB := Lib.hid (scat_none hno)
          have HM := Lib.hid (scat_no HB.out)
          clear hno
          have HD := Lib.hid hd
          clear hd hst
          have bx0_0 : w9.cell? ⟨w.heap.size, 0, none⟩ = some (.slice A' n' c') := (hk0.cell 0).trans rfl
          have fz0_0 := hk0.frozen 0
          have bx1_0 : w9.cell? ⟨w.heap.size + 1, 0, none⟩ = some (.slice none 0 0) := (hk1.cell 0).trans rfl
          have fz1_0 := hk1.frozen 0
          have bx2_0 : w9.cell? ⟨w3.heap.size, 0, none⟩ = some (.slice A4 n' c4) := (hk2.cell 0).trans rfl
          have fz2_0 := hk2.frozen 0
          go_wp2_with fail
          have hb : Below w9.heap.size w9 (w9.alloc (.cells #[.int .i64 x.at_, .int .i64 x.ln] 61)) := by go_grown
          have bx3_0 : (w9.alloc (.cells #[.int .i64 x.at_, .int .i64 x.ln] 61)).cell? ⟨w9.heap.size, 0, none⟩ = some (.int .i64 x.at_) := by simp [go_sem]
          have bx3_1 : (w9.alloc (.cells #[.int .i64 x.at_, .int .i64 x.ln] 61)).cell? ⟨w9.heap.size, 1, none⟩ = some (.int .i64 x.ln) := by simp [go_sem]
          have bl3 : w9.heap.size < (w9.alloc (.cells #[.int .i64 x.at_, .int .i64 x.ln] 61)).heap.size := by go_size
          have hk3 : Blk (w9.alloc (.cells #[.int .i64 x.at_, .int .i64 x.ln] 61)) (w9.heap.size) 61 [.int .i64 x.at_, .int .i64 x.ln] := Blk.new _ _ _
          generalize hW0 : (w9.alloc (.cells #[.int .i64 x.at_, .int .i64 x.ln] 61)) = w10 at *
          clear hW0
          have k10 : Below w.heap.size w w10 := ext_step k9 (by omega) hb
          have p10 := hb.size
          have hk0 := hk0.ext hb
          have hk1 := hk1.ext hb
          have hk2 := hk2.ext hb
          have bx0_0 : w10.cell? ⟨w.heap.size, 0, none⟩ = some (.slice A' n' c') := (hk0.cell 0).trans rfl
          have fz0_0 := hk0.frozen 0
          have bx1_0 : w10.cell? ⟨w.heap.size + 1, 0, none⟩ = some (.slice none 0 0) := (hk1.cell 0).trans rfl
          have fz1_0 := hk1.frozen 0
          have bx2_0 : w10.cell? ⟨w3.heap.size, 0, none⟩ = some (.slice A4 n' c4) := (hk2.cell 0).trans rfl
          have fz2_0 := hk2.frozen 0
          have bl0 := Nat.lt_of_lt_of_le bl0 hb.size
          have bl1 := Nat.lt_of_lt_of_le bl1 hb.size
          have bl2 := Nat.lt_of_lt_of_le bl2 hb.size
          have r_a := r_a.below (hb.mono (by omega))
          have r_b := r_b.below (hb.mono (by omega))
          have r_p := r_p.below (hb.mono (by omega))
          have r_q := r_q.below (hb.mono (by omega))
          have o_q := own_ext o_q hb
          have bx0_0 : w10.cell? ⟨w.heap.size, 0, none⟩ = some (.slice A' n' c') := (hk0.cell 0).trans rfl
          have fz0_0 := hk0.frozen 0
          have bx1_0 : w10.cell? ⟨w.heap.size + 1, 0, none⟩ = some (.slice none 0 0) := (hk1.cell 0).trans rfl
          have fz1_0 := hk1.frozen 0
          have bx2_0 : w10.cell? ⟨w3.heap.size, 0, none⟩ = some (.slice A4 n' c4) := (hk2.cell 0).trans rfl
          have fz2_0 := hk2.frozen 0
          have bx3_0 : w10.cell? ⟨w9.heap.size, 0, none⟩ = some (.int .i64 x.at_) := (hk3.cell 0).trans rfl
          have fz3_0 := hk3.frozen 0
          have bx3_1 : w10.cell? ⟨w9.heap.size, 1, none⟩ = some (.int .i64 x.ln) := (hk3.cell 1).trans rfl
          have fz3_1 := hk3.frozen 1
          skip
          clear hb
          refine wp_region_slotsS (w.heap.size) [(44, fun _ v => v = .slice A n c), (45, fun _ v => v = .agg #[.slice A4 n' c4]), (46, fun _ v => v = .int .i64 d), (47, fun _ v => v = .pointer (some ⟨w9.heap.size, 0, none⟩)), (48, fun _ v => v = .int .i64 x.at_), (49, fun _ v => v = .string t), (50, fun _ v => v = .int .i64 (m : Int)), (51, fun _ v => v = .string (t.extract 0 m)), (52, RowP w10.heap.size 9 1 n' ((dmaW l p d x.at_ (t.extract 0 m) true).flatMap fun x : ByteArray => [Value.string x]) (fun A c => .tuple #[.agg #[.slice A n' c], .bool (dmaOk l p d x.at_ (m : Int) true)])), (43, RowP w10.heap.size 9 1 n' ((dmaW l p d x.at_ (t.extract 0 m) true).flatMap fun x : ByteArray => [Value.string x]) (fun A c => .tuple #[.agg #[.slice A n' c], .bool (dmaOk l p d x.at_ (m : Int) true)])), (53, RowP w10.heap.size 9 1 n' ((dmaW l p d x.at_ (t.extract 0 m) true).flatMap fun x : ByteArray => [Value.string x]) (fun A c => .agg #[.slice A n' c])), (54, fun _ v => v = .bool (dmaOk l p d x.at_ (m : Int) true)), (16, BoxP w10.heap.size 39 1), (17, fun _ v => v = .bool (dmaOk l p d x.at_ (m : Int) true))] [⟨13, 16, fun _ => True, StoR w10.heap.size 39 9 1 n' ((dmaW l p d x.at_ (t.extract 0 m) true).flatMap fun x : ByteArray => [Value.string x]) (fun A c => [.slice A n' c])⟩] (fun u => Blk u (w.heap.size) 39 [.slice A' n' c'] ∧ Blk u (w.heap.size + 1) 39 [.slice none 0 0] ∧ Blk u (w3.heap.size) 39 [.slice A4 n' c4] ∧ Blk u (w9.heap.size) 61 [.int .i64 x.at_, .int .i64 x.ln] ∧ u.ownsRow (w.heap.size + 1 + 1) 9 1 (.slice A4 n' c4) n' (p.flatMap fun x : ByteArray => [Value.string x])) (by kernel_rfl) (by omega) (by kernel_rfl) (by kernel_rfl) (by kernel_rfl) (by kernel_rfl) ?_ ?_ ?_ ?_ ?_ ?_ ?_
          · intro p hp
            simp only [List.mem_cons, List.not_mem_nil, or_false] at hp
            rcases hp with rfl | rfl | rfl | rfl | rfl | rfl | rfl | rfl | rfl | rfl | rfl | rfl | rfl | rfl
            all_goals (intro u u' v hb hv; first | exact hv | exact BoxP.keep hv hb | exact RowP.keep hv hb)
          · intro s hs u u' hb
            simp only [List.mem_cons, List.not_mem_nil, or_false] at hs
            rcases hs with rfl
            all_goals (refine ⟨fun h => ?_, fun _ h => ?_⟩ <;> first | exact h | exact StoP.keep h hb | exact StoR.keep h hb | exact Blk.ext h hb | exact StaR.keep h hb)
          · intro s hs
            simp only [List.mem_cons, List.not_mem_nil, or_false] at hs
            rcases hs with rfl
            all_goals first | trivial
          · exact ⟨hk0, hk1, hk2, hk3, o_q⟩
          · intro u u' hb hj
            obtain ⟨j0, j1, j2, j3, j4⟩ := hj
            exact ⟨(j0.ext hb), (j1.ext hb), (j2.ext hb), (j3.ext hb), (own_ext j4 hb)⟩
          · intro hGk hSk hJk
            refine allStep_cons (stepS_plain hGk hSk (by omega) hJk (by kernel_rfl) rfl ?_) ?_
            · intro a u hb hz hj hl hp K Q hK
              have e0 : a.tmps[0]?.getD undef = .slice A n c := gd (hl 0 (by kernel_rfl))
              go_simp
              exact hK _ _ (Below.refl _ _) (by intro d hd; cases hd; exact rfl)
            refine allStep_cons (stepS_plain hGk hSk (by omega) hJk (by kernel_rfl) rfl ?_) ?_
            · intro a u hb hz hj hl hp K Q hK
              have e12 : a.tmps[12]?.getD undef = .pointer (some ⟨w3.heap.size, 0, none⟩) := gd (hl 12 (by kernel_rfl))
              obtain ⟨j0, j1, j2, j3, j4⟩ := hj
              have hBb := j2
              have gb0 : u.cell? ⟨w3.heap.size, 0, none⟩ = some (.slice A4 n' c4) := (hBb.cell 0).trans rfl
              go_simp
              exact hK _ _ (Below.refl _ _) (by intro d hd; cases hd; exact rfl)
            refine allStep_cons (stepS_plain hGk hSk (by omega) hJk (by kernel_rfl) rfl ?_) ?_
            · intro a u hb hz hj hl hp K Q hK
              have e2 : a.tmps[2]?.getD undef = .int .i64 d := gd (hl 2 (by kernel_rfl))
              go_simp
              exact hK _ _ (Below.refl _ _) (by intro d hd; cases hd; exact rfl)
            refine allStep_cons (stepS_plain hGk hSk (by omega) hJk (by kernel_rfl) rfl ?_) ?_
            · intro a u hb hz hj hl hp K Q hK
              have e14 : a.tmps[14]?.getD undef = .pointer (some ⟨w9.heap.size, 0, none⟩) := gd (hl 14 (by kernel_rfl))
              go_simp
              exact hK _ _ (Below.refl _ _) (by intro d hd; cases hd; exact rfl)
            refine allStep_cons (stepS_plain hGk hSk (by omega) hJk (by kernel_rfl) rfl ?_) ?_
            · intro a u hb hz hj hl hp K Q hK
              have e47 : a.tmps[47]?.getD undef = .pointer (some ⟨w9.heap.size, 0, none⟩) := gd (hl 47 (by kernel_rfl))
              obtain ⟨j0, j1, j2, j3, j4⟩ := hj
              have hBb := j3
              have gb0 : u.cell? ⟨w9.heap.size, 0, none⟩ = some (.int .i64 x.at_) := (hBb.cell 0).trans rfl
              go_simp
              exact hK _ _ (Below.refl _ _) (by intro d hd; cases hd; exact rfl)
            refine allStep_cons (stepS_plain hGk hSk (by omega) hJk (by kernel_rfl) rfl ?_) ?_
            · intro a u hb hz hj hl hp K Q hK
              have e4 : a.tmps[4]?.getD undef = .string t := gd (hl 4 (by kernel_rfl))
              go_simp
              exact hK _ _ (Below.refl _ _) (by intro d hd; cases hd; exact rfl)
            refine allStep_cons (stepS_plain hGk hSk (by omega) hJk (by kernel_rfl) rfl ?_) ?_
            · intro a u hb hz hj hl hp K Q hK
              have e15 : a.tmps[15]?.getD undef = .int .i64 (m : Int) := gd (hl 15 (by kernel_rfl))
              go_simp
              exact hK _ _ (Below.refl _ _) (by intro d hd; cases hd; exact rfl)
            refine allStep_cons (stepS_plain hGk hSk (by omega) hJk (by kernel_rfl) rfl ?_) ?_
            · intro a u hb hz hj hl hp K Q hK
              have e49 : a.tmps[49]?.getD undef = .string t := gd (hl 49 (by kernel_rfl))
              have e50 : a.tmps[50]?.getD undef = .int .i64 (m : Int) := gd (hl 50 (by kernel_rfl))
              go_simp
              exact hK _ _ (Below.refl _ _) (by intro d hd; cases hd; exact rfl)
            refine allStep_cons (stepS_plain hGk hSk (by omega) hJk (by kernel_rfl) rfl ?_) ?_
            · intro a u hb hz hj hl hp K Q hK
              have e44 : a.tmps[44]?.getD undef = .slice A n c := gd (hl 44 (by kernel_rfl))
              have e45 : a.tmps[45]?.getD undef = .agg #[.slice A4 n' c4] := gd (hl 45 (by kernel_rfl))
              have e46 : a.tmps[46]?.getD undef = .int .i64 d := gd (hl 46 (by kernel_rfl))
              have e48 : a.tmps[48]?.getD undef = .int .i64 x.at_ := gd (hl 48 (by kernel_rfl))
              have e51 : a.tmps[51]?.getD undef = .string (t.extract 0 m) := gd (hl 51 (by kernel_rfl))
              obtain ⟨j0, j1, j2, j3, j4⟩ := hj
              go_simp
              refine (implDmaWrite_c _ _ _ _ _ _ l p _ hn_a hpl.out hs_a hs_b ((r_a.below (hb.mono (by omega))).more (by omega)) (Reads.of_own j4) _ _ _ hI1 hE).mono ?_
              rintro e u1 ⟨A_v, c_v, rfl, o_v, hb1⟩
              exact hK _ _ hb1 (by intro d hd; cases hd; exact ⟨A_v, c_v, (by rw [HSM.out]), own_base o_v (by omega)⟩)
            refine allStep_cons (stepS_plain hGk hSk (by omega) hJk (by kernel_rfl) rfl ?_) ?_
            · intro a u hb hz hj hl hp K Q hK
              obtain ⟨A1, c1, ex52, o1⟩ : RowP w10.heap.size 9 1 n' ((dmaW l p d x.at_ (t.extract 0 m) true).flatMap fun x : ByteArray => [Value.string x]) (fun A c => .tuple #[.agg #[.slice A n' c], .bool (dmaOk l p d x.at_ (m : Int) true)]) u (a.tmps.getD 52 undef) := hl 52 (by kernel_rfl)
              have e52 := gd ex52
              go_simp
              exact hK _ _ (Below.refl _ _) (by intro d hd; cases hd; exact ⟨A1, c1, rfl, o1⟩)
            refine allStep_cons (stepS_plain hGk hSk (by omega) hJk (by kernel_rfl) rfl ?_) ?_
            · intro a u hb hz hj hl hp K Q hK
              obtain ⟨A1, c1, ex43, o1⟩ : RowP w10.heap.size 9 1 n' ((dmaW l p d x.at_ (t.extract 0 m) true).flatMap fun x : ByteArray => [Value.string x]) (fun A c => .tuple #[.agg #[.slice A n' c], .bool (dmaOk l p d x.at_ (m : Int) true)]) u (a.tmps.getD 43 undef) := hl 43 (by kernel_rfl)
              have e43 := gd ex43
              go_simp
              exact hK _ _ (Below.refl _ _) (by intro d hd; cases hd; exact ⟨A1, c1, rfl, o1⟩)
            refine allStep_cons (stepS_plain hGk hSk (by omega) hJk (by kernel_rfl) rfl ?_) ?_
            · intro a u hb hz hj hl hp K Q hK
              obtain ⟨A1, c1, ex43, o1⟩ : RowP w10.heap.size 9 1 n' ((dmaW l p d x.at_ (t.extract 0 m) true).flatMap fun x : ByteArray => [Value.string x]) (fun A c => .tuple #[.agg #[.slice A n' c], .bool (dmaOk l p d x.at_ (m : Int) true)]) u (a.tmps.getD 43 undef) := hl 43 (by kernel_rfl)
              have e43 := gd ex43
              go_simp
              exact hK _ _ (Below.refl _ _) (by intro d hd; cases hd; exact rfl)
            refine allStep_cons (stepS_plain hGk hSk (by omega) hJk (by kernel_rfl) rfl ?_) ?_
            · intro a u hb hz hj hl hp K Q hK
              go_simp
              exact hK _ _ (by go_grown) (by intro d hd; cases hd; exact BoxP.new _ _ [.slice none 0 0] (by omega) rfl)
            refine allStep_cons (stepS_store (Chg w10.heap.size 39) (fun _ _ hc hb => hc.below' (by omega) hb) (fun _ _ hc => hc.size) (hold_rel ?_) ?_ ?_ rfl rfl ?_) ?_
            · intro p hp
              simp only [List.mem_cons, List.not_mem_nil, or_false] at hp
              rcases hp with rfl | rfl | rfl | rfl | rfl | rfl | rfl | rfl | rfl | rfl | rfl | rfl | rfl | rfl
              all_goals (intro u u' v hb hv; first | exact hv | exact BoxP.chg hv hb | exact RowP.chg hv hb (by decide))
            · intro s hs hne u u' hb
              simp only [List.mem_cons, List.not_mem_nil, or_false] at hs
              rcases hs with rfl
              all_goals first | exact absurd (by rfl) hne | (refine ⟨fun h => ?_, fun _ h => ?_⟩ <;> first | exact h | exact StoP.chg h hb (by decide) | exact StoR.chg h hb (by decide) (by decide) | exact Blk.chgL h hb (by omega) | exact StaR.chgL h hb (by omega) (by decide))
            · intro u u' hb hj
              obtain ⟨j0, j1, j2, j3, j4⟩ := hj
              exact ⟨(j0.chgL hb (by omega)), (j1.chgL hb (by omega)), (j2.chgL hb (by omega)), (j3.chgL hb (by omega)), (own_chgL j4 hb (fun k hk => (o_q.lt k hk).2))⟩
            · intro a u hb hz hj hl hp K Q hK
              obtain ⟨b, exb, hB, zs, hzl, hbk⟩ : BoxP w10.heap.size 39 1 u (a.tmps.getD 16 undef) := hl 16 (by kernel_rfl)
              have e16 := gd exb
              obtain ⟨A2, c2, ex53, o2⟩ : RowP w10.heap.size 9 1 n' ((dmaW l p d x.at_ (t.extract 0 m) true).flatMap fun x : ByteArray => [Value.string x]) (fun A c => .agg #[.slice A n' c]) u (a.tmps.getD 53 undef) := hl 53 (by kernel_rfl)
              have e53 := gd ex53
              obtain ⟨z0, rfl⟩ : ∃ z0, zs = [z0] := (by match zs, hzl with | [z0], _ => exact ⟨_, rfl⟩)
              have hlt := hbk.lt
              have g0 : u.cell? ⟨b, 0, none⟩ = some z0 := (hbk.cell 0).trans rfl
              have f0 := hbk.frozen 0
              go_simp
              refine hK undef _ ((Chg.refl _ _ _).set hbk hB 0 _) (fun s hs he => ?_)
              simp only [List.mem_cons, List.not_mem_nil, or_false] at hs
              rcases hs with rfl
              · exact ⟨b, A2, c2, exb, hB, (hbk.set_ 0 _), own_chg o2 ((Chg.refl _ _ _).set hbk hB 0 _) (by decide)⟩
            refine allStep_cons (stepS_plain hGk hSk (by omega) hJk (by kernel_rfl) rfl ?_) ?_
            · intro a u hb hz hj hl hp K Q hK
              have e54 : a.tmps[54]?.getD undef = .bool (dmaOk l p d x.at_ (m : Int) true) := gd (hl 54 (by kernel_rfl))
              go_simp
              exact hK _ _ (Below.refl _ _) (by intro d hd; cases hd; exact rfl)
            exact allStep_nil
          intro xT w11 hb hz hj hL hSt
          obtain ⟨hk0, hk1, hk2, hk3, o_q⟩ := hj
          have fx17 : xT 17 = .bool (dmaOk l p d x.at_ (m : Int) true) := hL _ (List.mem_of_getElem? (i := 13) rfl)
          obtain ⟨bk_4, A_v, c_v, fx16, lo4, hk4, o_v⟩ : StoR w10.heap.size 39 9 1 n' ((dmaW l p d x.at_ (t.extract 0 m) true).flatMap fun x : ByteArray => [Value.string x]) (fun A c => [.slice A n' c]) w11 (xT 16) := hSt _ (List.mem_of_getElem? (i := 0) rfl)
          simp only [List.map, putAll, fx17, fx16]
          have bl4 := hk4.lt
          have k11 : Below w.heap.size w w11 := k10.trans hb
          have p11 : w10.heap.size ≤ w11.heap.size := hb.size
          have bl0 := Nat.lt_of_lt_of_le bl0 hb.size
          have bl1 := Nat.lt_of_lt_of_le bl1 hb.size
          have bl2 := Nat.lt_of_lt_of_le bl2 hb.size
          have bl3 := Nat.lt_of_lt_of_le bl3 hb.size
          have r_a := r_a.below hb
          have r_b := r_b.below hb
          have r_p := r_p.below hb
          have r_q := Reads.of_own o_q
          have nb_v_4 := own_ty o_v hk4 (by decide)
          have r_v := Reads.of_own o_v
          have u_v := fun k hk => (o_v.lt k hk).2
          have bx0_0 : w11.cell? ⟨w.heap.size, 0, none⟩ = some (.slice A' n' c') := (hk0.cell 0).trans rfl
          have fz0_0 := hk0.frozen 0
          have bx1_0 : w11.cell? ⟨w.heap.size + 1, 0, none⟩ = some (.slice none 0 0) := (hk1.cell 0).trans rfl
          have fz1_0 := hk1.frozen 0
          have bx2_0 : w11.cell? ⟨w3.heap.size, 0, none⟩ = some (.slice A4 n' c4) := (hk2.cell 0).trans rfl
          have fz2_0 := hk2.frozen 0
          have bx3_0 : w11.cell? ⟨w9.heap.size, 0, none⟩ = some (.int .i64 x.at_) := (hk3.cell 0).trans rfl
          have fz3_0 := hk3.frozen 0
          have bx3_1 : w11.cell? ⟨w9.heap.size, 1, none⟩ = some (.int .i64 x.ln) := (hk3.cell 1).trans rfl
          have fz3_1 := hk3.frozen 1
          have bx4_0 : w11.cell? ⟨bk_4, 0, none⟩ = some (.slice A_v n' c_v) := (hk4.cell 0).trans rfl
          have fz4_0 := hk4.frozen 0
          clear hL hSt hb hz fx17 fx16
          rw [HD.out]
          go_wp2_with fail
          refine (copyMemory_c _ _ _ pg _ hn_b (by omega) (r_b.more (by omega))).mono ?_
          rintro e w12 ⟨A_q, c_q, rfl, o_q, hb⟩
          have k12 : Below w.heap.size w w12 := ext_step k11 (by omega) hb
          have p12 := hb.size
          have hk0 := hk0.ext hb
          have hk1 := hk1.ext hb
          have hk2 := hk2.ext hb
          have hk3 := hk3.ext hb
          have hk4 := hk4.ext hb
          have bx0_0 : w12.cell? ⟨w.heap.size, 0, none⟩ = some (.slice A' n' c') := (hk0.cell 0).trans rfl
          have fz0_0 := hk0.frozen 0
          have bx1_0 : w12.cell? ⟨w.heap.size + 1, 0, none⟩ = some (.slice none 0 0) := (hk1.cell 0).trans rfl
          have fz1_0 := hk1.frozen 0
          have bx2_0 : w12.cell? ⟨w3.heap.size, 0, none⟩ = some (.slice A4 n' c4) := (hk2.cell 0).trans rfl
          have fz2_0 := hk2.frozen 0
          have bx3_0 : w12.cell? ⟨w9.heap.size, 0, none⟩ = some (.int .i64 x.at_) := (hk3.cell 0).trans rfl
          have fz3_0 := hk3.frozen 0
          have bx3_1 : w12.cell? ⟨w9.heap.size, 1, none⟩ = some (.int .i64 x.ln) := (hk3.cell 1).trans rfl
          have fz3_1 := hk3.frozen 1
          have bx4_0 : w12.cell? ⟨bk_4, 0, none⟩ = some (.slice A_v n' c_v) := (hk4.cell 0).trans rfl
          have fz4_0 := hk4.frozen 0
          have bl0 := Nat.lt_of_lt_of_le bl0 hb.size
          have bl1 := Nat.lt_of_lt_of_le bl1 hb.size
          have bl2 := Nat.lt_of_lt_of_le bl2 hb.size
          have bl3 := Nat.lt_of_lt_of_le bl3 hb.size
          have bl4 := Nat.lt_of_lt_of_le bl4 hb.size
          have r_a := r_a.below (hb.mono (by omega))
          have r_b := r_b.below (hb.mono (by omega))
          have r_p := r_p.below (hb.mono (by omega))
          have r_v := r_v.below (hb.mono (by omega))
          have o_v := own_ext o_v hb
          have r_q := Reads.of_own o_q
          have u_q := fun k hk => (o_q.lt k hk).2
          clear hb
          go_wp2_with fail
          have hc : ChgA (w.heap.size + 1) w12 (w12.setCell ⟨w.heap.size + 1, 0, none⟩ (.slice A_q n' c_q)) := (ChgA.refl _ _).set _ _
          have hko := hk1
          have hk0 := hk0.chgA hc (by omega)
          have hk2 := hk2.chgA hc (by omega)
          have hk3 := hk3.chgA hc (by omega)
          have hk4 := hk4.chgA hc (by omega)
          have hk1 : Blk (w12.setCell ⟨w.heap.size + 1, 0, none⟩ (.slice A_q n' c_q)) (w.heap.size + 1) 39 [.slice A_q n' c_q] := hk1.set_ 0 _
          have k13 : Below w.heap.size w (w12.setCell ⟨w.heap.size + 1, 0, none⟩ (.slice A_q n' c_q)) := hc.below (by omega) k12
          have p13 : (w12.setCell ⟨w.heap.size + 1, 0, none⟩ (.slice A_q n' c_q)).heap.size = w12.heap.size := hc.size
          have bl0 := Nat.lt_of_lt_of_le bl0 (Nat.le_of_eq p13.symm)
          have bl1 := Nat.lt_of_lt_of_le bl1 (Nat.le_of_eq p13.symm)
          have bl2 := Nat.lt_of_lt_of_le bl2 (Nat.le_of_eq p13.symm)
          have bl3 := Nat.lt_of_lt_of_le bl3 (Nat.le_of_eq p13.symm)
          have bl4 := Nat.lt_of_lt_of_le bl4 (Nat.le_of_eq p13.symm)
          have r_a := r_a.below (hc.below (by omega) (Below.refl _ _))
          have r_b := r_b.below (hc.below (by omega) (Below.refl _ _))
          have r_p := r_p.below (hc.below (by omega) (Below.refl _ _))
          have o_v := own_chgA o_v hc (by first | exact own_ty o_v hko (by decide) | exact fun k hk => by have h1 := o_v.lt k hk; omega)
          have r_v := Reads.of_own o_v
          have o_q := own_chgA o_q hc (by first | exact own_ty o_q hko (by decide) | exact fun k hk => by have h1 := o_q.lt k hk; omega)
          have r_q := Reads.of_own o_q
          generalize hW0 : (w12.setCell ⟨w.heap.size + 1, 0, none⟩ (.slice A_q n' c_q)) = w13 at *
          clear hW0 hc hko
          have bx0_0 : w13.cell? ⟨w.heap.size, 0, none⟩ = some (.slice A' n' c') := (hk0.cell 0).trans rfl
          have fz0_0 := hk0.frozen 0
          have bx1_0 : w13.cell? ⟨w.heap.size + 1, 0, none⟩ = some (.slice A_q n' c_q) := (hk1.cell 0).trans rfl
          have fz1_0 := hk1.frozen 0
          have bx2_0 : w13.cell? ⟨w3.heap.size, 0, none⟩ = some (.slice A4 n' c4) := (hk2.cell 0).trans rfl
          have fz2_0 := hk2.frozen 0
          have bx3_0 : w13.cell? ⟨w9.heap.size, 0, none⟩ = some (.int .i64 x.at_) := (hk3.cell 0).trans rfl
          have fz3_0 := hk3.frozen 0
          have bx3_1 : w13.cell? ⟨w9.heap.size, 1, none⟩ = some (.int .i64 x.ln) := (hk3.cell 1).trans rfl
          have fz3_1 := hk3.frozen 1
          have bx4_0 : w13.cell? ⟨bk_4, 0, none⟩ = some (.slice A_v n' c_v) := (hk4.cell 0).trans rfl
          have fz4_0 := hk4.frozen 0
          refine bodyPost_ret (v := .tuple #[.agg #[.slice A_q n' c_q], .bool false]) (by simp [results, Try.results44, go_sem, bx1_0]) rfl ?_
          rw [HM.out]
          exact ⟨A_q, c_q, by rw [HB.out], own_base o_q (by omega), k13⟩
        · skip
          have HST : Hid (scG l d (ps.drop (k + 1)) (dmaW l p d x.at_ (t.extract 0 m) true) (t.extract m t.size) = scG l d ps pg s) := by rw [Hid, ← hsc.out, hst, if_pos hd]
          have HPL : Hid ((dmaW l p d x.at_ (t.extract 0 m) true).length = n') := by rw [Hid, dmaW_len]; exact hpl.out
          have HD := Lib.hid hd
          clear hd hst
          have bx0_0 : w9.cell? ⟨w.heap.size, 0, none⟩ = some (.slice A' n' c') := (hk0.cell 0).trans rfl
          have fz0_0 := hk0.frozen 0
          have bx1_0 : w9.cell? ⟨w.heap.size + 1, 0, none⟩ = some (.slice none 0 0) := (hk1.cell 0).trans rfl
          have fz1_0 := hk1.frozen 0
          have bx2_0 : w9.cell? ⟨w3.heap.size, 0, none⟩ = some (.slice A4 n' c4) := (hk2.cell 0).trans rfl
          have fz2_0 := hk2.frozen 0
          go_wp2_with fail
          have hb : Below w9.heap.size w9 (w9.alloc (.cells #[.int .i64 x.at_, .int .i64 x.ln] 61)) := by go_grown
          have bx3_0 : (w9.alloc (.cells #[.int .i64 x.at_, .int .i64 x.ln] 61)).cell? ⟨w9.heap.size, 0, none⟩ = some (.int .i64 x.at_) := by simp [go_sem]
          have bx3_1 : (w9.alloc (.cells #[.int .i64 x.at_, .int .i64 x.ln] 61)).cell? ⟨w9.heap.size, 1, none⟩ = some (.int .i64 x.ln) := by simp [go_sem]
          have bl3 : w9.heap.size < (w9.alloc (.cells #[.int .i64 x.at_, .int .i64 x.ln] 61)).heap.size := by go_size
          have hk3 : Blk (w9.alloc (.cells #[.int .i64 x.at_, .int .i64 x.ln] 61)) (w9.heap.size) 61 [.int .i64 x.at_, .int .i64 x.ln] := Blk.new _ _ _
          generalize hW0 : (w9.alloc (.cells #[.int .i64 x.at_, .int .i64 x.ln] 61)) = w10 at *
          clear hW0
          have k10 : Below w.heap.size w w10 := ext_step k9 (by omega) hb
          have p10 := hb.size
          have hk0 := hk0.ext hb
          have hk1 := hk1.ext hb
          have hk2 := hk2.ext hb
          have bx0_0 : w10.cell? ⟨w.heap.size, 0, none⟩ = some (.slice A' n' c') := (hk0.cell 0).trans rfl
          have fz0_0 := hk0.frozen 0
          have bx1_0 : w10.cell? ⟨w.heap.size + 1, 0, none⟩ = some (.slice none 0 0) := (hk1.cell 0).trans rfl
          have fz1_0 := hk1.frozen 0
          have bx2_0 : w10.cell? ⟨w3.heap.size, 0, none⟩ = some (.slice A4 n' c4) := (hk2.cell 0).trans rfl
          have fz2_0 := hk2.frozen 0
          have bl0 := Nat.lt_of_lt_of_le bl0 hb.size
          have bl1 := Nat.lt_of_lt_of_le bl1 hb.size
          have bl2 := Nat.lt_of_lt_of_le bl2 hb.size
          have r_a := r_a.below (hb.mono (by omega))
          have r_b := r_b.below (hb.mono (by omega))
          have r_p := r_p.below (hb.mono (by omega))
          have r_q := r_q.below (hb.mono (by omega))
          have o_q := own_ext o_q hb
          have bx0_0 : w10.cell? ⟨w.heap.size, 0, none⟩ = some (.slice A' n' c') := (hk0.cell 0).trans rfl
          have fz0_0 := hk0.frozen 0
          have bx1_0 : w10.cell? ⟨w.heap.size + 1, 0, none⟩ = some (.slice none 0 0) := (hk1.cell 0).trans rfl
          have fz1_0 := hk1.frozen 0
          have bx2_0 : w10.cell? ⟨w3.heap.size, 0, none⟩ = some (.slice A4 n' c4) := (hk2.cell 0).trans rfl
          have fz2_0 := hk2.frozen 0
          have bx3_0 : w10.cell? ⟨w9.heap.size, 0, none⟩ = some (.int .i64 x.at_) := (hk3.cell 0).trans rfl
          have fz3_0 := hk3.frozen 0
          have bx3_1 : w10.cell? ⟨w9.heap.size, 1, none⟩ = some (.int .i64 x.ln) := (hk3.cell 1).trans rfl
          have fz3_1 := hk3.frozen 1
          skip
          clear hb
          refine wp_region_slotsS (w.heap.size) [(44, fun _ v => v = .slice A n c), (45, fun _ v => v = .agg #[.slice A4 n' c4]), (46, fun _ v => v = .int .i64 d), (47, fun _ v => v = .pointer (some ⟨w9.heap.size, 0, none⟩)), (48, fun _ v => v = .int .i64 x.at_), (49, fun _ v => v = .string t), (50, fun _ v => v = .int .i64 (m : Int)), (51, fun _ v => v = .string (t.extract 0 m)), (52, RowP w10.heap.size 9 1 n' ((dmaW l p d x.at_ (t.extract 0 m) true).flatMap fun x : ByteArray => [Value.string x]) (fun A c => .tuple #[.agg #[.slice A n' c], .bool (dmaOk l p d x.at_ (m : Int) true)])), (43, RowP w10.heap.size 9 1 n' ((dmaW l p d x.at_ (t.extract 0 m) true).flatMap fun x : ByteArray => [Value.string x]) (fun A c => .tuple #[.agg #[.slice A n' c], .bool (dmaOk l p d x.at_ (m : Int) true)])), (53, RowP w10.heap.size 9 1 n' ((dmaW l p d x.at_ (t.extract 0 m) true).flatMap fun x : ByteArray => [Value.string x]) (fun A c => .agg #[.slice A n' c])), (54, fun _ v => v = .bool (dmaOk l p d x.at_ (m : Int) true)), (16, BoxP w10.heap.size 39 1), (17, fun _ v => v = .bool (dmaOk l p d x.at_ (m : Int) true))] [⟨13, 16, fun _ => True, StoR w10.heap.size 39 9 1 n' ((dmaW l p d x.at_ (t.extract 0 m) true).flatMap fun x : ByteArray => [Value.string x]) (fun A c => [.slice A n' c])⟩] (fun u => Blk u (w.heap.size) 39 [.slice A' n' c'] ∧ Blk u (w.heap.size + 1) 39 [.slice none 0 0] ∧ Blk u (w3.heap.size) 39 [.slice A4 n' c4] ∧ Blk u (w9.heap.size) 61 [.int .i64 x.at_, .int .i64 x.ln] ∧ u.ownsRow (w.heap.size + 1 + 1) 9 1 (.slice A4 n' c4) n' (p.flatMap fun x : ByteArray => [Value.string x])) (by kernel_rfl) (by omega) (by kernel_rfl) (by kernel_rfl) (by kernel_rfl) (by kernel_rfl) ?_ ?_ ?_ ?_ ?_ ?_ ?_
          · intro p hp
            simp only [List.mem_cons, List.not_mem_nil, or_false] at hp
            rcases hp with rfl | rfl | rfl | rfl | rfl | rfl | rfl | rfl | rfl | rfl | rfl | rfl | rfl | rfl
            all_goals (intro u u' v hb hv; first | exact hv | exact BoxP.keep hv hb | exact RowP.keep hv hb)
          · intro s hs u u' hb
            simp only [List.mem_cons, List.not_mem_nil, or_false] at hs
            rcases hs with rfl
            all_goals (refine ⟨fun h => ?_, fun _ h => ?_⟩ <;> first | exact h | exact StoP.keep h hb | exact StoR.keep h hb | exact Blk.ext h hb | exact StaR.keep h hb)
          · intro s hs
            simp only [List.mem_cons, List.not_mem_nil, or_false] at hs
            rcases hs with rfl
            all_goals first | trivial
          · exact ⟨hk0, hk1, hk2, hk3, o_q⟩
          · intro u u' hb hj
            obtain ⟨j0, j1, j2, j3, j4⟩ := hj
            exact ⟨(j0.ext hb), (j1.ext hb), (j2.ext hb), (j3.ext hb), (own_ext j4 hb)⟩
          · intro hGk hSk hJk
            refine allStep_cons (stepS_plain hGk hSk (by omega) hJk (by kernel_rfl) rfl ?_) ?_
            · intro a u hb hz hj hl hp K Q hK
              have e0 : a.tmps[0]?.getD undef = .slice A n c := gd (hl 0 (by kernel_rfl))
              go_simp
              exact hK _ _ (Below.refl _ _) (by intro d hd; cases hd; exact rfl)
            refine allStep_cons (stepS_plain hGk hSk (by omega) hJk (by kernel_rfl) rfl ?_) ?_
            · intro a u hb hz hj hl hp K Q hK
              have e12 : a.tmps[12]?.getD undef = .pointer (some ⟨w3.heap.size, 0, none⟩) := gd (hl 12 (by kernel_rfl))
              obtain ⟨j0, j1, j2, j3, j4⟩ := hj
              have hBb := j2
              have gb0 : u.cell? ⟨w3.heap.size, 0, none⟩ = some (.slice A4 n' c4) := (hBb.cell 0).trans rfl
              go_simp
              exact hK _ _ (Below.refl _ _) (by intro d hd; cases hd; exact rfl)
            refine allStep_cons (stepS_plain hGk hSk (by omega) hJk (by kernel_rfl) rfl ?_) ?_
            · intro a u hb hz hj hl hp K Q hK
              have e2 : a.tmps[2]?.getD undef = .int .i64 d := gd (hl 2 (by kernel_rfl))
              go_simp
              exact hK _ _ (Below.refl _ _) (by intro d hd; cases hd; exact rfl)
            refine allStep_cons (stepS_plain hGk hSk (by omega) hJk (by kernel_rfl) rfl ?_) ?_
            · intro a u hb hz hj hl hp K Q hK
              have e14 : a.tmps[14]?.getD undef = .pointer (some ⟨w9.heap.size, 0, none⟩) := gd (hl 14 (by kernel_rfl))
              go_simp
              exact hK _ _ (Below.refl _ _) (by intro d hd; cases hd; exact rfl)
            refine allStep_cons (stepS_plain hGk hSk (by omega) hJk (by kernel_rfl) rfl ?_) ?_
            · intro a u hb hz hj hl hp K Q hK
              have e47 : a.tmps[47]?.getD undef = .pointer (some ⟨w9.heap.size, 0, none⟩) := gd (hl 47 (by kernel_rfl))
              obtain ⟨j0, j1, j2, j3, j4⟩ := hj
              have hBb := j3
              have gb0 : u.cell? ⟨w9.heap.size, 0, none⟩ = some (.int .i64 x.at_) := (hBb.cell 0).trans rfl
              go_simp
              exact hK _ _ (Below.refl _ _) (by intro d hd; cases hd; exact rfl)
            refine allStep_cons (stepS_plain hGk hSk (by omega) hJk (by kernel_rfl) rfl ?_) ?_
            · intro a u hb hz hj hl hp K Q hK
              have e4 : a.tmps[4]?.getD undef = .string t := gd (hl 4 (by kernel_rfl))
              go_simp
              exact hK _ _ (Below.refl _ _) (by intro d hd; cases hd; exact rfl)
            refine allStep_cons (stepS_plain hGk hSk (by omega) hJk (by kernel_rfl) rfl ?_) ?_
            · intro a u hb hz hj hl hp K Q hK
              have e15 : a.tmps[15]?.getD undef = .int .i64 (m : Int) := gd (hl 15 (by kernel_rfl))
              go_simp
              exact hK _ _ (Below.refl _ _) (by intro d hd; cases hd; exact rfl)
            refine allStep_cons (stepS_plain hGk hSk (by omega) hJk (by kernel_rfl) rfl ?_) ?_
            · intro a u hb hz hj hl hp K Q hK
              have e49 : a.tmps[49]?.getD undef = .string t := gd (hl 49 (by kernel_rfl))
              have e50 : a.tmps[50]?.getD undef = .int .i64 (m : Int) := gd (hl 50 (by kernel_rfl))
              go_simp
              exact hK _ _ (Below.refl _ _) (by intro d hd; cases hd; exact rfl)
            refine allStep_cons (stepS_plain hGk hSk (by omega) hJk (by kernel_rfl) rfl ?_) ?_
            · intro a u hb hz hj hl hp K Q hK
              have e44 : a.tmps[44]?.getD undef = .slice A n c := gd (hl 44 (by kernel_rfl))
              have e45 : a.tmps[45]?.getD undef = .agg #[.slice A4 n' c4] := gd (hl 45 (by kernel_rfl))
              have e46 : a.tmps[46]?.getD undef = .int .i64 d := gd (hl 46 (by kernel_rfl))
              have e48 : a.tmps[48]?.getD undef = .int .i64 x.at_ := gd (hl 48 (by kernel_rfl))
              have e51 : a.tmps[51]?.getD undef = .string (t.extract 0 m) := gd (hl 51 (by kernel_rfl))
              obtain ⟨j0, j1, j2, j3, j4⟩ := hj
              go_simp
              refine (implDmaWrite_c _ _ _ _ _ _ l p _ hn_a hpl.out hs_a hs_b ((r_a.below (hb.mono (by omega))).more (by omega)) (Reads.of_own j4) _ _ _ hI1 hE).mono ?_
              rintro e u1 ⟨A_v, c_v, rfl, o_v, hb1⟩
              exact hK _ _ hb1 (by intro d hd; cases hd; exact ⟨A_v, c_v, (by rw [HSM.out]), own_base o_v (by omega)⟩)
            refine allStep_cons (stepS_plain hGk hSk (by omega) hJk (by kernel_rfl) rfl ?_) ?_
            · intro a u hb hz hj hl hp K Q hK
              obtain ⟨A1, c1, ex52, o1⟩ : RowP w10.heap.size 9 1 n' ((dmaW l p d x.at_ (t.extract 0 m) true).flatMap fun x : ByteArray => [Value.string x]) (fun A c => .tuple #[.agg #[.slice A n' c], .bool (dmaOk l p d x.at_ (m : Int) true)]) u (a.tmps.getD 52 undef) := hl 52 (by kernel_rfl)
              have e52 := gd ex52
              go_simp
              exact hK _ _ (Below.refl _ _) (by intro d hd; cases hd; exact ⟨A1, c1, rfl, o1⟩)
            refine allStep_cons (stepS_plain hGk hSk (by omega) hJk (by kernel_rfl) rfl ?_) ?_
            · intro a u hb hz hj hl hp K Q hK
              obtain ⟨A1, c1, ex43, o1⟩ : RowP w10.heap.size 9 1 n' ((dmaW l p d x.at_ (t.extract 0 m) true).flatMap fun x : ByteArray => [Value.string x]) (fun A c => .tuple #[.agg #[.slice A n' c], .bool (dmaOk l p d x.at_ (m : Int) true)]) u (a.tmps.getD 43 undef) := hl 43 (by kernel_rfl)
              have e43 := gd ex43
              go_simp
              exact hK _ _ (Below.refl _ _) (by intro d hd; cases hd; exact ⟨A1, c1, rfl, o1⟩)
            refine allStep_cons (stepS_plain hGk hSk (by omega) hJk (by kernel_rfl) rfl ?_) ?_
            · intro a u hb hz hj hl hp K Q hK
              obtain ⟨A1, c1, ex43, o1⟩ : RowP w10.heap.size 9 1 n' ((dmaW l p d x.at_ (t.extract 0 m) true).flatMap fun x : ByteArray => [Value.string x]) (fun A c => .tuple #[.agg #[.slice A n' c], .bool (dmaOk l p d x.at_ (m : Int) true)]) u (a.tmps.getD 43 undef) := hl 43 (by kernel_rfl)
              have e43 := gd ex43
              go_simp
              exact hK _ _ (Below.refl _ _) (by intro d hd; cases hd; exact rfl)
            refine allStep_cons (stepS_plain hGk hSk (by omega) hJk (by kernel_rfl) rfl ?_) ?_
            · intro a u hb hz hj hl hp K Q hK
              go_simp
              exact hK _ _ (by go_grown) (by intro d hd; cases hd; exact BoxP.new _ _ [.slice none 0 0] (by omega) rfl)
            refine allStep_cons (stepS_store (Chg w10.heap.size 39) (fun _ _ hc hb => hc.below' (by omega) hb) (fun _ _ hc => hc.size) (hold_rel ?_) ?_ ?_ rfl rfl ?_) ?_
            · intro p hp
              simp only [List.mem_cons, List.not_mem_nil, or_false] at hp
              rcases hp with rfl | rfl | rfl | rfl | rfl | rfl | rfl | rfl | rfl | rfl | rfl | rfl | rfl | rfl
              all_goals (intro u u' v hb hv; first | exact hv | exact BoxP.chg hv hb | exact RowP.chg hv hb (by decide))
            · intro s hs hne u u' hb
              simp only [List.mem_cons, List.not_mem_nil, or_false] at hs
              rcases hs with rfl
              all_goals first | exact absurd (by rfl) hne | (refine ⟨fun h => ?_, fun _ h => ?_⟩ <;> first | exact h | exact StoP.chg h hb (by decide) | exact StoR.chg h hb (by decide) (by decide) | exact Blk.chgL h hb (by omega) | exact StaR.chgL h hb (by omega) (by decide))
            · intro u u' hb hj
              obtain ⟨j0, j1, j2, j3, j4⟩ := hj
              exact ⟨(j0.chgL hb (by omega)), (j1.chgL hb (by omega)), (j2.chgL hb (by omega)), (j3.chgL hb (by omega)), (own_chgL j4 hb (fun k hk => (o_q.lt k hk).2))⟩
            · intro a u hb hz hj hl hp K Q hK
              obtain ⟨b, exb, hB, zs, hzl, hbk⟩ : BoxP w10.heap.size 39 1 u (a.tmps.getD 16 undef) := hl 16 (by kernel_rfl)
              have e16 := gd exb
              obtain ⟨A2, c2, ex53, o2⟩ : RowP w10.heap.size 9 1 n' ((dmaW l p d x.at_ (t.extract 0 m) true).flatMap fun x : ByteArray => [Value.string x]) (fun A c => .agg #[.slice A n' c]) u (a.tmps.getD 53 undef) := hl 53 (by kernel_rfl)
              have e53 := gd ex53
              obtain ⟨z0, rfl⟩ : ∃ z0, zs = [z0] := (by match zs, hzl with | [z0], _ => exact ⟨_, rfl⟩)
              have hlt := hbk.lt
              have g0 : u.cell? ⟨b, 0, none⟩ = some z0 := (hbk.cell 0).trans rfl
              have f0 := hbk.frozen 0
              go_simp
              refine hK undef _ ((Chg.refl _ _ _).set hbk hB 0 _) (fun s hs he => ?_)
              simp only [List.mem_cons, List.not_mem_nil, or_false] at hs
              rcases hs with rfl
              · exact ⟨b, A2, c2, exb, hB, (hbk.set_ 0 _), own_chg o2 ((Chg.refl _ _ _).set hbk hB 0 _) (by decide)⟩
            refine allStep_cons (stepS_plain hGk hSk (by omega) hJk (by kernel_rfl) rfl ?_) ?_
            · intro a u hb hz hj hl hp K Q hK
              have e54 : a.tmps[54]?.getD undef = .bool (dmaOk l p d x.at_ (m : Int) true) := gd (hl 54 (by kernel_rfl))
              go_simp
              exact hK _ _ (Below.refl _ _) (by intro d hd; cases hd; exact rfl)
            exact allStep_nil
          intro xT w11 hb hz hj hL hSt
          obtain ⟨hk0, hk1, hk2, hk3, o_q⟩ := hj
          have fx17 : xT 17 = .bool (dmaOk l p d x.at_ (m : Int) true) := hL _ (List.mem_of_getElem? (i := 13) rfl)
          obtain ⟨bk_4, A_v, c_v, fx16, lo4, hk4, o_v⟩ : StoR w10.heap.size 39 9 1 n' ((dmaW l p d x.at_ (t.extract 0 m) true).flatMap fun x : ByteArray => [Value.string x]) (fun A c => [.slice A n' c]) w11 (xT 16) := hSt _ (List.mem_of_getElem? (i := 0) rfl)
          simp only [List.map, putAll, fx17, fx16]
          have bl4 := hk4.lt
          have k11 : Below w.heap.size w w11 := k10.trans hb
          have p11 : w10.heap.size ≤ w11.heap.size := hb.size
          have bl0 := Nat.lt_of_lt_of_le bl0 hb.size
          have bl1 := Nat.lt_of_lt_of_le bl1 hb.size
          have bl2 := Nat.lt_of_lt_of_le bl2 hb.size
          have bl3 := Nat.lt_of_lt_of_le bl3 hb.size
          have r_a := r_a.below hb
          have r_b := r_b.below hb
          have r_p := r_p.below hb
          have r_q := Reads.of_own o_q
          have nb_v_4 := own_ty o_v hk4 (by decide)
          have r_v := Reads.of_own o_v
          have u_v := fun k hk => (o_v.lt k hk).2
          have bx0_0 : w11.cell? ⟨w.heap.size, 0, none⟩ = some (.slice A' n' c') := (hk0.cell 0).trans rfl
          have fz0_0 := hk0.frozen 0
          have bx1_0 : w11.cell? ⟨w.heap.size + 1, 0, none⟩ = some (.slice none 0 0) := (hk1.cell 0).trans rfl
          have fz1_0 := hk1.frozen 0
          have bx2_0 : w11.cell? ⟨w3.heap.size, 0, none⟩ = some (.slice A4 n' c4) := (hk2.cell 0).trans rfl
          have fz2_0 := hk2.frozen 0
          have bx3_0 : w11.cell? ⟨w9.heap.size, 0, none⟩ = some (.int .i64 x.at_) := (hk3.cell 0).trans rfl
          have fz3_0 := hk3.frozen 0
          have bx3_1 : w11.cell? ⟨w9.heap.size, 1, none⟩ = some (.int .i64 x.ln) := (hk3.cell 1).trans rfl
          have fz3_1 := hk3.frozen 1
          have bx4_0 : w11.cell? ⟨bk_4, 0, none⟩ = some (.slice A_v n' c_v) := (hk4.cell 0).trans rfl
          have fz4_0 := hk4.frozen 0
          clear hL hSt hb hz fx17 fx16
          rw [HD.out]
          go_wp2_with fail
          have hc : ChgA (w3.heap.size) w11 (w11.setCell ⟨w3.heap.size, 0, none⟩ (.slice A_v n' c_v)) := (ChgA.refl _ _).set _ _
          have hko := hk2
          have hk0 := hk0.chgA hc (by omega)
          have hk1 := hk1.chgA hc (by omega)
          have hk3 := hk3.chgA hc (by omega)
          have hk4 := hk4.chgA hc (by omega)
          have hk2 : Blk (w11.setCell ⟨w3.heap.size, 0, none⟩ (.slice A_v n' c_v)) (w3.heap.size) 39 [.slice A_v n' c_v] := hk2.set_ 0 _
          have k12 : Below w.heap.size w (w11.setCell ⟨w3.heap.size, 0, none⟩ (.slice A_v n' c_v)) := hc.below (by omega) k11
          have p12 : (w11.setCell ⟨w3.heap.size, 0, none⟩ (.slice A_v n' c_v)).heap.size = w11.heap.size := hc.size
          have bl0 := Nat.lt_of_lt_of_le bl0 (Nat.le_of_eq p12.symm)
          have bl1 := Nat.lt_of_lt_of_le bl1 (Nat.le_of_eq p12.symm)
          have bl2 := Nat.lt_of_lt_of_le bl2 (Nat.le_of_eq p12.symm)
          have bl3 := Nat.lt_of_lt_of_le bl3 (Nat.le_of_eq p12.symm)
          have bl4 := Nat.lt_of_lt_of_le bl4 (Nat.le_of_eq p12.symm)
          have r_a := r_a.below (hc.below (by omega) (Below.refl _ _))
          have r_b := r_b.below (hc.below (by omega) (Below.refl _ _))
          have r_p := r_p.below (hc.below (by omega) (Below.refl _ _))
          have o_q := own_chgA o_q hc (by first | exact own_ty o_q hko (by decide) | exact fun k hk => by have h1 := o_q.lt k hk; omega)
          have r_q := Reads.of_own o_q
          have o_v := own_chgA o_v hc (by first | exact own_ty o_v hko (by decide) | exact fun k hk => by have h1 := o_v.lt k hk; omega)
          have r_v := Reads.of_own o_v
          generalize hW0 : (w11.setCell ⟨w3.heap.size, 0, none⟩ (.slice A_v n' c_v)) = w12 at *
          clear hW0 hc hko
          have bx0_0 : w12.cell? ⟨w.heap.size, 0, none⟩ = some (.slice A' n' c') := (hk0.cell 0).trans rfl
          have fz0_0 := hk0.frozen 0
          have bx1_0 : w12.cell? ⟨w.heap.size + 1, 0, none⟩ = some (.slice none 0 0) := (hk1.cell 0).trans rfl
          have fz1_0 := hk1.frozen 0
          have bx2_0 : w12.cell? ⟨w3.heap.size, 0, none⟩ = some (.slice A_v n' c_v) := (hk2.cell 0).trans rfl
          have fz2_0 := hk2.frozen 0
          have bx3_0 : w12.cell? ⟨w9.heap.size, 0, none⟩ = some (.int .i64 x.at_) := (hk3.cell 0).trans rfl
          have fz3_0 := hk3.frozen 0
          have bx3_1 : w12.cell? ⟨w9.heap.size, 1, none⟩ = some (.int .i64 x.ln) := (hk3.cell 1).trans rfl
          have fz3_1 := hk3.frozen 1
          have bx4_0 : w12.cell? ⟨bk_4, 0, none⟩ = some (.slice A_v n' c_v) := (hk4.cell 0).trans rfl
          have fz4_0 := hk4.frozen 0
          go_roundw
          case rel => exact ⟨k + 1, dmaW l p d x.at_ (t.extract 0 m) true, t.extract m t.size, A_v, c_v, by omega, by go_num, rfl, hE2, HPL, HST, k12, by omega, hk0, hk1, hk2, own_base o_v (by omega)⟩
          case measure => simp [intOf]; omega
      · have hfin : scG l d ps pg s = some p := by rw [← hsc.out, List.drop_eq_nil_of_le (by rw [HN3.out]; omega)]; rfl
        have HB := Lib.hid (scat_some (by have := HL.out; omega) hfin).1
        have HM := Lib.hid (scat_some (by have := HL.out; omega) hfin).2
        clear hfin
        have bx0_0 : w9.cell? ⟨w.heap.size, 0, none⟩ = some (.slice A' n' c') := (hk0.cell 0).trans rfl
        have fz0_0 := hk0.frozen 0
        have bx1_0 : w9.cell? ⟨w.heap.size + 1, 0, none⟩ = some (.slice none 0 0) := (hk1.cell 0).trans rfl
        have fz1_0 := hk1.frozen 0
        have bx2_0 : w9.cell? ⟨w3.heap.size, 0, none⟩ = some (.slice A4 n' c4) := (hk2.cell 0).trans rfl
        have fz2_0 := hk2.frozen 0
        go_wp2_with fail
        have hc : ChgA (w.heap.size + 1) w9 (w9.setCell ⟨w.heap.size + 1, 0, none⟩ (.slice A4 n' c4)) := (ChgA.refl _ _).set _ _
        have hko := hk1
        have hk0 := hk0.chgA hc (by omega)
        have hk2 := hk2.chgA hc (by omega)
        have hk1 : Blk (w9.setCell ⟨w.heap.size + 1, 0, none⟩ (.slice A4 n' c4)) (w.heap.size + 1) 39 [.slice A4 n' c4] := hk1.set_ 0 _
        have k10 : Below w.heap.size w (w9.setCell ⟨w.heap.size + 1, 0, none⟩ (.slice A4 n' c4)) := hc.below (by omega) k9
        have p10 : (w9.setCell ⟨w.heap.size + 1, 0, none⟩ (.slice A4 n' c4)).heap.size = w9.heap.size := hc.size
        have bl0 := Nat.lt_of_lt_of_le bl0 (Nat.le_of_eq p10.symm)
        have bl1 := Nat.lt_of_lt_of_le bl1 (Nat.le_of_eq p10.symm)
        have bl2 := Nat.lt_of_lt_of_le bl2 (Nat.le_of_eq p10.symm)
        have r_a := r_a.below (hc.below (by omega) (Below.refl _ _))
        have r_b := r_b.below (hc.below (by omega) (Below.refl _ _))
        have r_p := r_p.below (hc.below (by omega) (Below.refl _ _))
        have o_q := own_chgA o_q hc (by first | exact own_ty o_q hko (by decide) | exact fun k hk => by have h1 := o_q.lt k hk; omega)
        have r_q := Reads.of_own o_q
        generalize hW0 : (w9.setCell ⟨w.heap.size + 1, 0, none⟩ (.slice A4 n' c4)) = w10 at *
        clear hW0 hc hko
        have bx0_0 : w10.cell? ⟨w.heap.size, 0, none⟩ = some (.slice A' n' c') := (hk0.cell 0).trans rfl
        have fz0_0 := hk0.frozen 0
        have bx1_0 : w10.cell? ⟨w.heap.size + 1, 0, none⟩ = some (.slice A4 n' c4) := (hk1.cell 0).trans rfl
        have fz1_0 := hk1.frozen 0
        have bx2_0 : w10.cell? ⟨w3.heap.size, 0, none⟩ = some (.slice A4 n' c4) := (hk2.cell 0).trans rfl
        have fz2_0 := hk2.frozen 0
        refine bodyPost_ret (v := .tuple #[.agg #[.slice A4 n' c4], .bool true]) (by simp [results, Try.results44, go_sem, bx1_0]) rfl ?_
        rw [HM.out]
        exact ⟨A4, c4, by rw [HB.out], own_base o_q (by omega), k10⟩
set_option maxRecDepth 100000 in
set_option maxHeartbeats 8000000 in
theorem specScatterPieces_c (A A' A3 : Option Addr) (n c n' c' n3 c3 : Nat) (l : List Mapping) (pg : List ByteArray) (ps : List Piece) (w : World) (hn_a : l.length = n) (hn_b : pg.length = n') (hn_p : ps.length = n3) (hs_a : n ≤ 1048576) (hs_b : n' ≤ 1048576) (hs_p : n3 ≤ 1048576) (r_a : Reads w w.heap.size 4 A n (l.flatMap Mapping.cells)) (r_b : Reads w w.heap.size 1 A' n' (pg.flatMap fun x : ByteArray => [Value.string x])) (r_p : Reads w w.heap.size 2 A3 n3 (ps.flatMap Piece.cells)) (d : Int) (hi3 : ∀ x ∈ ps, x.ok) (s : ByteArray) (hsz : s.size ≤ 1048576) :
    Calls Try.prog 43 #[.slice A n c, .agg #[.slice A' n' c'], .int .i64 d, .slice A3 n3 c3, .string s] w fun e w' => ∃ A2 c2, e = .returned (.tuple #[.agg #[.slice A2 n' c2], .bool (scatB l pg d ps s)]) ∧ w'.ownsRow w.heap.size 9 1 (.slice A2 n' c2) n' ((scatM l pg d ps s).flatMap fun x : ByteArray => [Value.string x]) ∧ Below w.heap.size w w' := by
  have HN3 := Lib.hid hn_p
  have HI3 := Lib.hid hi3
  clear hi3
  by_cases hl : lenP ps < (s.size : Int)
  · rw [scat_no (scat_long hl), scat_long hl]
    have ra0 := r_a
    have rb0 := r_b
    have rp0 := r_p
    go_enter Try.func43, Try.ntmps43
    go_wp2_with fail
    have k0 : Below w.heap.size w ((w.alloc (.cells #[.slice A' n' c'] 39)).alloc (.cells #[.slice none 0 0] 39)) := by go_grown
    have bx0_0 : ((w.alloc (.cells #[.slice A' n' c'] 39)).alloc (.cells #[.slice none 0 0] 39)).cell? ⟨w.heap.size, 0, none⟩ = some (.slice A' n' c') := by simp [go_sem]
    have bl0 : w.heap.size < ((w.alloc (.cells #[.slice A' n' c'] 39)).alloc (.cells #[.slice none 0 0] 39)).heap.size := by go_size
    have hk0 : Blk ((w.alloc (.cells #[.slice A' n' c'] 39)).alloc (.cells #[.slice none 0 0] 39)) (w.heap.size) 39 [.slice A' n' c'] := by simpa using (Blk.new w 39 [.slice A' n' c']).alloc (.cells #[.slice none 0 0] 39)
    have bx1_0 : ((w.alloc (.cells #[.slice A' n' c'] 39)).alloc (.cells #[.slice none 0 0] 39)).cell? ⟨w.heap.size + 1, 0, none⟩ = some (.slice none 0 0) := by simp [go_sem]
    have bl1 : w.heap.size + 1 < ((w.alloc (.cells #[.slice A' n' c'] 39)).alloc (.cells #[.slice none 0 0] 39)).heap.size := by go_size
    have hk1 : Blk ((w.alloc (.cells #[.slice A' n' c'] 39)).alloc (.cells #[.slice none 0 0] 39)) (w.heap.size + 1) 39 [.slice none 0 0] := by simpa using Blk.new (w.alloc (.cells #[.slice A' n' c'] 39)) 39 [.slice none 0 0]
    have r_a := r_a.below k0
    have r_b := r_b.below k0
    have r_p := r_p.below k0
    have p0 := k0.size
    generalize hW0 : ((w.alloc (.cells #[.slice A' n' c'] 39)).alloc (.cells #[.slice none 0 0] 39)) = w0 at *
    clear hW0
    have bx0_0 : w0.cell? ⟨w.heap.size, 0, none⟩ = some (.slice A' n' c') := (hk0.cell 0).trans rfl
    have fz0_0 := hk0.frozen 0
    have bx1_0 : w0.cell? ⟨w.heap.size + 1, 0, none⟩ = some (.slice none 0 0) := (hk1.cell 0).trans rfl
    have fz1_0 := hk1.frozen 0
    refine (l16Copy_c _ _ _ pg _ hn_b (by omega) (r_b.more (by omega))).mono ?_
    rintro e w1 ⟨A_q, c_q, rfl, o_q, hb⟩
    have k1 : Below w.heap.size w w1 := ext_step k0 (by omega) hb
    have p1 := hb.size
    have hk0 := hk0.ext hb
    have hk1 := hk1.ext hb
    have bx0_0 : w1.cell? ⟨w.heap.size, 0, none⟩ = some (.slice A' n' c') := (hk0.cell 0).trans rfl
    have fz0_0 := hk0.frozen 0
    have bx1_0 : w1.cell? ⟨w.heap.size + 1, 0, none⟩ = some (.slice none 0 0) := (hk1.cell 0).trans rfl
    have fz1_0 := hk1.frozen 0
    have bl0 := Nat.lt_of_lt_of_le bl0 hb.size
    have bl1 := Nat.lt_of_lt_of_le bl1 hb.size
    have r_a := r_a.below (hb.mono (by omega))
    have r_b := r_b.below (hb.mono (by omega))
    have r_p := r_p.below (hb.mono (by omega))
    have r_q := Reads.of_own o_q
    have u_q := fun k hk => (o_q.lt k hk).2
    clear hb
    go_wp2_with fail
    have hb : Below w1.heap.size w1 (w1.alloc (.cells #[.slice A_q n' c_q] 39)) := by go_grown
    have bx2_0 : (w1.alloc (.cells #[.slice A_q n' c_q] 39)).cell? ⟨w1.heap.size, 0, none⟩ = some (.slice A_q n' c_q) := by simp [go_sem]
    have bl2 : w1.heap.size < (w1.alloc (.cells #[.slice A_q n' c_q] 39)).heap.size := by go_size
    have hk2 : Blk (w1.alloc (.cells #[.slice A_q n' c_q] 39)) (w1.heap.size) 39 [.slice A_q n' c_q] := Blk.new _ _ _
    generalize hW0 : (w1.alloc (.cells #[.slice A_q n' c_q] 39)) = w2 at *
    clear hW0
    have k2 : Below w.heap.size w w2 := ext_step k1 (by omega) hb
    have p2 := hb.size
    have hk0 := hk0.ext hb
    have hk1 := hk1.ext hb
    have bx0_0 : w2.cell? ⟨w.heap.size, 0, none⟩ = some (.slice A' n' c') := (hk0.cell 0).trans rfl
    have fz0_0 := hk0.frozen 0
    have bx1_0 : w2.cell? ⟨w.heap.size + 1, 0, none⟩ = some (.slice none 0 0) := (hk1.cell 0).trans rfl
    have fz1_0 := hk1.frozen 0
    have bl0 := Nat.lt_of_lt_of_le bl0 hb.size
    have bl1 := Nat.lt_of_lt_of_le bl1 hb.size
    have r_a := r_a.below (hb.mono (by omega))
    have r_b := r_b.below (hb.mono (by omega))
    have r_p := r_p.below (hb.mono (by omega))
    have r_q := r_q.below (hb.mono (by omega))
    have o_q := own_ext o_q hb
    have bx0_0 : w2.cell? ⟨w.heap.size, 0, none⟩ = some (.slice A' n' c') := (hk0.cell 0).trans rfl
    have fz0_0 := hk0.frozen 0
    have bx1_0 : w2.cell? ⟨w.heap.size + 1, 0, none⟩ = some (.slice none 0 0) := (hk1.cell 0).trans rfl
    have fz1_0 := hk1.frozen 0
    have bx2_0 : w2.cell? ⟨w1.heap.size, 0, none⟩ = some (.slice A_q n' c_q) := (hk2.cell 0).trans rfl
    have fz2_0 := hk2.frozen 0
    skip
    clear hb
    refine (specPiecesLength_c _ _ _ _ _ hn_p (by omega) (r_p.more (by omega))).mono ?_
    rintro e w3 ⟨rfl, hb⟩
    have k3 : Below w.heap.size w w3 := ext_step k2 (by omega) hb
    have p3 := hb.size
    have hk0 := hk0.ext hb
    have hk1 := hk1.ext hb
    have hk2 := hk2.ext hb
    have bx0_0 : w3.cell? ⟨w.heap.size, 0, none⟩ = some (.slice A' n' c') := (hk0.cell 0).trans rfl
    have fz0_0 := hk0.frozen 0
    have bx1_0 : w3.cell? ⟨w.heap.size + 1, 0, none⟩ = some (.slice none 0 0) := (hk1.cell 0).trans rfl
    have fz1_0 := hk1.frozen 0
    have bx2_0 : w3.cell? ⟨w1.heap.size, 0, none⟩ = some (.slice A_q n' c_q) := (hk2.cell 0).trans rfl
    have fz2_0 := hk2.frozen 0
    have bl0 := Nat.lt_of_lt_of_le bl0 hb.size
    have bl1 := Nat.lt_of_lt_of_le bl1 hb.size
    have bl2 := Nat.lt_of_lt_of_le bl2 hb.size
    have r_a := r_a.below (hb.mono (by omega))
    have r_b := r_b.below (hb.mono (by omega))
    have r_p := r_p.below (hb.mono (by omega))
    have r_q := r_q.below (hb.mono (by omega))
    have o_q := own_ext o_q hb
    clear hb
    go_wp2_with fail
    have hc : ChgA (w.heap.size + 1) w3 (w3.setCell ⟨w.heap.size + 1, 0, none⟩ (.slice A_q n' c_q)) := (ChgA.refl _ _).set _ _
    have hko := hk1
    have hk0 := hk0.chgA hc (by omega)
    have hk2 := hk2.chgA hc (by omega)
    have hk1 : Blk (w3.setCell ⟨w.heap.size + 1, 0, none⟩ (.slice A_q n' c_q)) (w.heap.size + 1) 39 [.slice A_q n' c_q] := hk1.set_ 0 _
    have k4 : Below w.heap.size w (w3.setCell ⟨w.heap.size + 1, 0, none⟩ (.slice A_q n' c_q)) := hc.below (by omega) k3
    have p4 : (w3.setCell ⟨w.heap.size + 1, 0, none⟩ (.slice A_q n' c_q)).heap.size = w3.heap.size := hc.size
    have bl0 := Nat.lt_of_lt_of_le bl0 (Nat.le_of_eq p4.symm)
    have bl1 := Nat.lt_of_lt_of_le bl1 (Nat.le_of_eq p4.symm)
    have bl2 := Nat.lt_of_lt_of_le bl2 (Nat.le_of_eq p4.symm)
    have r_a := r_a.below (hc.below (by omega) (Below.refl _ _))
    have r_b := r_b.below (hc.below (by omega) (Below.refl _ _))
    have r_p := r_p.below (hc.below (by omega) (Below.refl _ _))
    have o_q := own_chgA o_q hc (by first | exact own_ty o_q hko (by decide) | exact fun k hk => by have h1 := o_q.lt k hk; omega)
    have r_q := Reads.of_own o_q
    generalize hW0 : (w3.setCell ⟨w.heap.size + 1, 0, none⟩ (.slice A_q n' c_q)) = w4 at *
    clear hW0 hc hko
    have bx0_0 : w4.cell? ⟨w.heap.size, 0, none⟩ = some (.slice A' n' c') := (hk0.cell 0).trans rfl
    have fz0_0 := hk0.frozen 0
    have bx1_0 : w4.cell? ⟨w.heap.size + 1, 0, none⟩ = some (.slice A_q n' c_q) := (hk1.cell 0).trans rfl
    have fz1_0 := hk1.frozen 0
    have bx2_0 : w4.cell? ⟨w1.heap.size, 0, none⟩ = some (.slice A_q n' c_q) := (hk2.cell 0).trans rfl
    have fz2_0 := hk2.frozen 0
    refine bodyPost_ret (v := .tuple #[.agg #[.slice A_q n' c_q], .bool false]) (by simp [results, Try.results43, go_sem, bx1_0]) rfl ?_
    exact ⟨A_q, c_q, rfl, own_base o_q (by omega), k4⟩
  · have HL := Lib.hid hl
    have HO := Lib.hid (lenP_ok hl)
    have ra0 := r_a
    have rb0 := r_b
    have rp0 := r_p
    go_enter Try.func43, Try.ntmps43
    go_wp2_with fail
    have k0 : Below w.heap.size w ((w.alloc (.cells #[.slice A' n' c'] 39)).alloc (.cells #[.slice none 0 0] 39)) := by go_grown
    have bx0_0 : ((w.alloc (.cells #[.slice A' n' c'] 39)).alloc (.cells #[.slice none 0 0] 39)).cell? ⟨w.heap.size, 0, none⟩ = some (.slice A' n' c') := by simp [go_sem]
    have bl0 : w.heap.size < ((w.alloc (.cells #[.slice A' n' c'] 39)).alloc (.cells #[.slice none 0 0] 39)).heap.size := by go_size
    have hk0 : Blk ((w.alloc (.cells #[.slice A' n' c'] 39)).alloc (.cells #[.slice none 0 0] 39)) (w.heap.size) 39 [.slice A' n' c'] := by simpa using (Blk.new w 39 [.slice A' n' c']).alloc (.cells #[.slice none 0 0] 39)
    have bx1_0 : ((w.alloc (.cells #[.slice A' n' c'] 39)).alloc (.cells #[.slice none 0 0] 39)).cell? ⟨w.heap.size + 1, 0, none⟩ = some (.slice none 0 0) := by simp [go_sem]
    have bl1 : w.heap.size + 1 < ((w.alloc (.cells #[.slice A' n' c'] 39)).alloc (.cells #[.slice none 0 0] 39)).heap.size := by go_size
    have hk1 : Blk ((w.alloc (.cells #[.slice A' n' c'] 39)).alloc (.cells #[.slice none 0 0] 39)) (w.heap.size + 1) 39 [.slice none 0 0] := by simpa using Blk.new (w.alloc (.cells #[.slice A' n' c'] 39)) 39 [.slice none 0 0]
    have r_a := r_a.below k0
    have r_b := r_b.below k0
    have r_p := r_p.below k0
    have p0 := k0.size
    generalize hW0 : ((w.alloc (.cells #[.slice A' n' c'] 39)).alloc (.cells #[.slice none 0 0] 39)) = w0 at *
    clear hW0
    have bx0_0 : w0.cell? ⟨w.heap.size, 0, none⟩ = some (.slice A' n' c') := (hk0.cell 0).trans rfl
    have fz0_0 := hk0.frozen 0
    have bx1_0 : w0.cell? ⟨w.heap.size + 1, 0, none⟩ = some (.slice none 0 0) := (hk1.cell 0).trans rfl
    have fz1_0 := hk1.frozen 0
    refine (l16Copy_c _ _ _ pg _ hn_b (by omega) (r_b.more (by omega))).mono ?_
    rintro e w1 ⟨A_q, c_q, rfl, o_q, hb⟩
    have k1 : Below w.heap.size w w1 := ext_step k0 (by omega) hb
    have p1 := hb.size
    have hk0 := hk0.ext hb
    have hk1 := hk1.ext hb
    have bx0_0 : w1.cell? ⟨w.heap.size, 0, none⟩ = some (.slice A' n' c') := (hk0.cell 0).trans rfl
    have fz0_0 := hk0.frozen 0
    have bx1_0 : w1.cell? ⟨w.heap.size + 1, 0, none⟩ = some (.slice none 0 0) := (hk1.cell 0).trans rfl
    have fz1_0 := hk1.frozen 0
    have bl0 := Nat.lt_of_lt_of_le bl0 hb.size
    have bl1 := Nat.lt_of_lt_of_le bl1 hb.size
    have r_a := r_a.below (hb.mono (by omega))
    have r_b := r_b.below (hb.mono (by omega))
    have r_p := r_p.below (hb.mono (by omega))
    have r_q := Reads.of_own o_q
    have u_q := fun k hk => (o_q.lt k hk).2
    clear hb
    go_wp2_with fail
    have hb : Below w1.heap.size w1 (w1.alloc (.cells #[.slice A_q n' c_q] 39)) := by go_grown
    have bx2_0 : (w1.alloc (.cells #[.slice A_q n' c_q] 39)).cell? ⟨w1.heap.size, 0, none⟩ = some (.slice A_q n' c_q) := by simp [go_sem]
    have bl2 : w1.heap.size < (w1.alloc (.cells #[.slice A_q n' c_q] 39)).heap.size := by go_size
    have hk2 : Blk (w1.alloc (.cells #[.slice A_q n' c_q] 39)) (w1.heap.size) 39 [.slice A_q n' c_q] := Blk.new _ _ _
    generalize hW0 : (w1.alloc (.cells #[.slice A_q n' c_q] 39)) = w2 at *
    clear hW0
    have k2 : Below w.heap.size w w2 := ext_step k1 (by omega) hb
    have p2 := hb.size
    have hk0 := hk0.ext hb
    have hk1 := hk1.ext hb
    have bx0_0 : w2.cell? ⟨w.heap.size, 0, none⟩ = some (.slice A' n' c') := (hk0.cell 0).trans rfl
    have fz0_0 := hk0.frozen 0
    have bx1_0 : w2.cell? ⟨w.heap.size + 1, 0, none⟩ = some (.slice none 0 0) := (hk1.cell 0).trans rfl
    have fz1_0 := hk1.frozen 0
    have bl0 := Nat.lt_of_lt_of_le bl0 hb.size
    have bl1 := Nat.lt_of_lt_of_le bl1 hb.size
    have r_a := r_a.below (hb.mono (by omega))
    have r_b := r_b.below (hb.mono (by omega))
    have r_p := r_p.below (hb.mono (by omega))
    have r_q := r_q.below (hb.mono (by omega))
    have o_q := own_ext o_q hb
    have bx0_0 : w2.cell? ⟨w.heap.size, 0, none⟩ = some (.slice A' n' c') := (hk0.cell 0).trans rfl
    have fz0_0 := hk0.frozen 0
    have bx1_0 : w2.cell? ⟨w.heap.size + 1, 0, none⟩ = some (.slice none 0 0) := (hk1.cell 0).trans rfl
    have fz1_0 := hk1.frozen 0
    have bx2_0 : w2.cell? ⟨w1.heap.size, 0, none⟩ = some (.slice A_q n' c_q) := (hk2.cell 0).trans rfl
    have fz2_0 := hk2.frozen 0
    skip
    clear hb
    refine (specPiecesLength_c _ _ _ _ _ hn_p (by omega) (r_p.more (by omega))).mono ?_
    rintro e w3 ⟨rfl, hb⟩
    have k3 : Below w.heap.size w w3 := ext_step k2 (by omega) hb
    have p3 := hb.size
    have hk0 := hk0.ext hb
    have hk1 := hk1.ext hb
    have hk2 := hk2.ext hb
    have bx0_0 : w3.cell? ⟨w.heap.size, 0, none⟩ = some (.slice A' n' c') := (hk0.cell 0).trans rfl
    have fz0_0 := hk0.frozen 0
    have bx1_0 : w3.cell? ⟨w.heap.size + 1, 0, none⟩ = some (.slice none 0 0) := (hk1.cell 0).trans rfl
    have fz1_0 := hk1.frozen 0
    have bx2_0 : w3.cell? ⟨w1.heap.size, 0, none⟩ = some (.slice A_q n' c_q) := (hk2.cell 0).trans rfl
    have fz2_0 := hk2.frozen 0
    have bl0 := Nat.lt_of_lt_of_le bl0 hb.size
    have bl1 := Nat.lt_of_lt_of_le bl1 hb.size
    have bl2 := Nat.lt_of_lt_of_le bl2 hb.size
    have r_a := r_a.below (hb.mono (by omega))
    have r_b := r_b.below (hb.mono (by omega))
    have r_p := r_p.below (hb.mono (by omega))
    have r_q := r_q.below (hb.mono (by omega))
    have o_q := own_ext o_q hb
    clear hb
    go_wp2_with fail
    go_loopw [4, 13] (fun sv i wr => ∃ (k : Nat) (p : List ByteArray) (t : ByteArray) (A4 : Option Addr) (c4 : Nat), k ≤ n3 ∧ i = .int .i64 (k : Int) ∧ sv = .string t ∧ t.size ≤ 1048576 ∧ Hid (p.length = n') ∧ Hid (scG l d (ps.drop k) p t = scG l d ps pg s) ∧ Below w.heap.size w wr ∧ w1.heap.size < wr.heap.size ∧ Blk wr (w.heap.size) 39 [.slice A' n' c'] ∧ Blk wr (w.heap.size + 1) 39 [.slice none 0 0] ∧ Blk wr (w1.heap.size) 39 [.slice A4 n' c4] ∧ wr.ownsRow (w.heap.size + 1 + 1) 9 1 (.slice A4 n' c4) n' (p.flatMap fun x : ByteArray => [Value.string x])) (fun _ i _ => n3 - (intOf i).toNat)
    case atStart => exact ⟨0, pg, s, A_q, c_q, Nat.zero_le _, rfl, rfl, hsz, hn_b, rfl, k3, bl2, hk0, hk1, hk2, own_base o_q (by omega)⟩
    case round =>
      obtain ⟨k, p, t, A4, c4, hk, rfl, rfl, ht, hpl, hsc, hbw, hw5, hk0, hk1, hk2, o_q⟩ := hrel
      obtain ⟨w9, hw9⟩ : ∃ w9 : World, w9 = wr := ⟨_, rfl⟩
      subst hw9
      have k9 := hbw
      have bl0 := hk0.lt
      have bl1 := hk1.lt
      have bl2 := hk2.lt
      have p9 := hbw.size
      have r_a := ra0.below hbw
      have r_b := rb0.below hbw
      have r_p := rp0.below hbw
      have r_q := Reads.of_own o_q
      by_cases hlt : k < n3
      · skip
        obtain ⟨b3, o3, x, rfl, hb3, hxx, hcx⟩ := rp0.el (fun _ => rfl) (by decide) HN3.out hlt
        have c0 := (hbw.cell (p := ⟨b3, o3 + k * 2, none⟩) hb3).trans (by simpa using hcx 0 _ rfl)
        have c1 := (hbw.cell (p := ⟨b3, o3 + k * 2 + 1, none⟩) hb3).trans (by simpa using hcx 1 _ rfl)
        have HXx := Lib.hid hxx
        clear hxx hcx
        obtain ⟨p1, p2, p3⟩ := piecesB_el HO.out HXx.out
        have pI := HI3.out x (List.mem_of_getElem? HXx.out)
        have hI1 : I64 x.at_ := pI.1
        have i0 : (0 : Int) ≤ (k : Int) := by omega
        have i1 : (k : Int) < (n3 : Int) := by omega
        have hst := (scG_step (l := l) (d := d) (p := p) (t := t) HXx.out)
        have hmd : scN x t = min x.ln.toNat t.size := rfl
        generalize scN x t = m at *
        have hsm : (t.extract 0 m).size = m := by rw [ByteArray.size_extract]; omega
        rw [hsm] at hst
        have HSM := Lib.hid hsm
        clear hsm
        have m0 : m ≤ t.size := by omega
        have m1 : m ≤ 4096 := by omega
        have hE : (t.extract 0 m).size ≤ 1048576 := by rw [ByteArray.size_extract]; omega
        have hE2 : (t.extract m t.size).size ≤ 1048576 := by rw [ByteArray.size_extract]; omega
        have j0 : (0 : Int) ≤ (m : Int) := by omega
        have j1 : (m : Int) ≤ (t.size : Int) := by omega
        have j2 : (m : Int) ≤ 1048576 := by omega
        have hmi : (if x.ln < (t.size : Int) then x.ln else (t.size : Int)) = (m : Int) := by split <;> omega
        clear hmd
        cases hd : dmaOk l p d x.at_ (m : Int) true
        · skip
          have hno : scG l d ps pg s = none := by rw [← hsc.out, hst, hd]; rfl
          have HB := Lib.hid (scat_none hno)
          have HM := Lib.hid (scat_no HB.out)
          clear hno
          have HD := Lib.hid hd
          clear hd hst
          have bx0_0 : w9.cell? ⟨w.heap.size, 0, none⟩ = some (.slice A' n' c') := (hk0.cell 0).trans rfl
          have fz0_0 := hk0.frozen 0
          have bx1_0 : w9.cell? ⟨w.heap.size + 1, 0, none⟩ = some (.slice none 0 0) := (hk1.cell 0).trans rfl
          have fz1_0 := hk1.frozen 0
          have bx2_0 : w9.cell? ⟨w1.heap.size, 0, none⟩ = some (.slice A4 n' c4) := (hk2.cell 0).trans rfl
          have fz2_0 := hk2.frozen 0
          go_wp2_with fail
          refine wp_region_slotsS (w.heap.size) [(40, fun _ v => v = .slice A n c), (41, fun _ v => v = .agg #[.slice A4 n' c4]), (42, fun _ v => v = .int .i64 d), (43, fun _ v => v = .slice (some ⟨b3, o3, none⟩) n3 c3), (44, fun _ v => v = .int .i64 (k : Int)), (45, fun _ v => v = .pointer (some ⟨b3, o3 + k * 2, none⟩)), (46, fun _ v => v = .pointer (some ⟨b3, o3 + k * 2, none⟩)), (47, fun _ v => v = .int .i64 x.at_), (48, fun _ v => v = .string t), (49, fun _ v => v = .int .i64 (m : Int)), (50, fun _ v => v = .string (t.extract 0 m)), (51, RowP w9.heap.size 9 1 n' ((dmaW l p d x.at_ (t.extract 0 m) true).flatMap fun x : ByteArray => [Value.string x]) (fun A c => .tuple #[.agg #[.slice A n' c], .bool (dmaOk l p d x.at_ (m : Int) true)])), (39, RowP w9.heap.size 9 1 n' ((dmaW l p d x.at_ (t.extract 0 m) true).flatMap fun x : ByteArray => [Value.string x]) (fun A c => .tuple #[.agg #[.slice A n' c], .bool (dmaOk l p d x.at_ (m : Int) true)])), (52, RowP w9.heap.size 9 1 n' ((dmaW l p d x.at_ (t.extract 0 m) true).flatMap fun x : ByteArray => [Value.string x]) (fun A c => .agg #[.slice A n' c])), (53, fun _ v => v = .bool (dmaOk l p d x.at_ (m : Int) true)), (15, BoxP w9.heap.size 39 1), (16, fun _ v => v = .bool (dmaOk l p d x.at_ (m : Int) true))] [⟨16, 15, fun _ => True, StoR w9.heap.size 39 9 1 n' ((dmaW l p d x.at_ (t.extract 0 m) true).flatMap fun x : ByteArray => [Value.string x]) (fun A c => [.slice A n' c])⟩] (fun u => Blk u (w.heap.size) 39 [.slice A' n' c'] ∧ Blk u (w.heap.size + 1) 39 [.slice none 0 0] ∧ Blk u (w1.heap.size) 39 [.slice A4 n' c4] ∧ u.ownsRow (w.heap.size + 1 + 1) 9 1 (.slice A4 n' c4) n' (p.flatMap fun x : ByteArray => [Value.string x])) (by kernel_rfl) (by omega) (by kernel_rfl) (by kernel_rfl) (by kernel_rfl) (by kernel_rfl) ?_ ?_ ?_ ?_ ?_ ?_ ?_
          · intro p hp
            simp only [List.mem_cons, List.not_mem_nil, or_false] at hp
            rcases hp with rfl | rfl | rfl | rfl | rfl | rfl | rfl | rfl | rfl | rfl | rfl | rfl | rfl | rfl | rfl | rfl | rfl
            all_goals (intro u u' v hb hv; first | exact hv | exact BoxP.keep hv hb | exact RowP.keep hv hb)
          · intro s hs u u' hb
            simp only [List.mem_cons, List.not_mem_nil, or_false] at hs
            rcases hs with rfl
            all_goals (refine ⟨fun h => ?_, fun _ h => ?_⟩ <;> first | exact h | exact StoP.keep h hb | exact StoR.keep h hb | exact Blk.ext h hb | exact StaR.keep h hb)
          · intro s hs
            simp only [List.mem_cons, List.not_mem_nil, or_false] at hs
            rcases hs with rfl
            all_goals first | trivial
          · exact ⟨hk0, hk1, hk2, o_q⟩
          · intro u u' hb hj
            obtain ⟨j0, j1, j2, j3⟩ := hj
            exact ⟨(j0.ext hb), (j1.ext hb), (j2.ext hb), (own_ext j3 hb)⟩
          · intro hGk hSk hJk
            refine allStep_cons (stepS_plain hGk hSk (by omega) hJk (by kernel_rfl) rfl ?_) ?_
            · intro a u hb hz hj hl hp K Q hK
              have e0 : a.tmps[0]?.getD undef = .slice A n c := gd (hl 0 (by kernel_rfl))
              go_simp
              exact hK _ _ (Below.refl _ _) (by intro d hd; cases hd; exact rfl)
            refine allStep_cons (stepS_plain hGk hSk (by omega) hJk (by kernel_rfl) rfl ?_) ?_
            · intro a u hb hz hj hl hp K Q hK
              have e12 : a.tmps[12]?.getD undef = .pointer (some ⟨w1.heap.size, 0, none⟩) := gd (hl 12 (by kernel_rfl))
              obtain ⟨j0, j1, j2, j3⟩ := hj
              have hBb := j2
              have gb0 : u.cell? ⟨w1.heap.size, 0, none⟩ = some (.slice A4 n' c4) := (hBb.cell 0).trans rfl
              go_simp
              exact hK _ _ (Below.refl _ _) (by intro d hd; cases hd; exact rfl)
            refine allStep_cons (stepS_plain hGk hSk (by omega) hJk (by kernel_rfl) rfl ?_) ?_
            · intro a u hb hz hj hl hp K Q hK
              have e2 : a.tmps[2]?.getD undef = .int .i64 d := gd (hl 2 (by kernel_rfl))
              go_simp
              exact hK _ _ (Below.refl _ _) (by intro d hd; cases hd; exact rfl)
            refine allStep_cons (stepS_plain hGk hSk (by omega) hJk (by kernel_rfl) rfl ?_) ?_
            · intro a u hb hz hj hl hp K Q hK
              have e3 : a.tmps[3]?.getD undef = .slice (some ⟨b3, o3, none⟩) n3 c3 := gd (hl 3 (by kernel_rfl))
              go_simp
              exact hK _ _ (Below.refl _ _) (by intro d hd; cases hd; exact rfl)
            refine allStep_cons (stepS_plain hGk hSk (by omega) hJk (by kernel_rfl) rfl ?_) ?_
            · intro a u hb hz hj hl hp K Q hK
              have e13 : a.tmps[13]?.getD undef = .int .i64 (k : Int) := gd (hl 13 (by kernel_rfl))
              go_simp
              exact hK _ _ (Below.refl _ _) (by intro d hd; cases hd; exact rfl)
            refine allStep_cons (stepS_plain hGk hSk (by omega) hJk (by kernel_rfl) rfl ?_) ?_
            · intro a u hb hz hj hl hp K Q hK
              have e43 : a.tmps[43]?.getD undef = .slice (some ⟨b3, o3, none⟩) n3 c3 := gd (hl 43 (by kernel_rfl))
              have e44 : a.tmps[44]?.getD undef = .int .i64 (k : Int) := gd (hl 44 (by kernel_rfl))
              go_simp
              exact hK _ _ (Below.refl _ _) (by intro d hd; cases hd; exact rfl)
            refine allStep_cons (stepS_plain hGk hSk (by omega) hJk (by kernel_rfl) rfl ?_) ?_
            · intro a u hb hz hj hl hp K Q hK
              have e45 : a.tmps[45]?.getD undef = .pointer (some ⟨b3, o3 + k * 2, none⟩) := gd (hl 45 (by kernel_rfl))
              go_simp
              exact hK _ _ (Below.refl _ _) (by intro d hd; cases hd; exact rfl)
            refine allStep_cons (stepS_plain hGk hSk (by omega) hJk (by kernel_rfl) rfl ?_) ?_
            · intro a u hb hz hj hl hp K Q hK
              have e46 : a.tmps[46]?.getD undef = .pointer (some ⟨b3, o3 + k * 2, none⟩) := gd (hl 46 (by kernel_rfl))
              have c0 := (hb.cell (p := ⟨b3, o3 + k * 2, none⟩) hb3).trans c0
              go_simp
              exact hK _ _ (Below.refl _ _) (by intro d hd; cases hd; exact rfl)
            refine allStep_cons (stepS_plain hGk hSk (by omega) hJk (by kernel_rfl) rfl ?_) ?_
            · intro a u hb hz hj hl hp K Q hK
              have e4 : a.tmps[4]?.getD undef = .string t := gd (hl 4 (by kernel_rfl))
              go_simp
              exact hK _ _ (Below.refl _ _) (by intro d hd; cases hd; exact rfl)
            refine allStep_cons (stepS_plain hGk hSk (by omega) hJk (by kernel_rfl) rfl ?_) ?_
            · intro a u hb hz hj hl hp K Q hK
              have e14 : a.tmps[14]?.getD undef = .int .i64 (m : Int) := gd (hl 14 (by kernel_rfl))
              go_simp
              exact hK _ _ (Below.refl _ _) (by intro d hd; cases hd; exact rfl)
            refine allStep_cons (stepS_plain hGk hSk (by omega) hJk (by kernel_rfl) rfl ?_) ?_
            · intro a u hb hz hj hl hp K Q hK
              have e48 : a.tmps[48]?.getD undef = .string t := gd (hl 48 (by kernel_rfl))
              have e49 : a.tmps[49]?.getD undef = .int .i64 (m : Int) := gd (hl 49 (by kernel_rfl))
              go_simp
              exact hK _ _ (Below.refl _ _) (by intro d hd; cases hd; exact rfl)
            refine allStep_cons (stepS_plain hGk hSk (by omega) hJk (by kernel_rfl) rfl ?_) ?_
            · intro a u hb hz hj hl hp K Q hK
              have e40 : a.tmps[40]?.getD undef = .slice A n c := gd (hl 40 (by kernel_rfl))
              have e41 : a.tmps[41]?.getD undef = .agg #[.slice A4 n' c4] := gd (hl 41 (by kernel_rfl))
              have e42 : a.tmps[42]?.getD undef = .int .i64 d := gd (hl 42 (by kernel_rfl))
              have e47 : a.tmps[47]?.getD undef = .int .i64 x.at_ := gd (hl 47 (by kernel_rfl))
              have e50 : a.tmps[50]?.getD undef = .string (t.extract 0 m) := gd (hl 50 (by kernel_rfl))
              obtain ⟨j0, j1, j2, j3⟩ := hj
              go_simp
              refine (specDmaWrite_c _ _ _ _ _ _ l p _ hn_a hpl.out hs_a hs_b ((r_a.below (hb.mono (by omega))).more (by omega)) (Reads.of_own j3) _ _ _ hI1 hE).mono ?_
              rintro e u1 ⟨A_v, c_v, rfl, o_v, hb1⟩
              exact hK _ _ hb1 (by intro d hd; cases hd; exact ⟨A_v, c_v, (by rw [HSM.out]), own_base o_v (by omega)⟩)
            refine allStep_cons (stepS_plain hGk hSk (by omega) hJk (by kernel_rfl) rfl ?_) ?_
            · intro a u hb hz hj hl hp K Q hK
              obtain ⟨A1, c1, ex51, o1⟩ : RowP w9.heap.size 9 1 n' ((dmaW l p d x.at_ (t.extract 0 m) true).flatMap fun x : ByteArray => [Value.string x]) (fun A c => .tuple #[.agg #[.slice A n' c], .bool (dmaOk l p d x.at_ (m : Int) true)]) u (a.tmps.getD 51 undef) := hl 51 (by kernel_rfl)
              have e51 := gd ex51
              go_simp
              exact hK _ _ (Below.refl _ _) (by intro d hd; cases hd; exact ⟨A1, c1, rfl, o1⟩)
            refine allStep_cons (stepS_plain hGk hSk (by omega) hJk (by kernel_rfl) rfl ?_) ?_
            · intro a u hb hz hj hl hp K Q hK
              obtain ⟨A1, c1, ex39, o1⟩ : RowP w9.heap.size 9 1 n' ((dmaW l p d x.at_ (t.extract 0 m) true).flatMap fun x : ByteArray => [Value.string x]) (fun A c => .tuple #[.agg #[.slice A n' c], .bool (dmaOk l p d x.at_ (m : Int) true)]) u (a.tmps.getD 39 undef) := hl 39 (by kernel_rfl)
              have e39 := gd ex39
              go_simp
              exact hK _ _ (Below.refl _ _) (by intro d hd; cases hd; exact ⟨A1, c1, rfl, o1⟩)
            refine allStep_cons (stepS_plain hGk hSk (by omega) hJk (by kernel_rfl) rfl ?_) ?_
            · intro a u hb hz hj hl hp K Q hK
              obtain ⟨A1, c1, ex39, o1⟩ : RowP w9.heap.size 9 1 n' ((dmaW l p d x.at_ (t.extract 0 m) true).flatMap fun x : ByteArray => [Value.string x]) (fun A c => .tuple #[.agg #[.slice A n' c], .bool (dmaOk l p d x.at_ (m : Int) true)]) u (a.tmps.getD 39 undef) := hl 39 (by kernel_rfl)
              have e39 := gd ex39
              go_simp
              exact hK _ _ (Below.refl _ _) (by intro d hd; cases hd; exact rfl)
            refine allStep_cons (stepS_plain hGk hSk (by omega) hJk (by kernel_rfl) rfl ?_) ?_
            · intro a u hb hz hj hl hp K Q hK
              go_simp
              exact hK _ _ (by go_grown) (by intro d hd; cases hd; exact BoxP.new _ _ [.slice none 0 0] (by omega) rfl)
            refine allStep_cons (stepS_store (Chg w9.heap.size 39) (fun _ _ hc hb => hc.below' (by omega) hb) (fun _ _ hc => hc.size) (hold_rel ?_) ?_ ?_ rfl rfl ?_) ?_
            · intro p hp
              simp only [List.mem_cons, List.not_mem_nil, or_false] at hp
              rcases hp with rfl | rfl | rfl | rfl | rfl | rfl | rfl | rfl | rfl | rfl | rfl | rfl | rfl | rfl | rfl | rfl | rfl
              all_goals (intro u u' v hb hv; first | exact hv | exact BoxP.chg hv hb | exact RowP.chg hv hb (by decide))
            · intro s hs hne u u' hb
              simp only [List.mem_cons, List.not_mem_nil, or_false] at hs
              rcases hs with rfl
              all_goals first | exact absurd (by rfl) hne | (refine ⟨fun h => ?_, fun _ h => ?_⟩ <;> first | exact h | exact StoP.chg h hb (by decide) | exact StoR.chg h hb (by decide) (by decide) | exact Blk.chgL h hb (by omega) | exact StaR.chgL h hb (by omega) (by decide))
            · intro u u' hb hj
              obtain ⟨j0, j1, j2, j3⟩ := hj
              exact ⟨(j0.chgL hb (by omega)), (j1.chgL hb (by omega)), (j2.chgL hb (by omega)), (own_chgL j3 hb (fun k hk => (o_q.lt k hk).2))⟩
            · intro a u hb hz hj hl hp K Q hK
              obtain ⟨b, exb, hB, zs, hzl, hbk⟩ : BoxP w9.heap.size 39 1 u (a.tmps.getD 15 undef) := hl 15 (by kernel_rfl)
              have e15 := gd exb
              obtain ⟨A2, c2, ex52, o2⟩ : RowP w9.heap.size 9 1 n' ((dmaW l p d x.at_ (t.extract 0 m) true).flatMap fun x : ByteArray => [Value.string x]) (fun A c => .agg #[.slice A n' c]) u (a.tmps.getD 52 undef) := hl 52 (by kernel_rfl)
              have e52 := gd ex52
              obtain ⟨z0, rfl⟩ : ∃ z0, zs = [z0] := (by match zs, hzl with | [z0], _ => exact ⟨_, rfl⟩)
              have hlt := hbk.lt
              have g0 : u.cell? ⟨b, 0, none⟩ = some z0 := (hbk.cell 0).trans rfl
              have f0 := hbk.frozen 0
              go_simp
              refine hK undef _ ((Chg.refl _ _ _).set hbk hB 0 _) (fun s hs he => ?_)
              simp only [List.mem_cons, List.not_mem_nil, or_false] at hs
              rcases hs with rfl
              · exact ⟨b, A2, c2, exb, hB, (hbk.set_ 0 _), own_chg o2 ((Chg.refl _ _ _).set hbk hB 0 _) (by decide)⟩
            refine allStep_cons (stepS_plain hGk hSk (by omega) hJk (by kernel_rfl) rfl ?_) ?_
            · intro a u hb hz hj hl hp K Q hK
              have e53 : a.tmps[53]?.getD undef = .bool (dmaOk l p d x.at_ (m : Int) true) := gd (hl 53 (by kernel_rfl))
              go_simp
              exact hK _ _ (Below.refl _ _) (by intro d hd; cases hd; exact rfl)
            exact allStep_nil
          intro xT w10 hb hz hj hL hSt
          obtain ⟨hk0, hk1, hk2, o_q⟩ := hj
          have fx16 : xT 16 = .bool (dmaOk l p d x.at_ (m : Int) true) := hL _ (List.mem_of_getElem? (i := 16) rfl)
          obtain ⟨bk_3, A_v, c_v, fx15, lo3, hk3, o_v⟩ : StoR w9.heap.size 39 9 1 n' ((dmaW l p d x.at_ (t.extract 0 m) true).flatMap fun x : ByteArray => [Value.string x]) (fun A c => [.slice A n' c]) w10 (xT 15) := hSt _ (List.mem_of_getElem? (i := 0) rfl)
          simp only [List.map, putAll, fx16, fx15]
          have bl3 := hk3.lt
          have k10 : Below w.heap.size w w10 := k9.trans hb
          have p10 : w9.heap.size ≤ w10.heap.size := hb.size
          have bl0 := Nat.lt_of_lt_of_le bl0 hb.size
          have bl1 := Nat.lt_of_lt_of_le bl1 hb.size
          have bl2 := Nat.lt_of_lt_of_le bl2 hb.size
          have r_a := r_a.below hb
          have r_b := r_b.below hb
          have r_p := r_p.below hb
          have r_q := Reads.of_own o_q
          have nb_v_3 := own_ty o_v hk3 (by decide)
          have r_v := Reads.of_own o_v
          have u_v := fun k hk => (o_v.lt k hk).2
          have bx0_0 : w10.cell? ⟨w.heap.size, 0, none⟩ = some (.slice A' n' c') := (hk0.cell 0).trans rfl
          have fz0_0 := hk0.frozen 0
          have bx1_0 : w10.cell? ⟨w.heap.size + 1, 0, none⟩ = some (.slice none 0 0) := (hk1.cell 0).trans rfl
          have fz1_0 := hk1.frozen 0
          have bx2_0 : w10.cell? ⟨w1.heap.size, 0, none⟩ = some (.slice A4 n' c4) := (hk2.cell 0).trans rfl
          have fz2_0 := hk2.frozen 0
          have bx3_0 : w10.cell? ⟨bk_3, 0, none⟩ = some (.slice A_v n' c_v) := (hk3.cell 0).trans rfl
          have fz3_0 := hk3.frozen 0
          clear hL hSt hb hz fx16 fx15
          rw [HD.out]
          go_wp2_with fail
          refine (l16Copy_c _ _ _ pg _ hn_b (by omega) (r_b.more (by omega))).mono ?_
          rintro e w11 ⟨A_q, c_q, rfl, o_q, hb⟩
          have k11 : Below w.heap.size w w11 := ext_step k10 (by omega) hb
          have p11 := hb.size
          have hk0 := hk0.ext hb
          have hk1 := hk1.ext hb
          have hk2 := hk2.ext hb
          have hk3 := hk3.ext hb
          have bx0_0 : w11.cell? ⟨w.heap.size, 0, none⟩ = some (.slice A' n' c') := (hk0.cell 0).trans rfl
          have fz0_0 := hk0.frozen 0
          have bx1_0 : w11.cell? ⟨w.heap.size + 1, 0, none⟩ = some (.slice none 0 0) := (hk1.cell 0).trans rfl
          have fz1_0 := hk1.frozen 0
          have bx2_0 : w11.cell? ⟨w1.heap.size, 0, none⟩ = some (.slice A4 n' c4) := (hk2.cell 0).trans rfl
          have fz2_0 := hk2.frozen 0
          have bx3_0 : w11.cell? ⟨bk_3, 0, none⟩ = some (.slice A_v n' c_v) := (hk3.cell 0).trans rfl
          have fz3_0 := hk3.frozen 0
          have bl0 := Nat.lt_of_lt_of_le bl0 hb.size
          have bl1 := Nat.lt_of_lt_of_le bl1 hb.size
          have bl2 := Nat.lt_of_lt_of_le bl2 hb.size
          have bl3 := Nat.lt_of_lt_of_le bl3 hb.size
          have r_a := r_a.below (hb.mono (by omega))
          have r_b := r_b.below (hb.mono (by omega))
          have r_p := r_p.below (hb.mono (by omega))
          have r_v := r_v.below (hb.mono (by omega))
          have o_v := own_ext o_v hb
          have r_q := Reads.of_own o_q
          have u_q := fun k hk => (o_q.lt k hk).2
          clear hb
          go_wp2_with fail
          have hc : ChgA (w.heap.size + 1) w11 (w11.setCell ⟨w.heap.size + 1, 0, none⟩ (.slice A_q n' c_q)) := (ChgA.refl _ _).set _ _
          have hko := hk1
          have hk0 := hk0.chgA hc (by omega)
          have hk2 := hk2.chgA hc (by omega)
          have hk3 := hk3.chgA hc (by omega)
          have hk1 : Blk (w11.setCell ⟨w.heap.size + 1, 0, none⟩ (.slice A_q n' c_q)) (w.heap.size + 1) 39 [.slice A_q n' c_q] := hk1.set_ 0 _
          have k12 : Below w.heap.size w (w11.setCell ⟨w.heap.size + 1, 0, none⟩ (.slice A_q n' c_q)) := hc.below (by omega) k11
          have p12 : (w11.setCell ⟨w.heap.size + 1, 0, none⟩ (.slice A_q n' c_q)).heap.size = w11.heap.size := hc.size
          have bl0 := Nat.lt_of_lt_of_le bl0 (Nat.le_of_eq p12.symm)
          have bl1 := Nat.lt_of_lt_of_le bl1 (Nat.le_of_eq p12.symm)
          have bl2 := Nat.lt_of_lt_of_le bl2 (Nat.le_of_eq p12.symm)
          have bl3 := Nat.lt_of_lt_of_le bl3 (Nat.le_of_eq p12.symm)
          have r_a := r_a.below (hc.below (by omega) (Below.refl _ _))
          have r_b := r_b.below (hc.below (by omega) (Below.refl _ _))
          have r_p := r_p.below (hc.below (by omega) (Below.refl _ _))
          have o_v := own_chgA o_v hc (by first | exact own_ty o_v hko (by decide) | exact fun k hk => by have h1 := o_v.lt k hk; omega)
          have r_v := Reads.of_own o_v
          have o_q := own_chgA o_q hc (by first | exact own_ty o_q hko (by decide) | exact fun k hk => by have h1 := o_q.lt k hk; omega)
          have r_q := Reads.of_own o_q
          generalize hW0 : (w11.setCell ⟨w.heap.size + 1, 0, none⟩ (.slice A_q n' c_q)) = w12 at *
          clear hW0 hc hko
          have bx0_0 : w12.cell? ⟨w.heap.size, 0, none⟩ = some (.slice A' n' c') := (hk0.cell 0).trans rfl
          have fz0_0 := hk0.frozen 0
          have bx1_0 : w12.cell? ⟨w.heap.size + 1, 0, none⟩ = some (.slice A_q n' c_q) := (hk1.cell 0).trans rfl
          have fz1_0 := hk1.frozen 0
          have bx2_0 : w12.cell? ⟨w1.heap.size, 0, none⟩ = some (.slice A4 n' c4) := (hk2.cell 0).trans rfl
          have fz2_0 := hk2.frozen 0
          have bx3_0 : w12.cell? ⟨bk_3, 0, none⟩ = some (.slice A_v n' c_v) := (hk3.cell 0).trans rfl
          have fz3_0 := hk3.frozen 0
          refine bodyPost_ret (v := .tuple #[.agg #[.slice A_q n' c_q], .bool false]) (by simp [results, Try.results43, go_sem, bx1_0]) rfl ?_
          rw [HM.out]
          exact ⟨A_q, c_q, by rw [HB.out], own_base o_q (by omega), k12⟩
        · skip
          have HST : Hid (scG l d (ps.drop (k + 1)) (dmaW l p d x.at_ (t.extract 0 m) true) (t.extract m t.size) = scG l d ps pg s) := by rw [Hid, ← hsc.out, hst, if_pos hd]
          have HPL : Hid ((dmaW l p d x.at_ (t.extract 0 m) true).length = n') := by rw [Hid, dmaW_len]; exact hpl.out
          have HD := Lib.hid hd
          clear hd hst
          have bx0_0 : w9.cell? ⟨w.heap.size, 0, none⟩ = some (.slice A' n' c') := (hk0.cell 0).trans rfl
          have fz0_0 := hk0.frozen 0
          have bx1_0 : w9.cell? ⟨w.heap.size + 1, 0, none⟩ = some (.slice none 0 0) := (hk1.cell 0).trans rfl
          have fz1_0 := hk1.frozen 0
          have bx2_0 : w9.cell? ⟨w1.heap.size, 0, none⟩ = some (.slice A4 n' c4) := (hk2.cell 0).trans rfl
          have fz2_0 := hk2.frozen 0
          go_wp2_with fail
          refine wp_region_slotsS (w.heap.size) [(40, fun _ v => v = .slice A n c), (41, fun _ v => v = .agg #[.slice A4 n' c4]), (42, fun _ v => v = .int .i64 d), (43, fun _ v => v = .slice (some ⟨b3, o3, none⟩) n3 c3), (44, fun _ v => v = .int .i64 (k : Int)), (45, fun _ v => v = .pointer (some ⟨b3, o3 + k * 2, none⟩)), (46, fun _ v => v = .pointer (some ⟨b3, o3 + k * 2, none⟩)), (47, fun _ v => v = .int .i64 x.at_), (48, fun _ v => v = .string t), (49, fun _ v => v = .int .i64 (m : Int)), (50, fun _ v => v = .string (t.extract 0 m)), (51, RowP w9.heap.size 9 1 n' ((dmaW l p d x.at_ (t.extract 0 m) true).flatMap fun x : ByteArray => [Value.string x]) (fun A c => .tuple #[.agg #[.slice A n' c], .bool (dmaOk l p d x.at_ (m : Int) true)])), (39, RowP w9.heap.size 9 1 n' ((dmaW l p d x.at_ (t.extract 0 m) true).flatMap fun x : ByteArray => [Value.string x]) (fun A c => .tuple #[.agg #[.slice A n' c], .bool (dmaOk l p d x.at_ (m : Int) true)])), (52, RowP w9.heap.size 9 1 n' ((dmaW l p d x.at_ (t.extract 0 m) true).flatMap fun x : ByteArray => [Value.string x]) (fun A c => .agg #[.slice A n' c])), (53, fun _ v => v = .bool (dmaOk l p d x.at_ (m : Int) true)), (15, BoxP w9.heap.size 39 1), (16, fun _ v => v = .bool (dmaOk l p d x.at_ (m : Int) true))] [⟨16, 15, fun _ => True, StoR w9.heap.size 39 9 1 n' ((dmaW l p d x.at_ (t.extract 0 m) true).flatMap fun x : ByteArray => [Value.string x]) (fun A c => [.slice A n' c])⟩] (fun u => Blk u (w.heap.size) 39 [.slice A' n' c'] ∧ Blk u (w.heap.size + 1) 39 [.slice none 0 0] ∧ Blk u (w1.heap.size) 39 [.slice A4 n' c4] ∧ u.ownsRow (w.heap.size + 1 + 1) 9 1 (.slice A4 n' c4) n' (p.flatMap fun x : ByteArray => [Value.string x])) (by kernel_rfl) (by omega) (by kernel_rfl) (by kernel_rfl) (by kernel_rfl) (by kernel_rfl) ?_ ?_ ?_ ?_ ?_ ?_ ?_
          · intro p hp
            simp only [List.mem_cons, List.not_mem_nil, or_false] at hp
            rcases hp with rfl | rfl | rfl | rfl | rfl | rfl | rfl | rfl | rfl | rfl | rfl | rfl | rfl | rfl | rfl | rfl | rfl
            all_goals (intro u u' v hb hv; first | exact hv | exact BoxP.keep hv hb | exact RowP.keep hv hb)
          · intro s hs u u' hb
            simp only [List.mem_cons, List.not_mem_nil, or_false] at hs
            rcases hs with rfl
            all_goals (refine ⟨fun h => ?_, fun _ h => ?_⟩ <;> first | exact h | exact StoP.keep h hb | exact StoR.keep h hb | exact Blk.ext h hb | exact StaR.keep h hb)
          · intro s hs
            simp only [List.mem_cons, List.not_mem_nil, or_false] at hs
            rcases hs with rfl
            all_goals first | trivial
          · exact ⟨hk0, hk1, hk2, o_q⟩
          · intro u u' hb hj
            obtain ⟨j0, j1, j2, j3⟩ := hj
            exact ⟨(j0.ext hb), (j1.ext hb), (j2.ext hb), (own_ext j3 hb)⟩
          · intro hGk hSk hJk
            refine allStep_cons (stepS_plain hGk hSk (by omega) hJk (by kernel_rfl) rfl ?_) ?_
            · intro a u hb hz hj hl hp K Q hK
              have e0 : a.tmps[0]?.getD undef = .slice A n c := gd (hl 0 (by kernel_rfl))
              go_simp
              exact hK _ _ (Below.refl _ _) (by intro d hd; cases hd; exact rfl)
            refine allStep_cons (stepS_plain hGk hSk (by omega) hJk (by kernel_rfl) rfl ?_) ?_
            · intro a u hb hz hj hl hp K Q hK
              have e12 : a.tmps[12]?.getD undef = .pointer (some ⟨w1.heap.size, 0, none⟩) := gd (hl 12 (by kernel_rfl))
              obtain ⟨j0, j1, j2, j3⟩ := hj
              have hBb := j2
              have gb0 : u.cell? ⟨w1.heap.size, 0, none⟩ = some (.slice A4 n' c4) := (hBb.cell 0).trans rfl
              go_simp
              exact hK _ _ (Below.refl _ _) (by intro d hd; cases hd; exact rfl)
            refine allStep_cons (stepS_plain hGk hSk (by omega) hJk (by kernel_rfl) rfl ?_) ?_
            · intro a u hb hz hj hl hp K Q hK
              have e2 : a.tmps[2]?.getD undef = .int .i64 d := gd (hl 2 (by kernel_rfl))
              go_simp
              exact hK _ _ (Below.refl _ _) (by intro d hd; cases hd; exact rfl)
            refine allStep_cons (stepS_plain hGk hSk (by omega) hJk (by kernel_rfl) rfl ?_) ?_
            · intro a u hb hz hj hl hp K Q hK
              have e3 : a.tmps[3]?.getD undef = .slice (some ⟨b3, o3, none⟩) n3 c3 := gd (hl 3 (by kernel_rfl))
              go_simp
              exact hK _ _ (Below.refl _ _) (by intro d hd; cases hd; exact rfl)
            refine allStep_cons (stepS_plain hGk hSk (by omega) hJk (by kernel_rfl) rfl ?_) ?_
            · intro a u hb hz hj hl hp K Q hK
              have e13 : a.tmps[13]?.getD undef = .int .i64 (k : Int) := gd (hl 13 (by kernel_rfl))
              go_simp
              exact hK _ _ (Below.refl _ _) (by intro d hd; cases hd; exact rfl)
            refine allStep_cons (stepS_plain hGk hSk (by omega) hJk (by kernel_rfl) rfl ?_) ?_
            · intro a u hb hz hj hl hp K Q hK
              have e43 : a.tmps[43]?.getD undef = .slice (some ⟨b3, o3, none⟩) n3 c3 := gd (hl 43 (by kernel_rfl))
              have e44 : a.tmps[44]?.getD undef = .int .i64 (k : Int) := gd (hl 44 (by kernel_rfl))
              go_simp
              exact hK _ _ (Below.refl _ _) (by intro d hd; cases hd; exact rfl)
            refine allStep_cons (stepS_plain hGk hSk (by omega) hJk (by kernel_rfl) rfl ?_) ?_
            · intro a u hb hz hj hl hp K Q hK
              have e45 : a.tmps[45]?.getD undef = .pointer (some ⟨b3, o3 + k * 2, none⟩) := gd (hl 45 (by kernel_rfl))
              go_simp
              exact hK _ _ (Below.refl _ _) (by intro d hd; cases hd; exact rfl)
            refine allStep_cons (stepS_plain hGk hSk (by omega) hJk (by kernel_rfl) rfl ?_) ?_
            · intro a u hb hz hj hl hp K Q hK
              have e46 : a.tmps[46]?.getD undef = .pointer (some ⟨b3, o3 + k * 2, none⟩) := gd (hl 46 (by kernel_rfl))
              have c0 := (hb.cell (p := ⟨b3, o3 + k * 2, none⟩) hb3).trans c0
              go_simp
              exact hK _ _ (Below.refl _ _) (by intro d hd; cases hd; exact rfl)
            refine allStep_cons (stepS_plain hGk hSk (by omega) hJk (by kernel_rfl) rfl ?_) ?_
            · intro a u hb hz hj hl hp K Q hK
              have e4 : a.tmps[4]?.getD undef = .string t := gd (hl 4 (by kernel_rfl))
              go_simp
              exact hK _ _ (Below.refl _ _) (by intro d hd; cases hd; exact rfl)
            refine allStep_cons (stepS_plain hGk hSk (by omega) hJk (by kernel_rfl) rfl ?_) ?_
            · intro a u hb hz hj hl hp K Q hK
              have e14 : a.tmps[14]?.getD undef = .int .i64 (m : Int) := gd (hl 14 (by kernel_rfl))
              go_simp
              exact hK _ _ (Below.refl _ _) (by intro d hd; cases hd; exact rfl)
            refine allStep_cons (stepS_plain hGk hSk (by omega) hJk (by kernel_rfl) rfl ?_) ?_
            · intro a u hb hz hj hl hp K Q hK
              have e48 : a.tmps[48]?.getD undef = .string t := gd (hl 48 (by kernel_rfl))
              have e49 : a.tmps[49]?.getD undef = .int .i64 (m : Int) := gd (hl 49 (by kernel_rfl))
              go_simp
              exact hK _ _ (Below.refl _ _) (by intro d hd; cases hd; exact rfl)
            refine allStep_cons (stepS_plain hGk hSk (by omega) hJk (by kernel_rfl) rfl ?_) ?_
            · intro a u hb hz hj hl hp K Q hK
              have e40 : a.tmps[40]?.getD undef = .slice A n c := gd (hl 40 (by kernel_rfl))
              have e41 : a.tmps[41]?.getD undef = .agg #[.slice A4 n' c4] := gd (hl 41 (by kernel_rfl))
              have e42 : a.tmps[42]?.getD undef = .int .i64 d := gd (hl 42 (by kernel_rfl))
              have e47 : a.tmps[47]?.getD undef = .int .i64 x.at_ := gd (hl 47 (by kernel_rfl))
              have e50 : a.tmps[50]?.getD undef = .string (t.extract 0 m) := gd (hl 50 (by kernel_rfl))
              obtain ⟨j0, j1, j2, j3⟩ := hj
              go_simp
              refine (specDmaWrite_c _ _ _ _ _ _ l p _ hn_a hpl.out hs_a hs_b ((r_a.below (hb.mono (by omega))).more (by omega)) (Reads.of_own j3) _ _ _ hI1 hE).mono ?_
              rintro e u1 ⟨A_v, c_v, rfl, o_v, hb1⟩
              exact hK _ _ hb1 (by intro d hd; cases hd; exact ⟨A_v, c_v, (by rw [HSM.out]), own_base o_v (by omega)⟩)
            refine allStep_cons (stepS_plain hGk hSk (by omega) hJk (by kernel_rfl) rfl ?_) ?_
            · intro a u hb hz hj hl hp K Q hK
              obtain ⟨A1, c1, ex51, o1⟩ : RowP w9.heap.size 9 1 n' ((dmaW l p d x.at_ (t.extract 0 m) true).flatMap fun x : ByteArray => [Value.string x]) (fun A c => .tuple #[.agg #[.slice A n' c], .bool (dmaOk l p d x.at_ (m : Int) true)]) u (a.tmps.getD 51 undef) := hl 51 (by kernel_rfl)
              have e51 := gd ex51
              go_simp
              exact hK _ _ (Below.refl _ _) (by intro d hd; cases hd; exact ⟨A1, c1, rfl, o1⟩)
            refine allStep_cons (stepS_plain hGk hSk (by omega) hJk (by kernel_rfl) rfl ?_) ?_
            · intro a u hb hz hj hl hp K Q hK
              obtain ⟨A1, c1, ex39, o1⟩ : RowP w9.heap.size 9 1 n' ((dmaW l p d x.at_ (t.extract 0 m) true).flatMap fun x : ByteArray => [Value.string x]) (fun A c => .tuple #[.agg #[.slice A n' c], .bool (dmaOk l p d x.at_ (m : Int) true)]) u (a.tmps.getD 39 undef) := hl 39 (by kernel_rfl)
              have e39 := gd ex39
              go_simp
              exact hK _ _ (Below.refl _ _) (by intro d hd; cases hd; exact ⟨A1, c1, rfl, o1⟩)
            refine allStep_cons (stepS_plain hGk hSk (by omega) hJk (by kernel_rfl) rfl ?_) ?_
            · intro a u hb hz hj hl hp K Q hK
              obtain ⟨A1, c1, ex39, o1⟩ : RowP w9.heap.size 9 1 n' ((dmaW l p d x.at_ (t.extract 0 m) true).flatMap fun x : ByteArray => [Value.string x]) (fun A c => .tuple #[.agg #[.slice A n' c], .bool (dmaOk l p d x.at_ (m : Int) true)]) u (a.tmps.getD 39 undef) := hl 39 (by kernel_rfl)
              have e39 := gd ex39
              go_simp
              exact hK _ _ (Below.refl _ _) (by intro d hd; cases hd; exact rfl)
            refine allStep_cons (stepS_plain hGk hSk (by omega) hJk (by kernel_rfl) rfl ?_) ?_
            · intro a u hb hz hj hl hp K Q hK
              go_simp
              exact hK _ _ (by go_grown) (by intro d hd; cases hd; exact BoxP.new _ _ [.slice none 0 0] (by omega) rfl)
            refine allStep_cons (stepS_store (Chg w9.heap.size 39) (fun _ _ hc hb => hc.below' (by omega) hb) (fun _ _ hc => hc.size) (hold_rel ?_) ?_ ?_ rfl rfl ?_) ?_
            · intro p hp
              simp only [List.mem_cons, List.not_mem_nil, or_false] at hp
              rcases hp with rfl | rfl | rfl | rfl | rfl | rfl | rfl | rfl | rfl | rfl | rfl | rfl | rfl | rfl | rfl | rfl | rfl
              all_goals (intro u u' v hb hv; first | exact hv | exact BoxP.chg hv hb | exact RowP.chg hv hb (by decide))
            · intro s hs hne u u' hb
              simp only [List.mem_cons, List.not_mem_nil, or_false] at hs
              rcases hs with rfl
              all_goals first | exact absurd (by rfl) hne | (refine ⟨fun h => ?_, fun _ h => ?_⟩ <;> first | exact h | exact StoP.chg h hb (by decide) | exact StoR.chg h hb (by decide) (by decide) | exact Blk.chgL h hb (by omega) | exact StaR.chgL h hb (by omega) (by decide))
            · intro u u' hb hj
              obtain ⟨j0, j1, j2, j3⟩ := hj
              exact ⟨(j0.chgL hb (by omega)), (j1.chgL hb (by omega)), (j2.chgL hb (by omega)), (own_chgL j3 hb (fun k hk => (o_q.lt k hk).2))⟩
            · intro a u hb hz hj hl hp K Q hK
              obtain ⟨b, exb, hB, zs, hzl, hbk⟩ : BoxP w9.heap.size 39 1 u (a.tmps.getD 15 undef) := hl 15 (by kernel_rfl)
              have e15 := gd exb
              obtain ⟨A2, c2, ex52, o2⟩ : RowP w9.heap.size 9 1 n' ((dmaW l p d x.at_ (t.extract 0 m) true).flatMap fun x : ByteArray => [Value.string x]) (fun A c => .agg #[.slice A n' c]) u (a.tmps.getD 52 undef) := hl 52 (by kernel_rfl)
              have e52 := gd ex52
              obtain ⟨z0, rfl⟩ : ∃ z0, zs = [z0] := (by match zs, hzl with | [z0], _ => exact ⟨_, rfl⟩)
              have hlt := hbk.lt
              have g0 : u.cell? ⟨b, 0, none⟩ = some z0 := (hbk.cell 0).trans rfl
              have f0 := hbk.frozen 0
              go_simp
              refine hK undef _ ((Chg.refl _ _ _).set hbk hB 0 _) (fun s hs he => ?_)
              simp only [List.mem_cons, List.not_mem_nil, or_false] at hs
              rcases hs with rfl
              · exact ⟨b, A2, c2, exb, hB, (hbk.set_ 0 _), own_chg o2 ((Chg.refl _ _ _).set hbk hB 0 _) (by decide)⟩
            refine allStep_cons (stepS_plain hGk hSk (by omega) hJk (by kernel_rfl) rfl ?_) ?_
            · intro a u hb hz hj hl hp K Q hK
              have e53 : a.tmps[53]?.getD undef = .bool (dmaOk l p d x.at_ (m : Int) true) := gd (hl 53 (by kernel_rfl))
              go_simp
              exact hK _ _ (Below.refl _ _) (by intro d hd; cases hd; exact rfl)
            exact allStep_nil
          intro xT w10 hb hz hj hL hSt
          obtain ⟨hk0, hk1, hk2, o_q⟩ := hj
          have fx16 : xT 16 = .bool (dmaOk l p d x.at_ (m : Int) true) := hL _ (List.mem_of_getElem? (i := 16) rfl)
          obtain ⟨bk_3, A_v, c_v, fx15, lo3, hk3, o_v⟩ : StoR w9.heap.size 39 9 1 n' ((dmaW l p d x.at_ (t.extract 0 m) true).flatMap fun x : ByteArray => [Value.string x]) (fun A c => [.slice A n' c]) w10 (xT 15) := hSt _ (List.mem_of_getElem? (i := 0) rfl)
          simp only [List.map, putAll, fx16, fx15]
          have bl3 := hk3.lt
          have k10 : Below w.heap.size w w10 := k9.trans hb
          have p10 : w9.heap.size ≤ w10.heap.size := hb.size
          have bl0 := Nat.lt_of_lt_of_le bl0 hb.size
          have bl1 := Nat.lt_of_lt_of_le bl1 hb.size
          have bl2 := Nat.lt_of_lt_of_le bl2 hb.size
          have r_a := r_a.below hb
          have r_b := r_b.below hb
          have r_p := r_p.below hb
          have r_q := Reads.of_own o_q
          have nb_v_3 := own_ty o_v hk3 (by decide)
          have r_v := Reads.of_own o_v
          have u_v := fun k hk => (o_v.lt k hk).2
          have bx0_0 : w10.cell? ⟨w.heap.size, 0, none⟩ = some (.slice A' n' c') := (hk0.cell 0).trans rfl
          have fz0_0 := hk0.frozen 0
          have bx1_0 : w10.cell? ⟨w.heap.size + 1, 0, none⟩ = some (.slice none 0 0) := (hk1.cell 0).trans rfl
          have fz1_0 := hk1.frozen 0
          have bx2_0 : w10.cell? ⟨w1.heap.size, 0, none⟩ = some (.slice A4 n' c4) := (hk2.cell 0).trans rfl
          have fz2_0 := hk2.frozen 0
          have bx3_0 : w10.cell? ⟨bk_3, 0, none⟩ = some (.slice A_v n' c_v) := (hk3.cell 0).trans rfl
          have fz3_0 := hk3.frozen 0
          clear hL hSt hb hz fx16 fx15
          rw [HD.out]
          go_wp2_with fail
          have hc : ChgA (w1.heap.size) w10 (w10.setCell ⟨w1.heap.size, 0, none⟩ (.slice A_v n' c_v)) := (ChgA.refl _ _).set _ _
          have hko := hk2
          have hk0 := hk0.chgA hc (by omega)
          have hk1 := hk1.chgA hc (by omega)
          have hk3 := hk3.chgA hc (by omega)
          have hk2 : Blk (w10.setCell ⟨w1.heap.size, 0, none⟩ (.slice A_v n' c_v)) (w1.heap.size) 39 [.slice A_v n' c_v] := hk2.set_ 0 _
          have k11 : Below w.heap.size w (w10.setCell ⟨w1.heap.size, 0, none⟩ (.slice A_v n' c_v)) := hc.below (by omega) k10
          have p11 : (w10.setCell ⟨w1.heap.size, 0, none⟩ (.slice A_v n' c_v)).heap.size = w10.heap.size := hc.size
          have bl0 := Nat.lt_of_lt_of_le bl0 (Nat.le_of_eq p11.symm)
          have bl1 := Nat.lt_of_lt_of_le bl1 (Nat.le_of_eq p11.symm)
          have bl2 := Nat.lt_of_lt_of_le bl2 (Nat.le_of_eq p11.symm)
          have bl3 := Nat.lt_of_lt_of_le bl3 (Nat.le_of_eq p11.symm)
          have r_a := r_a.below (hc.below (by omega) (Below.refl _ _))
          have r_b := r_b.below (hc.below (by omega) (Below.refl _ _))
          have r_p := r_p.below (hc.below (by omega) (Below.refl _ _))
          have o_q := own_chgA o_q hc (by first | exact own_ty o_q hko (by decide) | exact fun k hk => by have h1 := o_q.lt k hk; omega)
          have r_q := Reads.of_own o_q
          have o_v := own_chgA o_v hc (by first | exact own_ty o_v hko (by decide) | exact fun k hk => by have h1 := o_v.lt k hk; omega)
          have r_v := Reads.of_own o_v
          generalize hW0 : (w10.setCell ⟨w1.heap.size, 0, none⟩ (.slice A_v n' c_v)) = w11 at *
          clear hW0 hc hko
          have bx0_0 : w11.cell? ⟨w.heap.size, 0, none⟩ = some (.slice A' n' c') := (hk0.cell 0).trans rfl
          have fz0_0 := hk0.frozen 0
          have bx1_0 : w11.cell? ⟨w.heap.size + 1, 0, none⟩ = some (.slice none 0 0) := (hk1.cell 0).trans rfl
          have fz1_0 := hk1.frozen 0
          have bx2_0 : w11.cell? ⟨w1.heap.size, 0, none⟩ = some (.slice A_v n' c_v) := (hk2.cell 0).trans rfl
          have fz2_0 := hk2.frozen 0
          have bx3_0 : w11.cell? ⟨bk_3, 0, none⟩ = some (.slice A_v n' c_v) := (hk3.cell 0).trans rfl
          have fz3_0 := hk3.frozen 0
          go_roundw
          case rel => exact ⟨k + 1, dmaW l p d x.at_ (t.extract 0 m) true, t.extract m t.size, A_v, c_v, by omega, by go_num, rfl, hE2, HPL, HST, k11, by omega, hk0, hk1, hk2, own_base o_v (by omega)⟩
          case measure => simp [intOf]; omega
      · have hfin : scG l d ps pg s = some p := by rw [← hsc.out, List.drop_eq_nil_of_le (by rw [HN3.out]; omega)]; rfl
        have HB := Lib.hid (scat_some (by have := HL.out; omega) hfin).1
        have HM := Lib.hid (scat_some (by have := HL.out; omega) hfin).2
        clear hfin
        have bx0_0 : w9.cell? ⟨w.heap.size, 0, none⟩ = some (.slice A' n' c') := (hk0.cell 0).trans rfl
        have fz0_0 := hk0.frozen 0
        have bx1_0 : w9.cell? ⟨w.heap.size + 1, 0, none⟩ = some (.slice none 0 0) := (hk1.cell 0).trans rfl
        have fz1_0 := hk1.frozen 0
        have bx2_0 : w9.cell? ⟨w1.heap.size, 0, none⟩ = some (.slice A4 n' c4) := (hk2.cell 0).trans rfl
        have fz2_0 := hk2.frozen 0
        go_wp2_with fail
        have hc : ChgA (w.heap.size + 1) w9 (w9.setCell ⟨w.heap.size + 1, 0, none⟩ (.slice A4 n' c4)) := (ChgA.refl _ _).set _ _
        have hko := hk1
        have hk0 := hk0.chgA hc (by omega)
        have hk2 := hk2.chgA hc (by omega)
        have hk1 : Blk (w9.setCell ⟨w.heap.size + 1, 0, none⟩ (.slice A4 n' c4)) (w.heap.size + 1) 39 [.slice A4 n' c4] := hk1.set_ 0 _
        have k10 : Below w.heap.size w (w9.setCell ⟨w.heap.size + 1, 0, none⟩ (.slice A4 n' c4)) := hc.below (by omega) k9
        have p10 : (w9.setCell ⟨w.heap.size + 1, 0, none⟩ (.slice A4 n' c4)).heap.size = w9.heap.size := hc.size
        have bl0 := Nat.lt_of_lt_of_le bl0 (Nat.le_of_eq p10.symm)
        have bl1 := Nat.lt_of_lt_of_le bl1 (Nat.le_of_eq p10.symm)
        have bl2 := Nat.lt_of_lt_of_le bl2 (Nat.le_of_eq p10.symm)
        have r_a := r_a.below (hc.below (by omega) (Below.refl _ _))
        have r_b := r_b.below (hc.below (by omega) (Below.refl _ _))
        have r_p := r_p.below (hc.below (by omega) (Below.refl _ _))
        have o_q := own_chgA o_q hc (by first | exact own_ty o_q hko (by decide) | exact fun k hk => by have h1 := o_q.lt k hk; omega)
        have r_q := Reads.of_own o_q
        generalize hW0 : (w9.setCell ⟨w.heap.size + 1, 0, none⟩ (.slice A4 n' c4)) = w10 at *
        clear hW0 hc hko
        have bx0_0 : w10.cell? ⟨w.heap.size, 0, none⟩ = some (.slice A' n' c') := (hk0.cell 0).trans rfl
        have fz0_0 := hk0.frozen 0
        have bx1_0 : w10.cell? ⟨w.heap.size + 1, 0, none⟩ = some (.slice A4 n' c4) := (hk1.cell 0).trans rfl
        have fz1_0 := hk1.frozen 0
        have bx2_0 : w10.cell? ⟨w1.heap.size, 0, none⟩ = some (.slice A4 n' c4) := (hk2.cell 0).trans rfl
        have fz2_0 := hk2.frozen 0
        refine bodyPost_ret (v := .tuple #[.agg #[.slice A4 n' c4], .bool true]) (by simp [results, Try.results43, go_sem, bx1_0]) rfl ?_
        rw [HM.out]
        exact ⟨A4, c4, by rw [HB.out], own_base o_q (by omega), k10⟩
end Go.Proofs.Ytnnlagmgdfhaiaa
