/- Contract of the reference's draws: l17List. -/
import Derived.Test.YtnnlagmgdfhaiaaDraw4
import Derived.Test.YtnnlagmgdfhaiaaMapPage
namespace Go.Proofs.Ytnnlagmgdfhaiaa
set_option linter.unusedSimpArgs false
set_option linter.unusedVariables false
open Go.RowKit Go.ChangeShapes Go.WideShapes
theorem mapL_ok {l : List Mapping} (x : Mapping) (h : mapsB l = true) : mapsB (mapL l x) = true := by
  unfold mapL mapOk
  split
  · rename_i h2; simp only [Bool.and_eq_true] at h2; exact h2.2
  · exact h
theorem mapL_len2 (l : List Mapping) (x : Mapping) : (mapL l x).length ≤ l.length + 1 := by
  unfold mapL
  split <;> simp
/-- Drawn mappings: valid, at most thirteen. -/
def DrawL (g : Nat) (A : Option Addr) (n c : Nat) (w : World) (e : Ending) (w' : World) : Prop := ∃ (ml : List Mapping) (A2 : Option Addr) (c2 : Nat), (mapsB ml = true ∧ ml.length ≤ 13) ∧ e = .returned (.slice A2 ml.length c2) ∧ w'.ownsRow w.heap.size 51 4 (.slice A2 ml.length c2) ml.length (ml.flatMap Mapping.cells) ∧ Cur w' g A n c ∧ w.grownBy w' (some g)
theorem own_cur {w w1 : World} {g base : Nat} {e : TypeId} {size n : Nat} {v : Value} {xs : List Value} (h : w.ownsRow base e size v n xs) (hh : w.grownBy w1 (some g)) (hg : g < base) : w1.ownsRow base e size v n xs :=
  own_far (u := .slice (some ⟨g, 0, none⟩) 0 0) h hh (fun q h1 h2 => by
    have h3 : g = q := by simpa [Value.ownBlock] using h2
    have := (h.lt q h1).1
    omega)
theorem cur_below {w w1 : World} {g : Nat} {A : Option Addr} {n c : Nat} (h : Cur w g A n c) (hb : Below w.heap.size w w1) : Cur w1 g A n c := by
  obtain ⟨i, k, hk, r⟩ := h; exact ⟨i, k, hk.ext hb, r⟩
set_option maxRecDepth 100000 in
set_option maxHeartbeats 4000000 in
theorem l17List_c (g : Nat) (A : Option Addr) (n c : Nat) (l : List Int) (w : World) (hcur : Cur w g A n c) (hn : l.length = n) (hm : n ≤ 1048576) (hr : Reads w g 1 A n (l.flatMap fun x : Int => [Value.int .u8 x])) (hb : ∀ x ∈ l, 0 ≤ x ∧ x ≤ 255) :
    Calls Try.prog 81 #[.pointer (some ⟨g, 0, none⟩)] w (DrawL g A n c w) := by
  have hlt0 := hcur.lt
  have HN := Lib.hid hn
  clear hn
  go_enter Try.func81, Try.ntmps81
  go_wp2_with fail
  refine (l01Below_c g A n c l _ (hcur.alloc _) HN.out hm (reads_cur hr (grown_al (World.grownBy.refl _ _) _) hlt0) hb 14 (by decide) (by decide)).mono ?_
  rintro e w1 ⟨xk, ⟨k0, k1⟩, rfl, q1, hh⟩
  have own1 := own_cur (own_empty (Blk.new w 51 []) (Nat.le_refl _) (size := 4)) hh hlt0
  have g1 := grown_trans (grown_al (World.grownBy.refl w (some g)) _) hh
  clear hh
  go_wp2
  go_loopw [3, 4] (fun v i wr => ∃ (k : Int) (ml : List Mapping) (A4 : Option Addr) (c4 : Nat), v = .slice A4 ml.length c4 ∧ i = .int .i64 k ∧ 0 ≤ k ∧ (ml.length : Int) + k ≤ 13 ∧ Hid (mapsB ml = true) ∧ wr.ownsRow w.heap.size 51 4 (.slice A4 ml.length c4) ml.length (ml.flatMap Mapping.cells) ∧ Cur wr g A n c ∧ w.grownBy wr (some g)) (fun _ i _ => (intOf i).toNat)
  case atStart => exact ⟨xk, [], some ⟨w.heap.size, 0, none⟩, 0, rfl, rfl, by omega, by simp; omega, Lib.hid (by decide), own1, q1, g1⟩
  case round =>
    obtain ⟨k, ml, A4, c4, rfl, rfl, hk0, hk, hmb, own2, q2, hg2⟩ := hrel
    clear own1 q1 g1
    obtain ⟨j, hj⟩ : ∃ j, ml.length = j := ⟨_, rfl⟩
    have HJ := Lib.hid hj
    rw [hj] at hk own2 ⊢
    by_cases hlt : 0 < k
    · clear hj
      have HO := fun (x : Mapping) => Lib.hid (mapL_ok x hmb.out)
      have HL := fun (x : Mapping) => Lib.hid (mapL_len2 ml x)
      go_wp2_with fail
      refine (l17Mapping_c g A n c l _ q2 HN.out hm (reads_cur hr hg2 hlt0) hb).mono ?_
      rintro e w2 ⟨dom, vir, phy, wb, hbd, rfl, q3, hh⟩
      have own3 := own_cur own2 hh hlt0
      have hg3 := grown_trans hg2 hh
      clear hh hbd
      go_wp2_with fail
      refine (specMapPage_c A4 j c4 ml _ HJ.out (by omega) (Reads.of_own own3) ⟨dom, vir, phy, wb⟩).mono ?_
      rintro e w3 ⟨A5, c5, rfl, own5, hbW⟩
      have q4 := cur_below q3 hbW
      have hgz := hg3.size
      have hg4 := only_below hg3 hbW
      have own5 := own_base own5 (base' := w.heap.size) hgz
      clear hbW
      go_wp2
      go_roundw
      case rel => exact ⟨k - 1, mapL ml ⟨dom, vir, phy, wb⟩, A5, c5, rfl, rfl, by omega, by have := (HL ⟨dom, vir, phy, wb⟩).out; have := HJ.out; omega, HO _, own5, q4, hg4⟩
      case measure => simp [intOf]; omega
    · go_wp2
      go_ret
      exact ⟨ml, A4, c4, ⟨hmb.out, by omega⟩, by rw [HJ.out]; rfl, by rw [HJ.out]; exact own2, q2, hg2⟩
end Go.Proofs.Ytnnlagmgdfhaiaa
