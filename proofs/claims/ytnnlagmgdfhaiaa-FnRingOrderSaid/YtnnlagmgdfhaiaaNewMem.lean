/- Contracts of NewMemory: impl and spec. -/
import Derived.Test.YtnnlagmgdfhaiaaRepeat
import Derived.Test.YtnnlagmgdfhaiaaApp
import Derived.Test.YtnnlagmgdfhaiaaConvStr
import Derived.Test.YtnnlagmgdfhaiaaIn
import Derived.Deep.RegionLaw
namespace Go.Proofs.Ytnnlagmgdfhaiaa
set_option linter.unusedSimpArgs false
set_option linter.unusedVariables false
open Go.RowKit Go.ChangeShapes Go.WideShapes
/-- The pages of a new memory. -/
def newL (pages : Int) : List ByteArray := if inB pages 0 64 then List.replicate pages.toNat (repB 0 128) else []
set_option maxHeartbeats 4000000 in
set_option maxRecDepth 100000 in
theorem specNewMemory_c (pages : Int) (w : World) (hp : I64 pages) :
    Calls Try.prog 102 #[.int .i64 pages] w fun e w' => ∃ A c, e = .returned (.agg #[.slice A (newL pages).length c]) ∧ w'.ownsRow w.heap.size 9 1 (.slice A (newL pages).length c) (newL pages).length ((newL pages).flatMap fun x : ByteArray => [Value.string x]) ∧ Below w.heap.size w w' := by
  obtain ⟨i0, hi, hz0, hz1, hz2⟩ := info_parts info_string
  by_cases b1 : 0 ≤ pages
  · by_cases b2 : pages ≤ 64
    · have e1 : inB pages 0 64 = true := by simp [inB]; omega
      obtain ⟨p, rfl⟩ := Int.eq_ofNat_of_zero_le b1
      have hl : newL (p : Int) = List.replicate p (repB 0 128) := by rw [newL, e1]; rfl
      rw [hl, List.length_replicate]
      go_enter Try.func102, Try.ntmps102
      go_wp2
      go_loopw [4] (fun i wr => ∃ (k : Nat) (v : Value), k ≤ p ∧ i = .int .i64 k ∧ Below w.heap.size w wr ∧ wr.ownsRow w.heap.size 9 1 v k ((List.replicate k (repB 0 128)).flatMap fun x : ByteArray => [Value.string x]) ∧ v.ownBlock ≠ some (w.heap.size) ∧ v.ownBlock ≠ some (w.heap.size + 1) ∧ wr.cell? ⟨w.heap.size, 0, none⟩ = some (.slice none 0 0) ∧ wr.frozen? ⟨w.heap.size, 0, none⟩ = false ∧ wr.cell? ⟨w.heap.size + 1, 0, none⟩ = some v ∧ wr.frozen? ⟨w.heap.size + 1, 0, none⟩ = false ∧ w.heap.size + 1 < wr.heap.size) (fun i _ => p - (intOf i).toNat)
      case atStart => exact ⟨0, .slice none 0 0, Nat.zero_le _, rfl, by go_grown, own_nil _ _ _ _, by simp [Value.ownBlock], by simp [Value.ownBlock], by simp [go_sem], by simp [go_sem], by simp [go_sem], by simp [go_sem], by simp [go_sem]⟩
      case round =>
        obtain ⟨k, v, hk, rfl, hbw, hown, hn0, hn1, c0, f0, c1, f1, z1⟩ := hrel
        have hsz := hbw.size
        by_cases hlt : k < p
        · go_wp2_with fail
          go_region_law (first
            | (go_simp; go_at_call 140; refine (l01Long_c128 _).mono ?_; rintro e w1 ⟨rfl, hb⟩; have hb : Below wr.heap.size wr w1 := below_undrew hb; have hbw1 : Below w.heap.size w w1 := ext_step hbw hsz hb; have hsz1 := hbw1.size; have hown1 := own_ext hown hb; obtain ⟨c0, f0, z0⟩ := own_cell hb c0 f0; obtain ⟨c1, f1, z1⟩ := own_cell hb c1 f1; clear hb)
            | (refine step_append_any _ rfl _ _ 37 rfl w.heap.size 9 i0 (.string ByteArray.empty) 1 16 Try.underlying37 hi hz0 hz1 hz2 rfl (by decide) v k ((List.replicate k (repB 0 128)).flatMap fun x : ByteArray => [Value.string x]) rfl (hown1.alloc _) (w1.heap.size + 1) (some ⟨w1.heap.size, 0, none⟩) 1 1 [.string (repB 0 128)] rfl (new_reads _ _ _) (by intro u hu; simp at hu; subst hu; rfl) (by unfold maxLen; omega) (by omega) (by go_size) ?_; intro v2 w2 hown2 hg2 hat2; have hb2 : Below w.heap.size w w2 := below_app (hbw1.alloc (by omega) _) (hown1.alloc _) hg2 (by go_size); have hba : Below w1.heap.size w1 (w1.alloc (.cells #[.string (repB 0 128)] 9)) := (Below.refl _ _).alloc (Nat.le_refl _) _; obtain ⟨c0, f0, z0⟩ := own_cell hba c0 f0; obtain ⟨c1, f1, z1⟩ := own_cell hba c1 f1; have c0 := cell_ne hg2 c0 hn0; have c1 := cell_ne hg2 c1 hn1; have f0 := frozen_ne (o := 0) hg2 z0 f0 hn0; have f1 := frozen_ne (o := 0) hg2 z1 f1 hn1; have z2 : w.heap.size + 1 < w2.heap.size := Nat.lt_of_lt_of_le z1 hg2.size; obtain ⟨A2, c2, rfl, hr2, hl2, hm2⟩ := own_form hown2; clear hba))
          all_goals
            have hn0' : (Value.slice A2 (k + 1) c2).ownBlock ≠ some (w.heap.size) := by
              rcases hat2 with h | h
              · rw [h]; exact hn0
              · rw [h]; intro e; injection e with e; omega
            have hn1' : (Value.slice A2 (k + 1) c2).ownBlock ≠ some (w.heap.size + 1) := by
              rcases hat2 with h | h
              · rw [h]; exact hn1
              · rw [h]; intro e; injection e with e; omega
            clear hn0 hn1 hat2 hr2 hown1 hown hbw1
            go_wp2
            go_roundw
            case rel => exact ⟨k + 1, _, hlt, by go_num, hb2.setCell (by show w.heap.size ≤ w.heap.size + 1; omega) _, own_set_ne (by simpa [List.replicate_succ'] using hown2) hn1' _, hn0', hn1', by rw [World.cell?_setCell_other _ _ _ _ (by simp)]; exact c0, by simpa [go_sem] using f0, by simp [go_sem, c1], by simpa [go_sem] using f1, by simpa [go_sem] using z2⟩
            case measure => simp [intOf]; omega
        · have hkp : k = p := by omega
          subst hkp
          obtain ⟨A2, c2, rfl, hr2, hl2, hm2⟩ := own_form hown
          go_wp2
          refine bodyPost_ret (v := .agg #[.slice A2 k c2]) (by simp [results, Try.results102, go_sem, c0]) rfl ?_
          exact ⟨A2, c2, rfl, own_set_ne hown hn0 _, hbw.setCell (Nat.le_refl _) _⟩
    · have e1 : inB pages 0 64 = false := by simp [inB]; omega
      have hl : newL pages = [] := by rw [newL, e1]; rfl
      rw [hl]
      go_enter Try.func102, Try.ntmps102
      go_wp2
      go_loopw [4] (fun i wr => i = .int .i64 0 ∧ Below w.heap.size w wr ∧ wr.cell? ⟨w.heap.size, 0, none⟩ = some (.slice none 0 0) ∧ wr.frozen? ⟨w.heap.size, 0, none⟩ = false ∧ wr.cell? ⟨w.heap.size + 1, 0, none⟩ = some (.slice none 0 0)) (fun i _ => 0)
      case atStart => exact ⟨rfl, by go_grown, by simp [go_sem], by simp [go_sem], by simp [go_sem]⟩
      case round =>
        obtain ⟨rfl, hbw, c0, f0, c1⟩ := hrel
        have h1 : (0:Int) < pages := by omega
        have b2 : (64:Int) < pages := by omega
        clear b1 e1 hl hi hz0 hz1 hz2 hp
        go_wp2
        refine bodyPost_ret (v := .agg #[.slice none 0 0]) (by simp [results, Try.results102, go_sem, c0]) rfl ?_
        exact ⟨none, 0, rfl, own_nil _ _ _ _, hbw.setCell (Nat.le_refl _) _⟩
  · have e1 : inB pages 0 64 = false := by simp [inB]; omega
    have hl : newL pages = [] := by rw [newL, e1]; rfl
    rw [hl]
    go_enter Try.func102, Try.ntmps102
    go_wp2
    go_loopw [4] (fun i wr => i = .int .i64 0 ∧ Below w.heap.size w wr ∧ wr.cell? ⟨w.heap.size, 0, none⟩ = some (.slice none 0 0) ∧ wr.frozen? ⟨w.heap.size, 0, none⟩ = false ∧ wr.cell? ⟨w.heap.size + 1, 0, none⟩ = some (.slice none 0 0)) (fun i _ => 0)
    case atStart => exact ⟨rfl, by go_grown, by simp [go_sem], by simp [go_sem], by simp [go_sem]⟩
    case round =>
      obtain ⟨rfl, hbw, c0, f0, c1⟩ := hrel
      have h1 : ¬ (0:Int) < pages := by omega
      go_wp2
      refine bodyPost_ret (v := .agg #[.slice none 0 0]) (by simp [results, Try.results102, go_sem, c0]) rfl ?_
      exact ⟨none, 0, rfl, own_nil _ _ _ _, hbw.setCell (Nat.le_refl _) _⟩
end Go.Proofs.Ytnnlagmgdfhaiaa
